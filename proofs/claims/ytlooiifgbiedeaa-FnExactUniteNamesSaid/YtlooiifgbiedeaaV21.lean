/- VL, part 21: data of a type by its shape; the claim's frame. -/
import Derived.Test.YtlooiifgbiedeaaV20
namespace Go.VL
open Go.RowKit
set_option linter.unusedVariables false
set_option linter.unusedSimpArgs false
section
variable {P : Program} {t : TypeId} {ts : List T}
theorem Ty.inv_int {k : IntKind} (hu : P.underlying t = some (.int k)) (h : Ty P t ts) : ∃ n, ts = [.int k n] ∧ (Lit.int k n).wf = true := by
  cases h <;> simp_all
theorem Ty.inv_bool (hu : P.underlying t = some .bool) (h : Ty P t ts) : ∃ b, ts = [.bool b] := by
  cases h <;> simp_all
theorem Ty.inv_str (hu : P.underlying t = some .string) (h : Ty P t ts) : ∃ s, ts = [.str s] ∧ s.size ≤ reachBytes := by
  cases h <;> simp_all
theorem Ty.inv_sl {e : TypeId} (hu : P.underlying t = some (.slice e)) (h : Ty P t ts) : ∃ g es, ts = [.sl g es] ∧ (∀ x ∈ es, Ty P e x) ∧ es.length * P.bytesOf e ≤ reachBytes := by
  cases h <;> simp_all
  exact ⟨_, _, ⟨rfl, rfl⟩, by assumption, by assumption⟩
theorem Ty.inv_struct {fs : Array Field} (hu : P.underlying t = some (.struct fs)) (h : Ty P t ts) : TyF P fs.toList ts := by
  cases h <;> simp_all
theorem TyF.inv_nil (h : TyF P [] ts) : ts = [] := by cases h; rfl
theorem TyF.inv_cons {f : Field} {fs : List Field} (h : TyF P (f :: fs) ts) : ∃ x y, ts = x ++ y ∧ Ty P f.type x ∧ TyF P fs y := by
  cases h with
  | cons h1 h2 => exact ⟨_, _, rfl, h1, h2⟩

theorem list_of {α : Type} {p : α → List T → Prop} : ∀ {es : List (List T)}, (∀ x ∈ es, ∃ a, p a x) → ∃ l : List α, l.length = es.length ∧ ∀ (i : Nat) (a : α) (x : List T), l[i]? = some a → es[i]? = some x → p a x
  | [], _ => ⟨[], rfl, fun i a x h => by simp at h⟩
  | x :: es, h => by
    obtain ⟨a, ha⟩ := h x List.mem_cons_self
    obtain ⟨l, h1, h2⟩ := list_of (es := es) (fun y hy => h y (List.mem_cons_of_mem _ hy))
    refine ⟨a :: l, by simp [h1], fun i b y hb hy => ?_⟩
    cases i with
    | zero => simp only [List.getElem?_cons_zero, Option.some.injEq] at hb hy; subst hb; subst hy; exact ha
    | succ i => exact h2 i b y (by simpa using hb) (by simpa using hy)
/-- A slice whose elements have one cell each, by a function. -/
theorem map_of {α : Type} {f : α → List T} {q : α → Prop} {es : List (List T)} (h : ∀ x ∈ es, ∃ a, x = f a ∧ q a) : ∃ l : List α, es = l.map f ∧ ∀ a ∈ l, q a := by
  induction es with
  | nil => exact ⟨[], rfl, fun a h => by cases h⟩
  | cons x es ih =>
    obtain ⟨a, rfl, ha⟩ := h x List.mem_cons_self
    obtain ⟨l, rfl, hl⟩ := ih (fun y hy => h y (List.mem_cons_of_mem _ hy))
    exact ⟨a :: l, rfl, fun b hb => (List.mem_cons.1 hb).elim (fun e => e ▸ ha) (fun hb => hl b hb)⟩
theorem Ty.strs {e : TypeId} (hu : P.underlying t = some (.slice e)) (he : P.underlying e = some .string) (hb : 0 < P.bytesOf e) (h : Ty P t ts) : ∃ (g : Nat) (xs : List ByteArray), ts = [.sl g (xs.map fun x => [T.str x])] ∧ xs.length ≤ reachBytes ∧ ∀ x ∈ xs, x.size ≤ reachBytes := by
  obtain ⟨g, es, rfl, h1, h2⟩ := h.inv_sl hu
  obtain ⟨xs, rfl, h3⟩ := map_of (f := fun x : ByteArray => [T.str x]) (q := fun x => x.size ≤ reachBytes) (fun x hx => (h1 x hx).inv_str he)
  rw [List.length_map] at h2
  exact ⟨g, xs, rfl, Nat.le_trans (Nat.le_mul_of_pos_right _ hb) h2, h3⟩
theorem Ty.ints {e : TypeId} {k : IntKind} (hu : P.underlying t = some (.slice e)) (he : P.underlying e = some (.int k)) (hb : 0 < P.bytesOf e) (h : Ty P t ts) : ∃ (g : Nat) (xs : List Int), ts = [.sl g (xs.map fun x => [T.int k x])] ∧ xs.length ≤ reachBytes ∧ ∀ x ∈ xs, (Lit.int k x).wf = true := by
  obtain ⟨g, es, rfl, h1, h2⟩ := h.inv_sl hu
  obtain ⟨xs, rfl, h3⟩ := map_of (f := fun x : Int => [T.int k x]) (q := fun x => (Lit.int k x).wf = true) (fun x hx => (h1 x hx).inv_int he)
  rw [List.length_map] at h2
  exact ⟨g, xs, rfl, Nat.le_trans (Nat.le_mul_of_pos_right _ hb) h2, h3⟩
end

theorem vOf_struct {P : Program} {t : TypeId} {fs : Array Field} (h : P.underlying t = some (.struct fs)) (ts : List T) : vOf P t ts = .agg (ts.map .t) := by unfold vOf; rw [h]
theorem vOf_int {P : Program} {t : TypeId} {k : IntKind} (h : P.underlying t = some (.int k)) (x : T) : vOf P t [x] = .t x := by unfold vOf; rw [h]
theorem vOf_bool {P : Program} {t : TypeId} (h : P.underlying t = some .bool) (x : T) : vOf P t [x] = .t x := by unfold vOf; rw [h]
theorem vOf_str {P : Program} {t : TypeId} (h : P.underlying t = some .string) (x : T) : vOf P t [x] = .t x := by unfold vOf; rw [h]
theorem vOf_sl {P : Program} {t e : TypeId} (h : P.underlying t = some (.slice e)) (x : T) : vOf P t [x] = .t x := by unfold vOf; rw [h]
theorem VRs.nil (w : World) : VRs w (fun _ => False) [] [] #[] := ⟨rfl, fun i c h => by simp at h⟩
theorem VRs.cons {w : World} {v : V} {l : List V} {y : Value} {ys : List Value} (h : VR w (fun _ => False) [] v y) (hr : VRs w (fun _ => False) [] l ys.toArray) : VRs w (fun _ => False) [] (v :: l) (y :: ys).toArray := by
  refine ⟨by have := hr.1; simp at this ⊢; exact this, fun i c hc => ?_⟩
  cases i with
  | zero => simp only [List.getElem?_cons_zero, Option.some.injEq] at hc; subst hc; simpa using h
  | succ i => simpa using hr.2 i c (by simpa using hc)

/-- A law's contract: called with such arguments it gives true, and of what was there nothing turns. -/
theorem law_calls {P : Program} {f : FuncId} {args : List V} {w : World} {vs : Array Value} (h : FCtr P f args (fun r => r = .t (.bool true))) (ha : VRs w (fun _ => False) [] args vs) :
    Calls P f vs w fun e w' => e = .returned (.bool true) ∧ Below w.heap.size w w' := by
  intro cs
  obtain ⟨e, w', fr, ⟨v, r, σ', h1, ⟨h2, h3, h4⟩, h5, h6, h7, _⟩, h8⟩ := h.2 w (fun _ => False) vs (fun b h => h.elim) ha ⟨fun r o h => by simp at h, fun r r' o o' h => by simp at h, fun r o h => by simp at h⟩ cs
  subst h2
  have := h5.bool_inv
  refine ⟨e, w', fr, ⟨by rw [h1, this], ⟨h7.os, h7.tape, h7.output, h7.size, fun k hk => h7.block k hk (fun ⟨r, o, h, _⟩ => by simp at h)⟩⟩, h8⟩

theorem reach47 : reachBytes < 2 ^ 47 := by decide
end Go.VL
