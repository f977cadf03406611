/- VL, part 24: lists of data by the element's reading; bindings, generalizations, rules, programs. -/
import Derived.Test.YtlooiifgbiedeaaV23
namespace Go.VL
set_option linter.unusedVariables false
set_option linter.unusedSimpArgs false

/-- Rows that stand for a list, element by element. -/
def Rl {α : Type} (R : α → List T → Prop) : List α → List (List T) → Prop
  | [], cs => cs = []
  | a :: l, cs => ∃ c r, cs = c :: r ∧ R a c ∧ Rl R l r
section
variable {α : Type} {R : α → List T → Prop}
theorem Rl.len : ∀ {l : List α} {cs : List (List T)}, Rl R l cs → cs.length = l.length
  | [], cs, h => by unfold Rl at h; subst h; rfl
  | a :: l, cs, h => by
    unfold Rl at h
    obtain ⟨c, r, rfl, _, h2⟩ := h
    simp [Rl.len h2]
theorem Rl.get : ∀ {l : List α} {cs : List (List T)}, Rl R l cs → ∀ {n : Nat} (h : n < l.length), ∃ c, cs[n]? = some c ∧ R l[n] c
  | [], cs, h, n, hn => by simp at hn
  | a :: l, cs, h, n, hn => by
    unfold Rl at h
    obtain ⟨c, r, rfl, h1, h2⟩ := h
    cases n with
    | zero => exact ⟨c, rfl, h1⟩
    | succ n => simpa using Rl.get h2 (by simpa using hn)
theorem Rl.append : ∀ {l l' : List α} {cs cs' : List (List T)}, Rl R l cs → Rl R l' cs' → Rl R (l ++ l') (cs ++ cs')
  | [], l', cs, cs', h, h' => by unfold Rl at h; subst h; exact h'
  | a :: l, l', cs, cs', h, h' => by
    unfold Rl at h
    obtain ⟨c, r, rfl, h1, h2⟩ := h
    show Rl R (a :: (l ++ l')) (c :: (r ++ cs'))
    unfold Rl
    exact ⟨c, _, rfl, h1, Rl.append h2 h'⟩
theorem Rl.one {a : α} {c : List T} (h : R a c) : Rl R [a] [c] := by
  unfold Rl
  exact ⟨c, [], rfl, h, by unfold Rl; rfl⟩
theorem Rl.nil : Rl R [] [] := by unfold Rl; rfl
theorem Rl.of_all {p : α → Prop} : ∀ {es : List (List T)}, (∀ x ∈ es, ∃ a, R a x ∧ p a) → ∃ l : List α, Rl R l es ∧ ∀ a ∈ l, p a
  | [], _ => ⟨[], Rl.nil, fun a h => by cases h⟩
  | x :: es, h => by
    obtain ⟨a, h1, h2⟩ := h x List.mem_cons_self
    obtain ⟨l, h3, h4⟩ := Rl.of_all (es := es) (fun y hy => h y (List.mem_cons_of_mem _ hy))
    exact ⟨a :: l, by unfold Rl; exact ⟨x, es, rfl, h1, h3⟩, fun b hb => (List.mem_cons.1 hb).elim (fun e => e ▸ h2) (h4 b)⟩
end
theorem E.repL_Rl : ∀ {l : List E} {cs : List (List T)}, E.repL l cs ↔ Rl E.rep l cs
  | [], cs => by unfold E.repL Rl; rfl
  | e :: l, cs => by
    unfold E.repL Rl
    constructor
    · rintro ⟨c, r, h1, h2, h3⟩; exact ⟨c, r, h1, h2, E.repL_Rl.1 h3⟩
    · rintro ⟨c, r, h1, h2, h3⟩; exact ⟨c, r, h1, h2, E.repL_Rl.2 h3⟩

/-- What a list weighs: its count and its elements. -/
def wl {α : Type} (f : α → Nat) : List α → Nat
  | [] => 0
  | a :: l => 1 + f a + wl f l
theorem wl_len {α : Type} (f : α → Nat) : ∀ l : List α, l.length ≤ wl f l
  | [] => Nat.le_refl _
  | a :: l => by rw [wl, List.length_cons]; have := wl_len f l; omega
theorem wl_mem {α : Type} {f : α → Nat} : ∀ {l : List α} {a : α}, a ∈ l → f a + 1 ≤ wl f l
  | [], _, h => by cases h
  | x :: l, a, h => by
    rw [wl]
    rcases List.mem_cons.1 h with rfl | h
    · omega
    · have := wl_mem (f := f) h; omega
theorem wl_drop {α : Type} {f : α → Nat} {l : List α} {n : Nat} (h : n < l.length) : wl f (l.drop n) = 1 + f l[n] + wl f (l.drop (n + 1)) := by rw [drop_get h, wl]
/-- Equality of lists by one of elements. -/
def eql {α : Type} (q : α → α → Bool) : List α → List α → Bool
  | [], [] => true
  | a :: l, b :: l' => q a b && eql q l l'
  | _, _ => false
theorem eql_len {α : Type} {q : α → α → Bool} : ∀ {a b : List α}, a.length ≠ b.length → eql q a b = false
  | [], [], h => by simp at h
  | [], _ :: _, h => rfl
  | _ :: _, [], h => rfl
  | a :: l, b :: l', h => by rw [eql, eql_len (by simpa using h), Bool.and_false]
theorem eql_drop {α : Type} {q : α → α → Bool} {a b : List α} {n : Nat} (h : n < a.length) (h' : n < b.length) : eql q (a.drop n) (b.drop n) = (q a[n] b[n] && eql q (a.drop (n + 1)) (b.drop (n + 1))) := by rw [drop_get h, drop_get h', eql]
theorem eql_self {α : Type} {q : α → α → Bool} (hq : ∀ a, q a a = true) : ∀ l : List α, eql q l l = true
  | [] => rfl
  | a :: l => by rw [eql, hq, eql_self hq l]; rfl

/-- A binding. -/
structure B where
  nm : ByteArray
  va : E
def B.rep (b : B) (c : List T) : Prop := ∃ ce, c = .str b.nm :: ce ∧ b.va.rep ce
def B.wt (b : B) : Nat := b.nm.size + b.va.wt
def B.small (b : B) : Prop := b.nm.size ≤ reachBytes ∧ b.va.small
def B.eqb (a b : B) : Bool := decide (a.nm = b.nm) && E.eqb a.va b.va
theorem B.eqb_self (a : B) : B.eqb a a = true := by rw [B.eqb, E.eqb_self, decide_eq_true rfl]; rfl
theorem B.cells {b : B} {c : List T} (h : b.rep c) : ∃ k n g cs, c = [.str b.nm, .int .i64 k, .str n, .sl g cs] ∧ b.va.rep [.int .i64 k, .str n, .sl g cs] := by
  obtain ⟨ce, rfl, h⟩ := h
  obtain ⟨g, cs, rfl, _⟩ := E.rep_cells h
  exact ⟨_, _, g, cs, rfl, h⟩
theorem B.rep_of {b : B} {ce : List T} (h : b.va.rep ce) : b.rep (.str b.nm :: ce) := ⟨ce, rfl, h⟩

theorem B_of_Ty {P : Program} {tb tn t ti tl : TypeId} {fb fs : Array Field} (hb0 : P.underlying tb = some (.struct fb)) (hfb : fb.toList.map (·.type) = [tn, t]) (hu : P.underlying t = some (.struct fs)) (hf : fs.toList.map (·.type) = [ti, tn, tl]) (h1 : P.underlying ti = some (.int .i64)) (h2 : P.underlying tn = some .string) (h3 : P.underlying tl = some (.slice t))
    (hb : 0 < P.bytesOf t) {ts : List T} (h : Ty P tb ts) : ∃ b : B, b.rep ts ∧ b.small := by
  have hF := h.inv_struct hb0
  match hfs : fb.toList, hfb with
  | [f1, f2], hfb =>
    simp only [List.map_cons, List.map_nil, List.cons.injEq, and_true] at hfb
    obtain ⟨e1, e2⟩ := hfb
    rw [hfs] at hF
    obtain ⟨x, y, rfl, k1, k2⟩ := hF.inv_cons
    obtain ⟨x2, y2, rfl, k3, k4⟩ := k2.inv_cons
    obtain rfl := k4.inv_nil
    obtain ⟨s, rfl, hs⟩ := k1.inv_str (e1 ▸ h2)
    rw [e2] at k3
    obtain ⟨v, r1, r2⟩ := E_of_Ty hu hf h1 h2 h3 hb k3
    exact ⟨⟨s, v⟩, ⟨x2, by simp, r1⟩, hs, r2⟩
theorem Bs_of_Ty {P : Program} {tbl tb tn t ti tl : TypeId} {fb fs : Array Field} (hbl : P.underlying tbl = some (.slice tb)) (hbb : 0 < P.bytesOf tb) (hb0 : P.underlying tb = some (.struct fb)) (hfb : fb.toList.map (·.type) = [tn, t]) (hu : P.underlying t = some (.struct fs)) (hf : fs.toList.map (·.type) = [ti, tn, tl]) (h1 : P.underlying ti = some (.int .i64)) (h2 : P.underlying tn = some .string) (h3 : P.underlying tl = some (.slice t))
    (hb : 0 < P.bytesOf t) {ts : List T} (h : Ty P tbl ts) : ∃ (g : Nat) (cs : List (List T)) (l : List B), ts = [.sl g cs] ∧ Rl B.rep l cs ∧ l.length ≤ reachBytes ∧ ∀ b ∈ l, b.small := by
  obtain ⟨g, es, rfl, hes, hsz⟩ := h.inv_sl hbl
  obtain ⟨l, q1, q2⟩ := Rl.of_all (fun x hx => B_of_Ty hb0 hfb hu hf h1 h2 h3 hb (hes x hx))
  exact ⟨g, es, l, rfl, q1, by rw [← q1.len]; exact Nat.le_trans (Nat.le_mul_of_pos_right _ hbb) hsz, q2⟩
end Go.VL
