/- A logic of values for walks: parts 32 to 32. -/
import Derived.Test.YtgeofeckmaiebaaDoorV28
import Derived.Lib.Join
import Derived.Lib.AppendIntMem
import Derived.Lib.ItoaLen
import Derived.Below
namespace Go.VL
open Go.RowKit
set_option linter.unusedVariables false
set_option linter.unusedSimpArgs false

/-- The texts joined. -/
def jn (xs : List ByteArray) (sep : ByteArray) : ByteArray := ⟨(Lib.join (xs.map (·.data.toList)) sep.data.toList).toArray⟩
/-- A text's bytes, as a row's elements. -/
def bys (b : ByteArray) : List (List V) := b.data.toList.map fun c => [.t (.int .u8 (c.toNat : Int))]
theorem bys_len (b : ByteArray) : (bys b).length = b.size := by rw [bys, List.length_map, Array.length_toList]; rfl
theorem bys_app (a b : ByteArray) : bys (a ++ b) = bys a ++ bys b := by
  rw [bys, ByteArray.data_append, Array.toList_append, List.map_append]; rfl
theorem bys_ok (b : ByteArray) : ∀ e ∈ bys b, e.length = 1 ∧ ∀ c ∈ e, V.leaf c = true := by
  intro e he
  obtain ⟨c, _, rfl⟩ := List.mem_map.1 he
  exact ⟨rfl, fun x hx => by obtain rfl := List.mem_singleton.1 hx; rfl⟩
theorem bys_take (b : ByteArray) : (bys b).take b.size = bys b := List.take_of_length_le (by rw [bys_len]; exact Nat.le_refl _)
theorem jn_nil (sep : ByteArray) : jn [] sep = ⟨#[]⟩ := rfl
theorem bext {a b : ByteArray} (h : a.data.toList = b.data.toList) : a = b := by
  cases a; cases b
  simp only at h
  rw [Array.toList_inj.1 h]
theorem jn_take {xs : List ByteArray} {n : Nat} (h : n < xs.length) (sep : ByteArray) : jn (xs.take (n + 1)) sep = (if 0 < n then jn (xs.take n) sep ++ sep else jn (xs.take n) sep) ++ xs[n] := by
  apply bext
  rw [ByteArray.data_append, Array.toList_append]
  cases xs with
  | nil => simp at h
  | cons x r =>
    cases n with
    | zero =>
      rw [if_neg (by omega), List.take_zero, jn_nil, jn, List.take_succ_cons, List.take_zero, List.map_cons, List.map_nil, Lib.join_one]
      rfl
    | succ n =>
      rw [if_pos (by omega), ByteArray.data_append, Array.toList_append, jn, jn]
      simp only [List.take_succ_cons, List.map_cons, Lib.join_cons, List.map_take, List.getElem_cons_succ]
      rw [Lib.joinTail_take_succ (y := (r[n]'(by simpa using h)).data.toList) (h := by rw [List.getElem?_map, List.getElem?_eq_getElem (by simpa using h)]; rfl)]
      simp [List.append_assoc]
theorem jn_all (xs : List ByteArray) (sep : ByteArray) (n : Nat) (h : xs.length ≤ n) : jn (xs.take n) sep = jn xs sep := by rw [List.take_of_length_le h]

theorem FCtr.of_calls {W0 : World} {P : Program} {f : FuncId} {args : List V} {s : ByteArray} (h0 : callable P f = true)
    (h : ∀ (w : World) (X : Nat → Prop) (vs : Array Value), XOk W0 w X [] → VRs w X [] args vs → Calls P f vs w fun e w' => e = .returned (.string s) ∧ Below w.heap.size w w') : FCtr W0 P f args (fun r => r = .t (.str s)) := by
  refine ⟨h0, fun w X vs hX ha hp cs => ?_⟩
  obtain ⟨e, w', fr, ⟨rfl, hb⟩, h2⟩ := h w X vs hX ha cs
  exact ⟨_, w', fr, ⟨_, .t (.str s), [], rfl, ⟨rfl, rfl, rfl⟩, .t (.str s), ⟨fun r o h => by simp at h, fun r r' o o' h => by simp at h, fun r o h => by simp at h⟩, ⟨hb.os, hb.tape, hb.output, hb.size, fun k hk _ => hb.block k hk⟩, fun r o h => by simp at h, fun r o h => by simp at h⟩, h2⟩

theorem FCtr.join {W0 : World} {P : Program} {f : FuncId} (h0 : callable P f = true)
    (hn : ∀ (a : Option Addr) (c : Nat) (sep : ByteArray) (w : World), Calls P f #[.slice a 0 c, .string sep] w fun e w' => e = .returned (.string ⟨#[]⟩) ∧ w' = w)
    (hj : ∀ (bk o c : Nat) (xs : List ByteArray) (sep : ByteArray) (w : World), (∀ (j : Nat) (x : ByteArray), xs[j]? = some x → w.cell? ⟨bk, o + j, none⟩ = some (.string x)) → bk < w.heap.size → xs.length ≤ 140737488355328 → xs.length ≤ c → (Lib.join (xs.map (·.data.toList)) sep.data.toList).length ≤ 140737488355328 →
      Calls P f #[.slice (some ⟨bk, o, none⟩) xs.length c, .string sep] w fun e w' => e = .returned (.string ⟨(Lib.join (xs.map (·.data.toList)) sep.data.toList).toArray⟩) ∧ Below w.heap.size w w')
    (g : Nat) (xs : List ByteArray) (sep : ByteArray) (hx : xs.length ≤ 140737488355328) (hl : (jn xs sep).size ≤ 140737488355328) :
    FCtr W0 P f [.t (.sl g (xs.map fun s => [T.str s])), .t (.str sep)] (fun r => r = .t (.str (jn xs sep))) := by
  refine FCtr.of_calls h0 (fun w X vs hX ha => ?_)
  obtain ⟨h1, h2⟩ := ha
  obtain ⟨a, b, rfl⟩ : ∃ a b, vs = #[a, b] := by
    rcases vs with ⟨l⟩
    match l, h1 with
    | [a, b], _ => exact ⟨a, b, rfl⟩
  have ka := h2 0 _ rfl
  have kb := h2 1 _ rfl
  simp only [Array.getD_eq_getD_getElem?] at ka kb
  change VR w X [] _ a at ka
  change VR w X [] _ b at kb
  cases kb with
  | t kb =>
  cases kb
  cases ka with
  | t ka =>
  cases xs with
  | nil =>
    cases ka with
    | nil _ a0 c =>
      exact (hn a0 c sep w).mono fun e w' ⟨h3, h4⟩ => ⟨h3, h4 ▸ Below.refl _ _⟩
    | sl _ _ off c sz cell hc hg ha' hl' hcell hr => exact (hn _ c sep w).mono fun e w' ⟨h3, h4⟩ => ⟨h3, h4 ▸ Below.refl _ _⟩
  | cons x xs =>
    cases ka with
    | sl _ _ off c sz cell hc hg ha' hl' hcell hr =>
      have hsz : 1 = sz := hl' 0 [.str x] rfl
      subst hsz
      rw [List.length_map] at hc ⊢
      refine hj g off c (x :: xs) sep w (fun j y hy => ?_) hg hx hc (by simpa [jn, ByteArray.size] using hl)
      have he : ((x :: xs).map fun s => [T.str s])[j]? = some [.str y] := by rw [List.getElem?_map, hy]; rfl
      have k1 := hcell j 0 _ (.str y) he rfl
      have k2 := hr j 0 _ (.str y) he rfl
      cases h5 : cell j 0 with
      | string z =>
        rw [h5] at k2 k1
        cases k2
        simpa using k1
      | _ => rw [h5] at k2; cases k2

/-- A contract whose condition on the world is met by the world in which the law's call began, and by all behind it. -/
theorem FCtr.of_callsW {W0 : World} {P : Program} {f : FuncId} {args : List V} {s : ByteArray} (h0 : callable P f = true)
    (h : ∀ (w : World) (X : Nat → Prop) (vs : Array Value), Below W0.heap.size W0 w → VRs w X [] args vs → Calls P f vs w fun e w' => e = .returned (.string s) ∧ Below w.heap.size w w') : FCtr W0 P f args (fun r => r = .t (.str s)) :=
  FCtr.of_calls h0 (fun w X vs hX ha => h w X vs hX.2.1 ha)
theorem VRs.int1 {w : World} {X : Nat → Prop} {k : IntKind} {n : Int} {vs : Array Value} (h : VRs w X [] [.t (.int k n)] vs) : vs = #[.int k n] := by
  obtain ⟨h1, h2⟩ := h
  obtain ⟨a, rfl⟩ : ∃ a, vs = #[a] := by
    rcases vs with ⟨l⟩
    match l, h1 with
    | [a], _ => exact ⟨a, rfl⟩
  have ka := h2 0 _ rfl
  simp only [Array.getD_eq_getD_getElem?] at ka
  change VR w X [] _ a at ka
  cases ka with
  | t ka => cases ka; rfl

/-- A contract of the shelf's kind that gives a new row of strings. -/
theorem OCtr.of_strs {W0 : World} {P : Program} {f : FuncId} {args : List V} {xs : List ByteArray} {ty : TypeId} (h0 : callable P f = true)
    (h : ∀ (w : World) (X : Nat → Prop) (vs : Array Value), Below W0.heap.size W0 w → VRs w X [] args vs → Calls P f vs w fun e w' => e = .returned (.slice (some ⟨w.heap.size, 0, none⟩) xs.length xs.length) ∧ w' = w.alloc (.cells (xs.map Value.string).toArray ty)) :
    OCtr W0 P f args (fun s ts => s = .one ∧ ∃ g', ts = [.sl g' (Ts xs)]) := by
  refine ⟨h0, fun w X vs hX ha hp cs => ?_⟩
  obtain ⟨e, w', fr, ⟨rfl, rfl⟩, h2⟩ := h w X vs hX.2.1 ha cs
  have hnew : (w.alloc (.cells (xs.map Value.string).toArray ty)).heap[w.heap.size]? = some (.cells (xs.map Value.string).toArray ty (0, 0)) := by
    show (w.heap.push _)[w.heap.size]? = _
    simp
  refine ⟨_, w.alloc (.cells (xs.map Value.string).toArray ty), fr, ⟨_, .own 0 0 0 xs.length, [.row w.heap.size 0 1 xs.length (Vs xs)], rfl, ⟨.one, [.ow w.heap.size 1 (Ds xs)], [.own 0 0 0 xs.length], rfl, trivial, TrL_one ?_, rfl, w.heap.size, by rw [D.erL, D.erL, D.er, Ds_er]⟩, ?_, ⟨?_, ?_, ?_⟩, ⟨rfl, rfl, rfl, ?_, ?_⟩, ?_, ?_⟩, h2⟩
  · rw [Tr]
    exact ⟨0, 0, _, Vs xs, [], rfl, by simp, by rw [Vs_len], rfl, TrLL_Ds xs, Vs_1 xs⟩
  · exact .own (g := w.heap.size) (ver' := 0) (sz := 1) (n := xs.length) (es := Vs xs) rfl (Nat.le_refl _) rfl (fun _ => ⟨_, by rw [Nat.zero_mul], Nat.le_refl _, by omega, by rw [Vs_len]; omega⟩)
  · intro r o ho
    cases r with
    | succ r => simp at ho
    | zero =>
      simp only [List.getElem?_cons_zero, Option.some.injEq] at ho
      subst ho
      refine ⟨_, ty, hnew, by simp, by rw [Vs_len]; omega, fun i e he => ?_⟩
      rw [Vs, List.getElem?_map] at he
      obtain ⟨x, hx, rfl⟩ := Option.map_eq_some_iff.1 he
      refine ⟨rfl, fun j c hc => ?_⟩
      cases j with
      | succ j => simp at hc
      | zero =>
        simp only [List.getElem?_cons_zero, Option.some.injEq] at hc
        subst hc
        have : (xs.map Value.string).toArray.getD (i * 1 + 0) undef = .string x := by simp [Array.getD_eq_getD_getElem?, hx]
        rw [this]
        exact .t (.str x)
  · intro r r' o o' h3 h4 _
    cases r with
    | succ r => simp at h3
    | zero =>
      cases r' with
      | succ r' => simp at h4
      | zero => rfl
  · intro r o ho hx
    cases r with
    | succ r => simp at ho
    | zero =>
      simp only [List.getElem?_cons_zero, Option.some.injEq] at ho
      subst ho
      exact Nat.lt_irrefl _ (hX.1 _ hx)
  · show w.heap.size ≤ (w.heap.push _).size
    simp
  · intro b hb _
    exact Below.heap_alloc w _ b hb
  · intro r o h; simp at h
  · intro r o ho
    right
    cases r with
    | succ r => simp at ho
    | zero =>
      simp only [List.getElem?_cons_zero, Option.some.injEq] at ho
      subst ho
      exact Nat.le_refl _
/-- Two arguments: strings. -/
theorem VRs.str2 {w : World} {X : Nat → Prop} {a b : ByteArray} {vs : Array Value} (h : VRs w X [] [.t (.str a), .t (.str b)] vs) : vs = #[.string a, .string b] := by
  obtain ⟨h1, h2⟩ := h
  obtain ⟨x, y, rfl⟩ : ∃ x y, vs = #[x, y] := by
    rcases vs with ⟨l⟩
    match l, h1 with
    | [x, y], _ => exact ⟨x, y, rfl⟩
  have ka := h2 0 _ rfl
  have kb := h2 1 _ rfl
  simp only [Array.getD_eq_getD_getElem?] at ka kb
  change VR w X [] _ x at ka
  change VR w X [] _ y at kb
  cases ka with
  | t ka =>
    cases kb with
    | t kb => cases ka; cases kb; rfl
end Go.VL
