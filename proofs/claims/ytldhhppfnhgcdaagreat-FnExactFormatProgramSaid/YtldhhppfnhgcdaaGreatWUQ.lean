/- Walks through the code: each function's contract. -/
import Derived.Test.YtldhhppfnhgcdaaGreatWRQ
import Derived.Test.YtldhhppfnhgcdaaGreatWEQ
set_option linter.unusedVariables false
set_option linter.unusedSimpArgs false
set_option maxRecDepth 8000
namespace Go.Proofs.YtldhhppfnhgcdaaGreat
open Go Go.VL

end Go.Proofs.YtldhhppfnhgcdaaGreat
namespace Go.VL
mutual
/-- A term whose places are marked from k on. -/
def E.mk_ : E → Nat → E
  | .mk _ _ us, k => .mk k (mtx (k + 1)) (E.mkL us (k + 2))
def E.mkL : List E → Nat → List E
  | [], _ => []
  | e :: l, k => E.mk_ e k :: E.mkL l (k + 2 * e.sz)
end
theorem E.mkL_len : ∀ (l : List E) (k : Nat), (E.mkL l k).length = l.length
  | [], _ => rfl
  | e :: l, k => by rw [E.mkL, List.length_cons, E.mkL_len l, List.length_cons]
theorem E.mkL_app : ∀ (l l' : List E) (k : Nat), E.mkL (l ++ l') k = E.mkL l k ++ E.mkL l' (k + 2 * E.szL l)
  | [], l', k => rfl
  | e :: l, l', k => by
    rw [List.cons_append, E.mkL, E.mkL_app l l', E.mkL, E.szL, List.cons_append]
    congr 3
    omega
theorem E.szL_app : ∀ (l l' : List E), E.szL (l ++ l') = E.szL l + E.szL l'
  | [], l' => by rw [List.nil_append, E.szL, Nat.zero_add]
  | e :: l, l' => by rw [List.cons_append, E.szL, E.szL_app l l', E.szL]; omega
theorem E.szL_take {l : List E} {n : Nat} (h : n < l.length) : E.szL (l.take (n + 1)) = E.szL (l.take n) + l[n].sz := by
  rw [List.take_add_one, List.getElem?_eq_getElem h, E.szL_app]; simp [E.szL]
theorem E.szL_le {l : List E} (n : Nat) : E.szL (l.take n) ≤ E.szL l := by
  have : E.szL l = E.szL (l.take n) + E.szL (l.drop n) := by rw [← E.szL_app, List.take_append_drop]
  omega
theorem E.len_szL : ∀ l : List E, l.length ≤ E.szL l
  | [] => Nat.zero_le _
  | e :: l => by have := E.len_szL l; cases e; rw [List.length_cons, E.szL, E.sz]; omega
theorem E.sz_args (e : E) : e.sz = 1 + E.szL e.args := by cases e; rw [E.sz]; rfl
theorem E.mk_eq (e : E) (k : Nat) : E.mk_ e k = .mk k (mtx (k + 1)) (E.mkL e.args (k + 2)) := by cases e; rw [E.mk_]; rfl
theorem E.mkL_set {us : List E} {n k : Nat} (h : n < us.length) : (E.mkL (us.take n) k ++ us.drop n).set n (E.mk_ us[n] (k + 2 * E.szL (us.take n))) = E.mkL (us.take (n + 1)) k ++ us.drop (n + 1) := by
  have hl : (E.mkL (us.take n) k).length = n := by rw [E.mkL_len, List.length_take]; omega
  rw [drop_get h, List.set_append_right _ _ (by omega), hl, Nat.sub_self, List.take_add_one, List.getElem?_eq_getElem h, E.mkL_app, List.set_cons_zero, List.append_assoc]
  rfl
theorem E.mkL_at {us : List E} {n k : Nat} (h : n < us.length) : (E.mkL (us.take n) k ++ us.drop n)[n]? = some us[n] := by
  have hl : (E.mkL (us.take n) k).length = n := by rw [E.mkL_len, List.length_take]; omega
  rw [List.getElem?_append_right (by omega), hl, Nat.sub_self, List.getElem?_drop, Nat.add_zero, List.getElem?_eq_getElem h]
theorem E.mkL_get {us : List E} {n k : Nat} (h : n < us.length) : (E.mkL us k)[n]? = some (E.mk_ us[n] (k + 2 * E.szL (us.take n))) := by
  have h1 := List.take_append_drop n us
  have hl : (E.mkL (us.take n) k).length = n := by rw [E.mkL_len, List.length_take]; omega
  have h2 : E.mkL us k = E.mkL (us.take n ++ us.drop n) k := by rw [h1]
  rw [h2, E.mkL_app, List.getElem?_append_right (by omega), hl, Nat.sub_self, drop_get h, E.mkL]
  simp
theorem E.repL_at {l : List E} {cs : List (List T)} {n : Nat} {a : E} {c : List T} (h : E.repL l cs) (ha : l[n]? = some a) (hc : cs[n]? = some c) : a.rep c := by
  have hn := (List.getElem?_eq_some_iff.1 ha).1
  obtain ⟨c', h1, h2⟩ := E.repL_get h hn
  rw [h1] at hc
  injection hc with hc
  rw [List.getElem?_eq_getElem hn] at ha
  injection ha with ha
  rw [← hc, ← ha]; exact h2
end Go.VL
namespace Go.Proofs.YtldhhppfnhgcdaaGreat
open Go Go.VL
end Go.Proofs.YtldhhppfnhgcdaaGreat
