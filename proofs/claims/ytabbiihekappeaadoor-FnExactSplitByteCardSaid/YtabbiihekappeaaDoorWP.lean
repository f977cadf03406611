/- Walks through the code: each function's contract. -/
import Derived.Test.YtabbiihekappeaaDoorWN
set_option linter.unusedVariables false
set_option linter.unusedSimpArgs false
set_option maxRecDepth 8000
namespace Go.Proofs.YtabbiihekappeaaDoor
open Go Go.VL
variable {W0 : World}

end Go.Proofs.YtabbiihekappeaaDoor
namespace Go.VL
/-- Lists of strings, one behind another. -/
def cat (L : List (Nat × List ByteArray)) : List ByteArray := L.flatMap (·.2)
def catL (L : List (Nat × List ByteArray)) : Nat := (cat L).length
theorem cat_drop {L : List (Nat × List ByteArray)} {n : Nat} (h : n < L.length) : cat (L.take (n + 1)) = cat (L.take n) ++ L[n].2 := by
  rw [cat, List.take_add_one, List.getElem?_eq_getElem h, List.flatMap_append]; simp [cat]
theorem cat_le {L : List (Nat × List ByteArray)} (n : Nat) : (cat (L.take n)).length ≤ catL L := by
  have : cat L = cat (L.take n) ++ cat (L.drop n) := by rw [cat, cat, cat, ← List.flatMap_append, List.take_append_drop]
  rw [catL, this, List.length_append]; omega
theorem Vs_ok (xs : List ByteArray) : ∀ e ∈ Vs xs, e.length = 1 ∧ ∀ c ∈ e, V.leaf c = true := by
  intro e he
  obtain ⟨x, _, rfl⟩ := List.mem_map.1 he
  exact ⟨rfl, fun c hc => by obtain rfl := List.mem_singleton.1 hc; rfl⟩
end Go.VL
namespace Go.Proofs.YtabbiihekappeaaDoor
open Go Go.VL
variable {W0 : World}

theorem un_app : ∀ (xs acc ys : List ByteArray), un acc (xs ++ ys) = un (un acc xs) ys
  | [], acc, ys => rfl
  | x :: l, acc, ys => by rw [List.cons_append, un, un]; split <;> exact un_app l _ ys
theorem un_len : ∀ (xs acc : List ByteArray), (un acc xs).length ≤ acc.length + xs.length
  | [], acc => Nat.le_refl _
  | x :: l, acc => by
    rw [un, List.length_cons]
    split
    · have := un_len l acc; omega
    · have := un_len l (acc ++ [x]); rw [List.length_append] at this; simp at this; omega
end Go.Proofs.YtabbiihekappeaaDoor
