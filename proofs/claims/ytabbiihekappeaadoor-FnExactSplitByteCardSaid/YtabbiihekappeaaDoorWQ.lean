/- Walks through the code: each function's contract. -/
import Derived.Test.YtabbiihekappeaaDoorWP
set_option linter.unusedVariables false
set_option linter.unusedSimpArgs false
set_option maxRecDepth 8000
namespace Go.Proofs.YtabbiihekappeaaDoor
open Go Go.VL
variable {W0 : World}

/-- Are they all different? -/
def dst (xs : List ByteArray) : Bool := decide ((un [] xs).length = xs.length)
theorem dst_step {xs : List ByteArray} {n : Nat} (h : n < xs.length) (hd : un [] (xs.take n) = xs.take n) (hi : ix xs[n] 0 (xs.take n) < 0) : un [] (xs.take (n + 1)) = xs.take (n + 1) := by
  rw [List.take_add_one, List.getElem?_eq_getElem h, un_app, hd]
  simp only [Option.toList_some, un]
  rw [if_neg (by omega)]
theorem dst_no {xs : List ByteArray} {n : Nat} (h : n < xs.length) (hd : un [] (xs.take n) = xs.take n) (hi : 0 ≤ ix xs[n] 0 (xs.take n)) : dst xs = false := by
  have h1 : un [] (xs.take (n + 1)) = xs.take n := by
    rw [List.take_add_one, List.getElem?_eq_getElem h, un_app, hd]
    simp only [Option.toList_some, un]
    rw [if_pos hi]
  have h2 : un [] xs = un (xs.take n) (xs.drop (n + 1)) := by
    have := un_app (xs.take (n + 1)) [] (xs.drop (n + 1))
    rw [List.take_append_drop, h1] at this
    exact this
  have h3 := un_len (xs.drop (n + 1)) (xs.take n)
  rw [dst, decide_eq_false]
  rw [h2]
  simp at h3
  omega
theorem dst_yes {xs : List ByteArray} (hd : un [] xs = xs) : dst xs = true := by rw [dst, hd, decide_eq_true rfl]
end Go.Proofs.YtabbiihekappeaaDoor
