/- Walks through the code: each function's contract. -/
import Derived.Test.YtldhhppfnhgcdaaGreatWAQ
set_option linter.unusedVariables false
set_option linter.unusedSimpArgs false
set_option maxRecDepth 8000
namespace Go.Proofs.YtldhhppfnhgcdaaGreat
open Go Go.VL

/-- The names of a list, each once, behind those that are there. -/
def un (acc : List ByteArray) : List ByteArray → List ByteArray
  | [] => acc
  | x :: l => if 0 ≤ ix x 0 acc then un acc l else un (acc ++ [x]) l
theorem un_drop {acc l : List ByteArray} {n : Nat} (h : n < l.length) : un acc (l.drop n) = if 0 ≤ ix l[n] 0 acc then un acc (l.drop (n + 1)) else un (acc ++ [l[n]]) (l.drop (n + 1)) := by rw [drop_get h, un]

/-- slices.Contains[[]string,string] -/
theorem slices_Contains_string (g : Nat) (xs : List ByteArray) (v : ByteArray) (hx : xs.length < 2^62) : FCtr Tryz.prog 30 [.t (.sl g (xs.map (fun x => [T.str x]))), .t (.str v)] (fun r => r = .t (.bool (decide (0 ≤ ix v 0 xs)))) := by
  refine Ctr.of_vc (rs := [.tmp 4]) (fn := Tryz.f30) mixed Tryz.func30 rfl rfl (by kernel_rfl) (by kernel_rfl) (by simp [Tryz.ntmps30]) (fun h0 => ?_)
  refine vc_seq fun K1 hK1 => ?_
  refine vc_reg ?_
  try simp (disch := omega) only [go_sem, ↓reduceIte, Nat.reduceEqDiff, reduceCtorEq, Nat.reduceAdd, Nat.reduceLeDiff, Nat.reduceMul, Int.reduceNeg, Int.reduceLT, Int.reduceAdd, Int.reduceSub]
  refine hK1 _ ?_
  refine vc_seq fun K2 hK2 => ?_
  refine vc_reg ?_
  try simp (disch := omega) only [go_sem, ↓reduceIte, Nat.reduceEqDiff, reduceCtorEq, Nat.reduceAdd, Nat.reduceLeDiff, Nat.reduceMul, Int.reduceNeg, Int.reduceLT, Int.reduceAdd, Int.reduceSub]
  refine vcX_call _ _ (slices_Index_string g xs v hx) rfl rfl (by first | rfl | simp [V.pures, V.pure, V.pures_t]) ?_
  rintro r1_2 h1_2 hh1_2 rfl -
  try simp (disch := omega) only [go_sem, ↓reduceIte, Nat.reduceEqDiff, reduceCtorEq, Nat.reduceAdd, Nat.reduceLeDiff, Nat.reduceMul, Int.reduceNeg, Int.reduceLT, Int.reduceAdd, Int.reduceSub]
  refine hK2 _ ?_
  refine vc_ret ?_
  refine ⟨_, by first | rfl | (simp only [go_sem, resQ, List.mapM_cons, List.mapM_nil, ↓reduceIte, Nat.reduceEqDiff, Nat.reduceAdd, Nat.reduceLeDiff, reduceCtorEq]; rfl), [], [], .nil, by simp, by simp, fun hi_ h1_ => ⟨?_, rfl, rfl⟩, by simp⟩
  first | rfl | simp_all
end Go.Proofs.YtldhhppfnhgcdaaGreat
