/- Walks through the code: each function's contract. -/
import Derived.Test.YtldhhppfnhgcdaaGreatWGQ
set_option linter.unusedVariables false
set_option linter.unusedSimpArgs false
set_option maxRecDepth 8000
namespace Go.Proofs.YtldhhppfnhgcdaaGreat
open Go Go.VL

/-- impl.IsValidExpr -/
theorem impl_IsValidExpr (e : E) (c : List T) (hc : e.rep c) (hw : e.wt ≤ 1048576) : FCtr Tryz.prog 22 [.agg (c.map .t)] (fun r => r = .t (.bool (decide ((e.sz : Int) ≤ 80) && (decide ((e.dp : Int) ≤ 24) && e.af)))) := by
  obtain ⟨g, cs, rfl, hcs⟩ := E.rep_cells hc
  have reach := reach47
  refine Ctr.of_vc (rs := [.tmp 2]) (fn := Tryz.f22) mixed Tryz.func22 rfl rfl (by kernel_rfl) (by kernel_rfl) (by simp [Tryz.ntmps22]) (fun h0 => ?_)
  refine vc_seq fun K1 hK1 => ?_
  refine vc_reg ?_
  try simp (disch := omega) only [go_sem, ↓reduceIte, Nat.reduceEqDiff, reduceCtorEq, Nat.reduceAdd, Nat.reduceLeDiff, Nat.reduceMul, Int.reduceNeg, Int.reduceLT, Int.reduceAdd, Int.reduceSub]
  intro g0_0 hg0_0
  refine hK1 _ ?_
  refine vc_seq fun K2 hK2 => ?_
  refine vc_reg ?_
  try simp (disch := omega) only [go_sem, ↓reduceIte, Nat.reduceEqDiff, reduceCtorEq, Nat.reduceAdd, Nat.reduceLeDiff, Nat.reduceMul, Int.reduceNeg, Int.reduceLT, Int.reduceAdd, Int.reduceSub]
  intro g1_0 hg1_0
  refine hK2 _ ?_
  refine vc_seq fun K3 hK3 => ?_
  refine vc_reg ?_
  try simp (disch := omega) only [go_sem, ↓reduceIte, Nat.reduceEqDiff, reduceCtorEq, Nat.reduceAdd, Nat.reduceLeDiff, Nat.reduceMul, Int.reduceNeg, Int.reduceLT, Int.reduceAdd, Int.reduceSub]
  refine vcX_callF [1] [] [.agg (List.map V.t [.int .i64 e.kind, .str e.name, .sl g cs]), .t (.int .i64 1), .ptr 0 0 0 0] [.row g1_0 0 1 1 [[.t (.int .i64 80)]]] _ (impl_areForms g1_0 e _ 1 80 hc (by omega) (by omega) hw) (by first | rfl | simp (disch := omega) only [go_sem, ↓reduceIte, Nat.reduceEqDiff, reduceCtorEq, Nat.reduceAdd, Nat.reduceLeDiff, Nat.reduceMul, Int.reduceNeg, Int.reduceLT, Int.reduceAdd, Int.reduceSub]) (by simp) (by simp) (by simp) rfl (Subs.of_eq (by first | rfl | (simp (disch := omega) only [go_sem, ↓reduceIte, Nat.reduceEqDiff, reduceCtorEq, Nat.reduceAdd, Nat.reduceLeDiff, Nat.reduceMul, Int.reduceNeg, Int.reduceLT, Int.reduceAdd, Int.reduceSub]) | (simp only [go_sem, V.loc, V.locs, idx]; done))) ?_
  rintro r2_1 σ2_1 h2_1 hh2_1 ⟨b, m, rfl, rfl, hb, hm⟩
  refine ⟨by simp, ?_⟩
  try simp (disch := omega) only [go_sem, ↓reduceIte, Nat.reduceEqDiff, reduceCtorEq, Nat.reduceAdd, Nat.reduceLeDiff, Nat.reduceMul, Int.reduceNeg, Int.reduceLT, Int.reduceAdd, Int.reduceSub]
  refine hK3 _ ?_
  refine vc_ret ?_
  refine ⟨_, by first | rfl | (simp only [go_sem, resQ, List.mapM_cons, List.mapM_nil, ↓reduceIte, Nat.reduceEqDiff, Nat.reduceAdd, Nat.reduceLeDiff, reduceCtorEq]; rfl), [], [], .nil, by simp, by simp, fun hi_ h1_ => ⟨?_, rfl, rfl⟩, by simp⟩
  have hdd : decide (1 + (e.dp : Int) ≤ 25) = decide ((e.dp : Int) ≤ 24) := by
    by_cases q : (e.dp : Int) ≤ 24
    · rw [decide_eq_true q, decide_eq_true (by omega)]
    · rw [decide_eq_false q, decide_eq_false (by omega)]
  rw [hb, hdd]; rfl
end Go.Proofs.YtldhhppfnhgcdaaGreat
