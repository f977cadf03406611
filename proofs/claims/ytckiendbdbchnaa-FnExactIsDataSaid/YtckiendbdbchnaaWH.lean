/- Walks through the code: each function's contract. -/
import Derived.Test.YtckiendbdbchnaaWG
set_option linter.unusedVariables false
set_option linter.unusedSimpArgs false
set_option maxRecDepth 8000
namespace Go.Proofs.Ytckiendbdbchnaa
open Go Go.VL

/-- impl.IsValidExpr -/
theorem impl_IsValidExpr (e : E) (c : List T) (hc : e.rep c) (hw : e.wt ≤ 1048576) : FCtr Try.prog 47 [.agg (c.map .t)] (fun r => r = .t (.bool (decide ((e.sz : Int) ≤ 80) && (decide ((e.dp : Int) ≤ 24) && e.af)))) := by
  obtain ⟨g, cs, rfl, hcs⟩ := E.rep_cells hc
  have reach := reach47
  refine Ctr.of_vc (fn := Try.f47) mixed Try.func47 rfl rfl (by kernel_rfl) (by kernel_rfl) (by simp [Try.ntmps47]) (fun h0 => ?_)
  refine vc_seq fun K1 hK1 => ?_
  refine vc_reg ?_
  try simp (disch := omega) only [go_sem, ↓reduceIte, Nat.reduceEqDiff, reduceCtorEq, Nat.reduceAdd, Nat.reduceLeDiff, Nat.reduceMul, Int.reduceNeg, Int.reduceLT, Int.reduceAdd, Int.reduceSub]
  intro g0_0 hg0_0
  refine hK1 _ ?_
  refine vc_seq fun K2 hK2 => ?_
  refine vc_reg ?_
  try simp (disch := omega) only [go_sem, ↓reduceIte, Nat.reduceEqDiff, reduceCtorEq, Nat.reduceAdd, Nat.reduceLeDiff, Nat.reduceMul, Int.reduceNeg, Int.reduceLT, Int.reduceAdd, Int.reduceSub]
  intro g1_0 hg1_0
  refine hK2 _ ?_
  refine vc_seq fun K3 hK3 => ?_
  refine vc_reg ?_
  try simp (disch := omega) only [go_sem, ↓reduceIte, Nat.reduceEqDiff, reduceCtorEq, Nat.reduceAdd, Nat.reduceLeDiff, Nat.reduceMul, Int.reduceNeg, Int.reduceLT, Int.reduceAdd, Int.reduceSub]
  refine vcX_callF [1] [] [.agg (List.map V.t [.int .i64 e.kind, .str e.name, .sl g cs]), .t (.int .i64 1), .ptr 0 0 0 0] [.row g1_0 0 1 1 [[.t (.int .i64 80)]]] _ (impl_areForms g1_0 e _ 1 80 hc (by omega) (by omega) hw) (by first | rfl | simp (disch := omega) only [go_sem, ↓reduceIte, Nat.reduceEqDiff, reduceCtorEq, Nat.reduceAdd, Nat.reduceLeDiff, Nat.reduceMul, Int.reduceNeg, Int.reduceLT, Int.reduceAdd, Int.reduceSub]) (by simp) (by simp) (by simp) rfl (Subs.of_eq (by first | rfl | (simp (disch := omega) only [go_sem, ↓reduceIte, Nat.reduceEqDiff, reduceCtorEq, Nat.reduceAdd, Nat.reduceLeDiff, Nat.reduceMul, Int.reduceNeg, Int.reduceLT, Int.reduceAdd, Int.reduceSub]) | (simp only [go_sem, V.loc, V.locs, idx]; done))) ?_
  rintro r2_1 σ2_1 h2_1 hh2_1 ⟨b, m, rfl, rfl, hb, hm⟩
  refine ⟨by simp, ?_⟩
  try simp (disch := omega) only [go_sem, ↓reduceIte, Nat.reduceEqDiff, reduceCtorEq, Nat.reduceAdd, Nat.reduceLeDiff, Nat.reduceMul, Int.reduceNeg, Int.reduceLT, Int.reduceAdd, Int.reduceSub]
  refine hK3 _ ?_
  refine vc_ret ?_
  refine ⟨_, by first | rfl | (simp only [go_sem, resQ, List.mapM_cons, List.mapM_nil, ↓reduceIte, Nat.reduceEqDiff, Nat.reduceAdd, Nat.reduceLeDiff, reduceCtorEq]; rfl), [], [], .nil, by simp, by simp, fun hi_ h1_ => ⟨?_, rfl, rfl⟩, by simp⟩
  have hdd : decide (1 + (e.dp : Int) ≤ 25) = decide ((e.dp : Int) ≤ 24) := by
    by_cases q : (e.dp : Int) ≤ 24
    · rw [decide_eq_true q, decide_eq_true (by omega)]
    · rw [decide_eq_false q, decide_eq_false (by omega)]
  rw [hb, hdd]; rfl

/-- laws.FnExactIsValidExpr -/
theorem laws_FnExactIsValidExpr (e : E) (c : List T) (hc : e.rep c) (hs : e.small) : FCtr Try.prog 13 [.agg (c.map .t)] (fun r => r = .t (.bool true)) := by
  obtain ⟨g, cs, rfl, hcs⟩ := E.rep_cells hc
  have reach := reach47
  refine Ctr.of_vc (fn := Try.f13) mixed Try.func13 rfl rfl (by kernel_rfl) (by kernel_rfl) (by simp [Try.ntmps13]) (fun h0 => ?_)
  refine vc_seq fun K1 hK1 => ?_
  refine vc_reg ?_
  try simp (disch := omega) only [go_sem, ↓reduceIte, Nat.reduceEqDiff, reduceCtorEq, Nat.reduceAdd, Nat.reduceLeDiff, Nat.reduceMul, Int.reduceNeg, Int.reduceLT, Int.reduceAdd, Int.reduceSub]
  intro g0_0 hg0_0
  refine hK1 _ ?_
  refine vc_seq fun K2 hK2 => ?_
  refine vc_reg ?_
  try simp (disch := omega) only [go_sem, ↓reduceIte, Nat.reduceEqDiff, reduceCtorEq, Nat.reduceAdd, Nat.reduceLeDiff, Nat.reduceMul, Int.reduceNeg, Int.reduceLT, Int.reduceAdd, Int.reduceSub]
  refine hK2 _ ?_
  refine vc_seq fun K3 hK3 => ?_
  refine vc_reg ?_
  try simp (disch := omega) only [go_sem, ↓reduceIte, Nat.reduceEqDiff, reduceCtorEq, Nat.reduceAdd, Nat.reduceLeDiff, Nat.reduceMul, Int.reduceNeg, Int.reduceLT, Int.reduceAdd, Int.reduceSub]
  refine vcX_call _ _ (laws_szExpr e _ 1048576 hc hs (by omega)) (by first | rfl | (simp (disch := omega) only [go_sem, ↓reduceIte, Nat.reduceEqDiff, reduceCtorEq, Nat.reduceAdd, Nat.reduceLeDiff, Nat.reduceMul, Int.reduceNeg, Int.reduceLT, Int.reduceAdd, Int.reduceSub])) (by first | rfl | (simp (disch := omega) only [go_sem, ↓reduceIte, Nat.reduceEqDiff, reduceCtorEq, Nat.reduceAdd, Nat.reduceLeDiff, Nat.reduceMul, Int.reduceNeg, Int.reduceLT, Int.reduceAdd, Int.reduceSub])) (by first | rfl | simp [V.pures, V.pure, V.pures_t]) ?_
  rintro r2_2 h2_2 hh2_2 ⟨m, rfl, hm⟩ -
  try simp (disch := omega) only [go_sem, ↓reduceIte, Nat.reduceEqDiff, reduceCtorEq, Nat.reduceAdd, Nat.reduceLeDiff, Nat.reduceMul, Int.reduceNeg, Int.reduceLT, Int.reduceAdd, Int.reduceSub]
  refine hK3 _ ?_
  refine vc_seq fun K4 hK4 => ?_
  refine vc_seq fun K5 hK5 => ?_
  refine vc_reg ?_
  try simp (disch := omega) only [go_sem, ↓reduceIte, Nat.reduceEqDiff, reduceCtorEq, Nat.reduceAdd, Nat.reduceLeDiff, Nat.reduceMul, Int.reduceNeg, Int.reduceLT, Int.reduceAdd, Int.reduceSub]
  refine hK5 _ ?_
  refine vc_cond (t := _) (by first | rfl | (simp (disch := omega) only [go_sem, ↓reduceIte, Nat.reduceEqDiff, reduceCtorEq, Nat.reduceAdd, Nat.reduceLeDiff, Nat.reduceMul, Int.reduceNeg, Int.reduceLT, Int.reduceAdd, Int.reduceSub]; rfl)) (fun hc1 => ?_) (fun hc1 => ?_)
  · (try simp only [go_sem] at hc1)
    refine vc_seq fun K6 hK6 => ?_
    refine vc_reg ?_
    try simp (disch := omega) only [go_sem, ↓reduceIte, Nat.reduceEqDiff, reduceCtorEq, Nat.reduceAdd, Nat.reduceLeDiff, Nat.reduceMul, Int.reduceNeg, Int.reduceLT, Int.reduceAdd, Int.reduceSub]
    refine hK6 _ ?_
    refine vc_ret ?_
    refine ⟨_, by first | rfl | (simp only [go_sem, resQ, List.mapM_cons, List.mapM_nil, ↓reduceIte, Nat.reduceEqDiff, Nat.reduceAdd, Nat.reduceLeDiff, reduceCtorEq]; rfl), [], [], .nil, by simp, by simp, fun hi_ h1_ => ⟨?_, rfl, rfl⟩, by simp⟩
    first | rfl | simp_all
  · (try simp only [go_sem] at hc1)
    have hw : e.wt ≤ 1048576 := by omega
    refine vc_skip ?_
    refine hK4 _ ?_
    refine vc_seq fun K7 hK7 => ?_
    refine vc_reg ?_
    try simp (disch := omega) only [go_sem, ↓reduceIte, Nat.reduceEqDiff, reduceCtorEq, Nat.reduceAdd, Nat.reduceLeDiff, Nat.reduceMul, Int.reduceNeg, Int.reduceLT, Int.reduceAdd, Int.reduceSub]
    refine vcX_call _ _ (laws_toExpr e _ hc (by omega)) (by first | rfl | (simp (disch := omega) only [go_sem, ↓reduceIte, Nat.reduceEqDiff, reduceCtorEq, Nat.reduceAdd, Nat.reduceLeDiff, Nat.reduceMul, Int.reduceNeg, Int.reduceLT, Int.reduceAdd, Int.reduceSub])) (by first | rfl | (simp (disch := omega) only [go_sem, ↓reduceIte, Nat.reduceEqDiff, reduceCtorEq, Nat.reduceAdd, Nat.reduceLeDiff, Nat.reduceMul, Int.reduceNeg, Int.reduceLT, Int.reduceAdd, Int.reduceSub])) (by first | rfl | simp [V.pures, V.pure, V.pures_t]) ?_
    rintro r5_1 h5_1 hh5_1 ⟨c1, rfl, hc1_⟩ -
    try simp (disch := omega) only [go_sem, ↓reduceIte, Nat.reduceEqDiff, reduceCtorEq, Nat.reduceAdd, Nat.reduceLeDiff, Nat.reduceMul, Int.reduceNeg, Int.reduceLT, Int.reduceAdd, Int.reduceSub]
    refine vcX_call _ _ (spec_IsValidExpr e _ hc1_ hw) (by first | rfl | (simp (disch := omega) only [go_sem, ↓reduceIte, Nat.reduceEqDiff, reduceCtorEq, Nat.reduceAdd, Nat.reduceLeDiff, Nat.reduceMul, Int.reduceNeg, Int.reduceLT, Int.reduceAdd, Int.reduceSub])) (by first | rfl | (simp (disch := omega) only [go_sem, ↓reduceIte, Nat.reduceEqDiff, reduceCtorEq, Nat.reduceAdd, Nat.reduceLeDiff, Nat.reduceMul, Int.reduceNeg, Int.reduceLT, Int.reduceAdd, Int.reduceSub])) (by first | rfl | simp [V.pures, V.pure, V.pures_t]) ?_
    rintro r5_2 h5_2 hh5_2 rfl -
    try simp (disch := omega) only [go_sem, ↓reduceIte, Nat.reduceEqDiff, reduceCtorEq, Nat.reduceAdd, Nat.reduceLeDiff, Nat.reduceMul, Int.reduceNeg, Int.reduceLT, Int.reduceAdd, Int.reduceSub]
    refine hK7 _ ?_
    refine vc_seq fun K8 hK8 => ?_
    refine vc_reg ?_
    try simp (disch := omega) only [go_sem, ↓reduceIte, Nat.reduceEqDiff, reduceCtorEq, Nat.reduceAdd, Nat.reduceLeDiff, Nat.reduceMul, Int.reduceNeg, Int.reduceLT, Int.reduceAdd, Int.reduceSub]
    refine vcX_call _ _ (laws_toExpr e _ hc (by omega)) (by first | rfl | (simp (disch := omega) only [go_sem, ↓reduceIte, Nat.reduceEqDiff, reduceCtorEq, Nat.reduceAdd, Nat.reduceLeDiff, Nat.reduceMul, Int.reduceNeg, Int.reduceLT, Int.reduceAdd, Int.reduceSub])) (by first | rfl | (simp (disch := omega) only [go_sem, ↓reduceIte, Nat.reduceEqDiff, reduceCtorEq, Nat.reduceAdd, Nat.reduceLeDiff, Nat.reduceMul, Int.reduceNeg, Int.reduceLT, Int.reduceAdd, Int.reduceSub])) (by first | rfl | simp [V.pures, V.pure, V.pures_t]) ?_
    rintro r6_1 h6_1 hh6_1 ⟨c2, rfl, hc2_⟩ -
    obtain ⟨ga, ca, rfl, hca⟩ := E.rep_cells hc2_
    try simp (disch := omega) only [go_sem, ↓reduceIte, Nat.reduceEqDiff, reduceCtorEq, Nat.reduceAdd, Nat.reduceLeDiff, Nat.reduceMul, Int.reduceNeg, Int.reduceLT, Int.reduceAdd, Int.reduceSub]
    intro g6_2 hg6_2
    refine hK8 _ ?_
    refine vc_seq fun K9 hK9 => ?_
    refine vc_reg ?_
    try simp (disch := omega) only [go_sem, ↓reduceIte, Nat.reduceEqDiff, reduceCtorEq, Nat.reduceAdd, Nat.reduceLeDiff, Nat.reduceMul, Int.reduceNeg, Int.reduceLT, Int.reduceAdd, Int.reduceSub]
    refine vcX_call _ _ (impl_IsValidExpr e _ hc2_ hw) (by first | rfl | (simp (disch := omega) only [go_sem, ↓reduceIte, Nat.reduceEqDiff, reduceCtorEq, Nat.reduceAdd, Nat.reduceLeDiff, Nat.reduceMul, Int.reduceNeg, Int.reduceLT, Int.reduceAdd, Int.reduceSub])) (by first | rfl | (simp (disch := omega) only [go_sem, ↓reduceIte, Nat.reduceEqDiff, reduceCtorEq, Nat.reduceAdd, Nat.reduceLeDiff, Nat.reduceMul, Int.reduceNeg, Int.reduceLT, Int.reduceAdd, Int.reduceSub])) (by first | rfl | simp [V.pures, V.pure, V.pures_t]) ?_
    rintro r7_1 h7_1 hh7_1 rfl -
    try simp (disch := omega) only [go_sem, ↓reduceIte, Nat.reduceEqDiff, reduceCtorEq, Nat.reduceAdd, Nat.reduceLeDiff, Nat.reduceMul, Int.reduceNeg, Int.reduceLT, Int.reduceAdd, Int.reduceSub]
    refine hK9 _ ?_
    refine vc_seq fun K10 hK10 => ?_
    refine vc_seq fun K11 hK11 => ?_
    refine vc_reg ?_
    try simp (disch := omega) only [go_sem, ↓reduceIte, Nat.reduceEqDiff, reduceCtorEq, Nat.reduceAdd, Nat.reduceLeDiff, Nat.reduceMul, Int.reduceNeg, Int.reduceLT, Int.reduceAdd, Int.reduceSub]
    refine hK11 _ ?_
    refine vc_cond (t := _) (by first | rfl | (simp (disch := omega) only [go_sem, ↓reduceIte, Nat.reduceEqDiff, reduceCtorEq, Nat.reduceAdd, Nat.reduceLeDiff, Nat.reduceMul, Int.reduceNeg, Int.reduceLT, Int.reduceAdd, Int.reduceSub]; rfl)) (fun hc2 => ?_) (fun hc2 => ?_)
    · exact absurd hc2 (by simp)
    · (try simp only [go_sem] at hc2)
      refine vc_skip ?_
      refine hK10 _ ?_
      refine vc_seq fun K12 hK12 => ?_
      refine vc_seq fun K13 hK13 => ?_
      refine vc_regD [(0, false), (1, false), (2, false), (3, false), (4, false)] (by kernel_rfl) ?_
      try simp (disch := omega) only [go_sem, ↓reduceIte, Nat.reduceEqDiff, reduceCtorEq, Nat.reduceAdd, Nat.reduceLeDiff, Nat.reduceMul, Int.reduceNeg, Int.reduceLT, Int.reduceAdd, Int.reduceSub]
      refine vcX_call _ _ (laws_toExpr e _ hc (by omega)) (by first | rfl | (simp (disch := omega) only [go_sem, ↓reduceIte, Nat.reduceEqDiff, reduceCtorEq, Nat.reduceAdd, Nat.reduceLeDiff, Nat.reduceMul, Int.reduceNeg, Int.reduceLT, Int.reduceAdd, Int.reduceSub])) (by first | rfl | (simp (disch := omega) only [go_sem, ↓reduceIte, Nat.reduceEqDiff, reduceCtorEq, Nat.reduceAdd, Nat.reduceLeDiff, Nat.reduceMul, Int.reduceNeg, Int.reduceLT, Int.reduceAdd, Int.reduceSub])) (by first | rfl | simp [V.pures, V.pure, V.pures_t]) ?_
      rintro r10_2 h10_2 hh10_2 ⟨c3, rfl, hc3_⟩ -
      try simp (disch := omega) only [go_sem, ↓reduceIte, Nat.reduceEqDiff, reduceCtorEq, Nat.reduceAdd, Nat.reduceLeDiff, Nat.reduceMul, Int.reduceNeg, Int.reduceLT, Int.reduceAdd, Int.reduceSub]
      refine vcX_call _ _ (laws_eqExpr e e _ _ hc2_ hc3_ (by omega) (by omega)) (by first | rfl | (simp (disch := omega) only [go_sem, ↓reduceIte, Nat.reduceEqDiff, reduceCtorEq, Nat.reduceAdd, Nat.reduceLeDiff, Nat.reduceMul, Int.reduceNeg, Int.reduceLT, Int.reduceAdd, Int.reduceSub])) (by first | rfl | (simp (disch := omega) only [go_sem, ↓reduceIte, Nat.reduceEqDiff, reduceCtorEq, Nat.reduceAdd, Nat.reduceLeDiff, Nat.reduceMul, Int.reduceNeg, Int.reduceLT, Int.reduceAdd, Int.reduceSub])) (by first | rfl | simp [V.pures, V.pure, V.pures_t]) ?_
      rintro r10_3 h10_3 hh10_3 rfl -
      try simp (disch := omega) only [go_sem, ↓reduceIte, Nat.reduceEqDiff, reduceCtorEq, Nat.reduceAdd, Nat.reduceLeDiff, Nat.reduceMul, Int.reduceNeg, Int.reduceLT, Int.reduceAdd, Int.reduceSub, E.eqb_self]
      refine hK13 _ ?_
      refine vc_cond (t := _) (by first | rfl | (simp (disch := omega) only [go_sem, ↓reduceIte, Nat.reduceEqDiff, reduceCtorEq, Nat.reduceAdd, Nat.reduceLeDiff, Nat.reduceMul, Int.reduceNeg, Int.reduceLT, Int.reduceAdd, Int.reduceSub]; rfl)) (fun hc3 => ?_) (fun hc3 => ?_)
      · exact absurd hc3 (by simp)
      · (try simp only [go_sem] at hc3)
        refine vc_skip ?_
        refine hK12 _ ?_
        refine vc_seq fun K14 hK14 => ?_
        refine vc_reg ?_
        try simp (disch := omega) only [go_sem, ↓reduceIte, Nat.reduceEqDiff, reduceCtorEq, Nat.reduceAdd, Nat.reduceLeDiff, Nat.reduceMul, Int.reduceNeg, Int.reduceLT, Int.reduceAdd, Int.reduceSub]
        refine hK14 _ ?_
        refine vc_ret ?_
        refine ⟨_, by first | rfl | (simp only [go_sem, resQ, List.mapM_cons, List.mapM_nil, ↓reduceIte, Nat.reduceEqDiff, Nat.reduceAdd, Nat.reduceLeDiff, reduceCtorEq]; rfl), [], [], .nil, by simp, by simp, fun hi_ h1_ => ⟨?_, rfl, rfl⟩, by simp⟩
        first | rfl | simp_all

end Go.Proofs.Ytckiendbdbchnaa
namespace Go.VL
def dtStep (x : E) : T → T
  | .bool b => .bool (b && (x.kind == 2))
  | v => v
theorem E.fo_dt : ∀ (e : E) (b : Bool), E.fo dtStep e (.bool b) = .bool (b && e.dt) := by
  intro e
  induction e using E.ind with
  | h k nm us ih =>
    intro b
    rw [E.dt, E.fo]
    have : ∀ (l : List E), (∀ a ∈ l, ∀ b, E.fo dtStep a (.bool b) = .bool (b && a.dt)) → ∀ b, E.foL dtStep l (.bool b) = .bool (b && E.dtL l) := by
      intro l
      induction l with
      | nil => exact fun _ b => by rw [E.foL, E.dtL, Bool.and_true]
      | cons a l ihl =>
        intro h b
        rw [E.dtL, E.foL, h a List.mem_cons_self b, ihl (fun b hb => h b (List.mem_cons_of_mem _ hb)), Bool.and_assoc]
    have hst : dtStep (.mk k nm us) (.bool b) = .bool (b && decide (k = 2)) := by
      show T.bool (b && (k == 2)) = _
      rfl
    rw [hst, this us ih _, Bool.and_assoc]
end Go.VL
namespace Go.Proofs.Ytckiendbdbchnaa
open Go Go.VL

/-- impl.IsData$1 -/
theorem impl_IsData_1 (g0 : Nat) (x : E) (c : List T) (v : T) (hc : x.rep c) (hv : ∃ b, v = .bool b) : Ctr Try.prog 65 [.agg (c.map .t), .ptr 0 0 0 0] [.row g0 0 1 1 [[.t v]]] (fun _ _ r σ' => r = .tup [] ∧ σ' = [.row g0 0 1 1 [[.t (dtStep x v)]]]) := by
  obtain ⟨b, rfl⟩ := hv
  obtain ⟨g, cs, rfl, ha⟩ := E.rep_cells hc
  rw [dtStep]
  refine Ctr.of_vc (fn := Try.f65) mixed Try.func65 rfl rfl (by kernel_rfl) (by kernel_rfl) (by simp [Try.ntmps65]) (fun h0 => ?_)
  refine vc_seq fun K1 hK1 => ?_
  refine vc_reg ?_
  try simp (disch := omega) only [go_sem, ↓reduceIte, Nat.reduceEqDiff, reduceCtorEq, Nat.reduceAdd, Nat.reduceLeDiff, Nat.reduceMul, Int.reduceNeg, Int.reduceLT, Int.reduceAdd, Int.reduceSub]
  intro g0_0 hg0_0
  refine hK1 _ ?_
  refine vc_reg ?_
  refine vcX_cut 2 fun K2 hK2 => ?_
  try simp (disch := omega) only [go_sem, ↓reduceIte, Nat.reduceEqDiff, reduceCtorEq, Nat.reduceAdd, Nat.reduceLeDiff, Nat.reduceMul, Int.reduceNeg, Int.reduceLT, Int.reduceAdd, Int.reduceSub]
  refine hK2 _ ?_
  refine vcX_bool (fun hb1_1 => ?_) (fun hb1_1 => ?_)
  · (try simp only [go_sem] at hb1_1)
    try simp (disch := omega) only [go_sem, ↓reduceIte, Nat.reduceEqDiff, reduceCtorEq, Nat.reduceAdd, Nat.reduceLeDiff, Nat.reduceMul, Int.reduceNeg, Int.reduceLT, Int.reduceAdd, Int.reduceSub]
    rw [hb1_1, Bool.true_and]
    refine ⟨_, rfl, [0], [], by simp, by simp, by simp, fun hi_ h1_ => ⟨rfl, ?_⟩, le_1 (y := .t (.bool (x.kind == 2))) ?_⟩
    · rfl
    · rfl
  · (try simp only [go_sem] at hb1_1)
    try simp (disch := omega) only [go_sem, ↓reduceIte, Nat.reduceEqDiff, reduceCtorEq, Nat.reduceAdd, Nat.reduceLeDiff, Nat.reduceMul, Int.reduceNeg, Int.reduceLT, Int.reduceAdd, Int.reduceSub]
    rw [hb1_1, Bool.false_and]
    refine ⟨_, rfl, [0], [], by simp, by simp, by simp, fun hi_ h1_ => ⟨rfl, ?_⟩, le_1 (y := .t (.bool false)) ?_⟩
    · rfl
    · rfl

/-- impl.IsData -/
theorem impl_IsData (e : E) (c : List T) (hc : e.rep c) (hw : e.wt ≤ 1048576) : FCtr Try.prog 49 [.agg (c.map .t)] (fun r => r = .t (.bool ((decide ((e.sz : Int) ≤ 80) && (decide ((e.dp : Int) ≤ 24) && e.af)) && e.dt))) := by
  obtain ⟨g, cs, rfl, hcs⟩ := E.rep_cells hc
  have reach := reach47
  refine Ctr.of_vc (fn := Try.f49) mixed Try.func49 rfl rfl (by kernel_rfl) (by kernel_rfl) (by simp [Try.ntmps49]) (fun h0 => ?_)
  refine vc_seq fun K1 hK1 => ?_
  refine vc_reg ?_
  try simp (disch := omega) only [go_sem, ↓reduceIte, Nat.reduceEqDiff, reduceCtorEq, Nat.reduceAdd, Nat.reduceLeDiff, Nat.reduceMul, Int.reduceNeg, Int.reduceLT, Int.reduceAdd, Int.reduceSub]
  intro g0_0 hg0_0
  refine hK1 _ ?_
  refine vc_seq fun K2 hK2 => ?_
  refine vc_reg ?_
  try simp (disch := omega) only [go_sem, ↓reduceIte, Nat.reduceEqDiff, reduceCtorEq, Nat.reduceAdd, Nat.reduceLeDiff, Nat.reduceMul, Int.reduceNeg, Int.reduceLT, Int.reduceAdd, Int.reduceSub]
  refine vcX_call _ _ (impl_IsValidExpr e _ hc hw) (by first | rfl | (simp (disch := omega) only [go_sem, ↓reduceIte, Nat.reduceEqDiff, reduceCtorEq, Nat.reduceAdd, Nat.reduceLeDiff, Nat.reduceMul, Int.reduceNeg, Int.reduceLT, Int.reduceAdd, Int.reduceSub])) (by first | rfl | (simp (disch := omega) only [go_sem, ↓reduceIte, Nat.reduceEqDiff, reduceCtorEq, Nat.reduceAdd, Nat.reduceLeDiff, Nat.reduceMul, Int.reduceNeg, Int.reduceLT, Int.reduceAdd, Int.reduceSub])) (by first | rfl | simp [V.pures, V.pure, V.pures_t]) ?_
  rintro r1_1 h1_1 hh1_1 rfl -
  try simp (disch := omega) only [go_sem, ↓reduceIte, Nat.reduceEqDiff, reduceCtorEq, Nat.reduceAdd, Nat.reduceLeDiff, Nat.reduceMul, Int.reduceNeg, Int.reduceLT, Int.reduceAdd, Int.reduceSub]
  intro g1_2 hg1_2
  refine hK2 _ ?_
  refine vc_seq fun K3 hK3 => ?_
  refine vc_reg ?_
  try simp (disch := omega) only [go_sem, ↓reduceIte, Nat.reduceEqDiff, reduceCtorEq, Nat.reduceAdd, Nat.reduceLeDiff, Nat.reduceMul, Int.reduceNeg, Int.reduceLT, Int.reduceAdd, Int.reduceSub]
  refine vcX_callF [1] [] [.agg (List.map V.t [.int .i64 e.kind, .str e.name, .sl g cs]), .fn 65 [.ptr 0 0 0 0]] [.row g1_2 0 1 1 [[.t (.bool (decide ((e.sz : Int) ≤ 80) && (decide ((e.dp : Int) ≤ 24) && e.af)))]]] _ (impl_visit1 _ g1_2 dtStep (fun v => ∃ n, v = .bool n) (fun x v ⟨n, hn⟩ => by subst hn; exact ⟨_, rfl⟩) (fun x c v h1 h2 => impl_IsData_1 g1_2 x c v h1 h2) e _ _ hc ⟨_, rfl⟩ hw) (by first | rfl | simp (disch := omega) only [go_sem, ↓reduceIte, Nat.reduceEqDiff, reduceCtorEq, Nat.reduceAdd, Nat.reduceLeDiff, Nat.reduceMul, Int.reduceNeg, Int.reduceLT, Int.reduceAdd, Int.reduceSub]) (by simp) (by simp) (by simp) rfl (Subs.of_eq (by first | rfl | (simp (disch := omega) only [go_sem, ↓reduceIte, Nat.reduceEqDiff, reduceCtorEq, Nat.reduceAdd, Nat.reduceLeDiff, Nat.reduceMul, Int.reduceNeg, Int.reduceLT, Int.reduceAdd, Int.reduceSub]) | (simp only [go_sem, V.loc, V.locs, idx]; done))) ?_
  rintro r2_2 σ2_2 h2_2 hh2_2 ⟨rfl, rfl⟩
  refine ⟨by simp, ?_⟩
  rw [E.fo_dt e]
  try simp (disch := omega) only [go_sem, ↓reduceIte, Nat.reduceEqDiff, reduceCtorEq, Nat.reduceAdd, Nat.reduceLeDiff, Nat.reduceMul, Int.reduceNeg, Int.reduceLT, Int.reduceAdd, Int.reduceSub]
  refine hK3 _ ?_
  refine vc_seq fun K4 hK4 => ?_
  refine vc_reg ?_
  try simp (disch := omega) only [go_sem, ↓reduceIte, Nat.reduceEqDiff, reduceCtorEq, Nat.reduceAdd, Nat.reduceLeDiff, Nat.reduceMul, Int.reduceNeg, Int.reduceLT, Int.reduceAdd, Int.reduceSub]
  refine hK4 _ ?_
  refine vc_ret ?_
  refine ⟨_, by first | rfl | (simp only [go_sem, resQ, List.mapM_cons, List.mapM_nil, ↓reduceIte, Nat.reduceEqDiff, Nat.reduceAdd, Nat.reduceLeDiff, reduceCtorEq]; rfl), [], [], .nil, by simp, by simp, fun hi_ h1_ => ⟨?_, rfl, rfl⟩, by simp⟩
  first | rfl | simp_all

/-- spec.IsData -/
theorem spec_IsData (e : E) (c : List T) (hc : e.rep c) (hw : e.wt ≤ 1048576) : FCtr Try.prog 48 [.agg (c.map .t)] (fun r => r = .t (.bool ((decide ((e.sz : Int) ≤ 80) && (decide ((e.dp : Int) ≤ 24) && e.af)) && e.dt))) := by
  obtain ⟨g, cs, rfl, hcs⟩ := E.rep_cells hc
  have reach := reach47
  refine Ctr.of_vc (fn := Try.f48) mixed Try.func48 rfl rfl (by kernel_rfl) (by kernel_rfl) (by simp [Try.ntmps48]) (fun h0 => ?_)
  refine vc_seq fun K1 hK1 => ?_
  refine vc_reg ?_
  try simp (disch := omega) only [go_sem, ↓reduceIte, Nat.reduceEqDiff, reduceCtorEq, Nat.reduceAdd, Nat.reduceLeDiff, Nat.reduceMul, Int.reduceNeg, Int.reduceLT, Int.reduceAdd, Int.reduceSub]
  intro g0_0 hg0_0
  refine hK1 _ ?_
  refine vc_seq fun K2 hK2 => ?_
  refine vc_reg ?_
  refine vcX_cut 3 fun K3 hK3 => ?_
  try simp (disch := omega) only [go_sem, ↓reduceIte, Nat.reduceEqDiff, reduceCtorEq, Nat.reduceAdd, Nat.reduceLeDiff, Nat.reduceMul, Int.reduceNeg, Int.reduceLT, Int.reduceAdd, Int.reduceSub]
  refine vcX_call _ _ (spec_IsValidExpr e _ hc hw) (by first | rfl | (simp (disch := omega) only [go_sem, ↓reduceIte, Nat.reduceEqDiff, reduceCtorEq, Nat.reduceAdd, Nat.reduceLeDiff, Nat.reduceMul, Int.reduceNeg, Int.reduceLT, Int.reduceAdd, Int.reduceSub])) (by first | rfl | (simp (disch := omega) only [go_sem, ↓reduceIte, Nat.reduceEqDiff, reduceCtorEq, Nat.reduceAdd, Nat.reduceLeDiff, Nat.reduceMul, Int.reduceNeg, Int.reduceLT, Int.reduceAdd, Int.reduceSub])) (by first | rfl | simp [V.pures, V.pure, V.pures_t]) ?_
  rintro r1_1 h1_1 hh1_1 rfl -
  try simp (disch := omega) only [go_sem, ↓reduceIte, Nat.reduceEqDiff, reduceCtorEq, Nat.reduceAdd, Nat.reduceLeDiff, Nat.reduceMul, Int.reduceNeg, Int.reduceLT, Int.reduceAdd, Int.reduceSub]
  refine hK3 _ ?_
  refine vcX_bool (fun hb1_2 => ?_) (fun hb1_2 => ?_)
  · (try simp only [go_sem] at hb1_2)
    try simp (disch := omega) only [go_sem, ↓reduceIte, Nat.reduceEqDiff, reduceCtorEq, Nat.reduceAdd, Nat.reduceLeDiff, Nat.reduceMul, Int.reduceNeg, Int.reduceLT, Int.reduceAdd, Int.reduceSub]
    refine vcX_call _ _ (spec_l3Data e _ hc hw) (by first | rfl | (simp (disch := omega) only [go_sem, ↓reduceIte, Nat.reduceEqDiff, reduceCtorEq, Nat.reduceAdd, Nat.reduceLeDiff, Nat.reduceMul, Int.reduceNeg, Int.reduceLT, Int.reduceAdd, Int.reduceSub])) (by first | rfl | (simp (disch := omega) only [go_sem, ↓reduceIte, Nat.reduceEqDiff, reduceCtorEq, Nat.reduceAdd, Nat.reduceLeDiff, Nat.reduceMul, Int.reduceNeg, Int.reduceLT, Int.reduceAdd, Int.reduceSub])) (by first | rfl | simp [V.pures, V.pure, V.pures_t]) ?_
    rintro r1_4 h1_4 hh1_4 rfl -
    try simp (disch := omega) only [go_sem, ↓reduceIte, Nat.reduceEqDiff, reduceCtorEq, Nat.reduceAdd, Nat.reduceLeDiff, Nat.reduceMul, Int.reduceNeg, Int.reduceLT, Int.reduceAdd, Int.reduceSub]
    refine hK2 _ ?_
    refine vc_ret ?_
    refine ⟨_, by first | rfl | (simp only [go_sem, resQ, List.mapM_cons, List.mapM_nil, ↓reduceIte, Nat.reduceEqDiff, Nat.reduceAdd, Nat.reduceLeDiff, reduceCtorEq]; rfl), [], [], .nil, by simp, by simp, fun hi_ h1_ => ⟨?_, rfl, rfl⟩, by simp⟩
    rw [hb1_2]; rfl
  · (try simp only [go_sem] at hb1_2)
    try simp (disch := omega) only [go_sem, ↓reduceIte, Nat.reduceEqDiff, reduceCtorEq, Nat.reduceAdd, Nat.reduceLeDiff, Nat.reduceMul, Int.reduceNeg, Int.reduceLT, Int.reduceAdd, Int.reduceSub]
    refine hK2 _ ?_
    refine vc_ret ?_
    refine ⟨_, by first | rfl | (simp only [go_sem, resQ, List.mapM_cons, List.mapM_nil, ↓reduceIte, Nat.reduceEqDiff, Nat.reduceAdd, Nat.reduceLeDiff, reduceCtorEq]; rfl), [], [], .nil, by simp, by simp, fun hi_ h1_ => ⟨?_, rfl, rfl⟩, by simp⟩
    rw [hb1_2]; rfl

/-- laws.FnExactIsData -/
theorem laws_FnExactIsData (e : E) (c : List T) (hc : e.rep c) (hs : e.small) : FCtr Try.prog 14 [.agg (c.map .t)] (fun r => r = .t (.bool true)) := by
  obtain ⟨g, cs, rfl, hcs⟩ := E.rep_cells hc
  have reach := reach47
  refine Ctr.of_vc (fn := Try.f14) mixed Try.func14 rfl rfl (by kernel_rfl) (by kernel_rfl) (by simp [Try.ntmps14]) (fun h0 => ?_)
  refine vc_seq fun K1 hK1 => ?_
  refine vc_reg ?_
  try simp (disch := omega) only [go_sem, ↓reduceIte, Nat.reduceEqDiff, reduceCtorEq, Nat.reduceAdd, Nat.reduceLeDiff, Nat.reduceMul, Int.reduceNeg, Int.reduceLT, Int.reduceAdd, Int.reduceSub]
  intro g0_0 hg0_0
  refine hK1 _ ?_
  refine vc_seq fun K2 hK2 => ?_
  refine vc_reg ?_
  try simp (disch := omega) only [go_sem, ↓reduceIte, Nat.reduceEqDiff, reduceCtorEq, Nat.reduceAdd, Nat.reduceLeDiff, Nat.reduceMul, Int.reduceNeg, Int.reduceLT, Int.reduceAdd, Int.reduceSub]
  refine hK2 _ ?_
  refine vc_seq fun K3 hK3 => ?_
  refine vc_reg ?_
  try simp (disch := omega) only [go_sem, ↓reduceIte, Nat.reduceEqDiff, reduceCtorEq, Nat.reduceAdd, Nat.reduceLeDiff, Nat.reduceMul, Int.reduceNeg, Int.reduceLT, Int.reduceAdd, Int.reduceSub]
  refine vcX_call _ _ (laws_szExpr e _ 1048576 hc hs (by omega)) (by first | rfl | (simp (disch := omega) only [go_sem, ↓reduceIte, Nat.reduceEqDiff, reduceCtorEq, Nat.reduceAdd, Nat.reduceLeDiff, Nat.reduceMul, Int.reduceNeg, Int.reduceLT, Int.reduceAdd, Int.reduceSub])) (by first | rfl | (simp (disch := omega) only [go_sem, ↓reduceIte, Nat.reduceEqDiff, reduceCtorEq, Nat.reduceAdd, Nat.reduceLeDiff, Nat.reduceMul, Int.reduceNeg, Int.reduceLT, Int.reduceAdd, Int.reduceSub])) (by first | rfl | simp [V.pures, V.pure, V.pures_t]) ?_
  rintro r2_2 h2_2 hh2_2 ⟨m, rfl, hm⟩ -
  try simp (disch := omega) only [go_sem, ↓reduceIte, Nat.reduceEqDiff, reduceCtorEq, Nat.reduceAdd, Nat.reduceLeDiff, Nat.reduceMul, Int.reduceNeg, Int.reduceLT, Int.reduceAdd, Int.reduceSub]
  refine hK3 _ ?_
  refine vc_seq fun K4 hK4 => ?_
  refine vc_seq fun K5 hK5 => ?_
  refine vc_reg ?_
  try simp (disch := omega) only [go_sem, ↓reduceIte, Nat.reduceEqDiff, reduceCtorEq, Nat.reduceAdd, Nat.reduceLeDiff, Nat.reduceMul, Int.reduceNeg, Int.reduceLT, Int.reduceAdd, Int.reduceSub]
  refine hK5 _ ?_
  refine vc_cond (t := _) (by first | rfl | (simp (disch := omega) only [go_sem, ↓reduceIte, Nat.reduceEqDiff, reduceCtorEq, Nat.reduceAdd, Nat.reduceLeDiff, Nat.reduceMul, Int.reduceNeg, Int.reduceLT, Int.reduceAdd, Int.reduceSub]; rfl)) (fun hc1 => ?_) (fun hc1 => ?_)
  · (try simp only [go_sem] at hc1)
    refine vc_seq fun K6 hK6 => ?_
    refine vc_reg ?_
    try simp (disch := omega) only [go_sem, ↓reduceIte, Nat.reduceEqDiff, reduceCtorEq, Nat.reduceAdd, Nat.reduceLeDiff, Nat.reduceMul, Int.reduceNeg, Int.reduceLT, Int.reduceAdd, Int.reduceSub]
    refine hK6 _ ?_
    refine vc_ret ?_
    refine ⟨_, by first | rfl | (simp only [go_sem, resQ, List.mapM_cons, List.mapM_nil, ↓reduceIte, Nat.reduceEqDiff, Nat.reduceAdd, Nat.reduceLeDiff, reduceCtorEq]; rfl), [], [], .nil, by simp, by simp, fun hi_ h1_ => ⟨?_, rfl, rfl⟩, by simp⟩
    first | rfl | simp_all
  · (try simp only [go_sem] at hc1)
    have hw : e.wt ≤ 1048576 := by omega
    refine vc_skip ?_
    refine hK4 _ ?_
    refine vc_seq fun K7 hK7 => ?_
    refine vc_reg ?_
    try simp (disch := omega) only [go_sem, ↓reduceIte, Nat.reduceEqDiff, reduceCtorEq, Nat.reduceAdd, Nat.reduceLeDiff, Nat.reduceMul, Int.reduceNeg, Int.reduceLT, Int.reduceAdd, Int.reduceSub]
    refine vcX_call _ _ (laws_toExpr e _ hc (by omega)) (by first | rfl | (simp (disch := omega) only [go_sem, ↓reduceIte, Nat.reduceEqDiff, reduceCtorEq, Nat.reduceAdd, Nat.reduceLeDiff, Nat.reduceMul, Int.reduceNeg, Int.reduceLT, Int.reduceAdd, Int.reduceSub])) (by first | rfl | (simp (disch := omega) only [go_sem, ↓reduceIte, Nat.reduceEqDiff, reduceCtorEq, Nat.reduceAdd, Nat.reduceLeDiff, Nat.reduceMul, Int.reduceNeg, Int.reduceLT, Int.reduceAdd, Int.reduceSub])) (by first | rfl | simp [V.pures, V.pure, V.pures_t]) ?_
    rintro r5_1 h5_1 hh5_1 ⟨c1, rfl, hc1_⟩ -
    try simp (disch := omega) only [go_sem, ↓reduceIte, Nat.reduceEqDiff, reduceCtorEq, Nat.reduceAdd, Nat.reduceLeDiff, Nat.reduceMul, Int.reduceNeg, Int.reduceLT, Int.reduceAdd, Int.reduceSub]
    refine vcX_call _ _ (spec_IsData e _ hc1_ hw) (by first | rfl | (simp (disch := omega) only [go_sem, ↓reduceIte, Nat.reduceEqDiff, reduceCtorEq, Nat.reduceAdd, Nat.reduceLeDiff, Nat.reduceMul, Int.reduceNeg, Int.reduceLT, Int.reduceAdd, Int.reduceSub])) (by first | rfl | (simp (disch := omega) only [go_sem, ↓reduceIte, Nat.reduceEqDiff, reduceCtorEq, Nat.reduceAdd, Nat.reduceLeDiff, Nat.reduceMul, Int.reduceNeg, Int.reduceLT, Int.reduceAdd, Int.reduceSub])) (by first | rfl | simp [V.pures, V.pure, V.pures_t]) ?_
    rintro r5_2 h5_2 hh5_2 rfl -
    try simp (disch := omega) only [go_sem, ↓reduceIte, Nat.reduceEqDiff, reduceCtorEq, Nat.reduceAdd, Nat.reduceLeDiff, Nat.reduceMul, Int.reduceNeg, Int.reduceLT, Int.reduceAdd, Int.reduceSub]
    refine hK7 _ ?_
    refine vc_seq fun K8 hK8 => ?_
    refine vc_reg ?_
    try simp (disch := omega) only [go_sem, ↓reduceIte, Nat.reduceEqDiff, reduceCtorEq, Nat.reduceAdd, Nat.reduceLeDiff, Nat.reduceMul, Int.reduceNeg, Int.reduceLT, Int.reduceAdd, Int.reduceSub]
    refine vcX_call _ _ (laws_toExpr e _ hc (by omega)) (by first | rfl | (simp (disch := omega) only [go_sem, ↓reduceIte, Nat.reduceEqDiff, reduceCtorEq, Nat.reduceAdd, Nat.reduceLeDiff, Nat.reduceMul, Int.reduceNeg, Int.reduceLT, Int.reduceAdd, Int.reduceSub])) (by first | rfl | (simp (disch := omega) only [go_sem, ↓reduceIte, Nat.reduceEqDiff, reduceCtorEq, Nat.reduceAdd, Nat.reduceLeDiff, Nat.reduceMul, Int.reduceNeg, Int.reduceLT, Int.reduceAdd, Int.reduceSub])) (by first | rfl | simp [V.pures, V.pure, V.pures_t]) ?_
    rintro r6_1 h6_1 hh6_1 ⟨c2, rfl, hc2_⟩ -
    obtain ⟨ga, ca, rfl, hca⟩ := E.rep_cells hc2_
    try simp (disch := omega) only [go_sem, ↓reduceIte, Nat.reduceEqDiff, reduceCtorEq, Nat.reduceAdd, Nat.reduceLeDiff, Nat.reduceMul, Int.reduceNeg, Int.reduceLT, Int.reduceAdd, Int.reduceSub]
    intro g6_2 hg6_2
    refine hK8 _ ?_
    refine vc_seq fun K9 hK9 => ?_
    refine vc_reg ?_
    try simp (disch := omega) only [go_sem, ↓reduceIte, Nat.reduceEqDiff, reduceCtorEq, Nat.reduceAdd, Nat.reduceLeDiff, Nat.reduceMul, Int.reduceNeg, Int.reduceLT, Int.reduceAdd, Int.reduceSub]
    refine vcX_call _ _ (impl_IsData e _ hc2_ hw) (by first | rfl | (simp (disch := omega) only [go_sem, ↓reduceIte, Nat.reduceEqDiff, reduceCtorEq, Nat.reduceAdd, Nat.reduceLeDiff, Nat.reduceMul, Int.reduceNeg, Int.reduceLT, Int.reduceAdd, Int.reduceSub])) (by first | rfl | (simp (disch := omega) only [go_sem, ↓reduceIte, Nat.reduceEqDiff, reduceCtorEq, Nat.reduceAdd, Nat.reduceLeDiff, Nat.reduceMul, Int.reduceNeg, Int.reduceLT, Int.reduceAdd, Int.reduceSub])) (by first | rfl | simp [V.pures, V.pure, V.pures_t]) ?_
    rintro r7_1 h7_1 hh7_1 rfl -
    try simp (disch := omega) only [go_sem, ↓reduceIte, Nat.reduceEqDiff, reduceCtorEq, Nat.reduceAdd, Nat.reduceLeDiff, Nat.reduceMul, Int.reduceNeg, Int.reduceLT, Int.reduceAdd, Int.reduceSub]
    refine hK9 _ ?_
    refine vc_seq fun K10 hK10 => ?_
    refine vc_seq fun K11 hK11 => ?_
    refine vc_reg ?_
    try simp (disch := omega) only [go_sem, ↓reduceIte, Nat.reduceEqDiff, reduceCtorEq, Nat.reduceAdd, Nat.reduceLeDiff, Nat.reduceMul, Int.reduceNeg, Int.reduceLT, Int.reduceAdd, Int.reduceSub]
    refine hK11 _ ?_
    refine vc_cond (t := _) (by first | rfl | (simp (disch := omega) only [go_sem, ↓reduceIte, Nat.reduceEqDiff, reduceCtorEq, Nat.reduceAdd, Nat.reduceLeDiff, Nat.reduceMul, Int.reduceNeg, Int.reduceLT, Int.reduceAdd, Int.reduceSub]; rfl)) (fun hc2 => ?_) (fun hc2 => ?_)
    · exact absurd hc2 (by simp)
    · (try simp only [go_sem] at hc2)
      refine vc_skip ?_
      refine hK10 _ ?_
      refine vc_seq fun K12 hK12 => ?_
      refine vc_seq fun K13 hK13 => ?_
      refine vc_regD [(0, false), (1, false), (2, false), (3, false), (4, false)] (by kernel_rfl) ?_
      try simp (disch := omega) only [go_sem, ↓reduceIte, Nat.reduceEqDiff, reduceCtorEq, Nat.reduceAdd, Nat.reduceLeDiff, Nat.reduceMul, Int.reduceNeg, Int.reduceLT, Int.reduceAdd, Int.reduceSub]
      refine vcX_call _ _ (laws_toExpr e _ hc (by omega)) (by first | rfl | (simp (disch := omega) only [go_sem, ↓reduceIte, Nat.reduceEqDiff, reduceCtorEq, Nat.reduceAdd, Nat.reduceLeDiff, Nat.reduceMul, Int.reduceNeg, Int.reduceLT, Int.reduceAdd, Int.reduceSub])) (by first | rfl | (simp (disch := omega) only [go_sem, ↓reduceIte, Nat.reduceEqDiff, reduceCtorEq, Nat.reduceAdd, Nat.reduceLeDiff, Nat.reduceMul, Int.reduceNeg, Int.reduceLT, Int.reduceAdd, Int.reduceSub])) (by first | rfl | simp [V.pures, V.pure, V.pures_t]) ?_
      rintro r10_2 h10_2 hh10_2 ⟨c3, rfl, hc3_⟩ -
      try simp (disch := omega) only [go_sem, ↓reduceIte, Nat.reduceEqDiff, reduceCtorEq, Nat.reduceAdd, Nat.reduceLeDiff, Nat.reduceMul, Int.reduceNeg, Int.reduceLT, Int.reduceAdd, Int.reduceSub]
      refine vcX_call _ _ (laws_eqExpr e e _ _ hc2_ hc3_ (by omega) (by omega)) (by first | rfl | (simp (disch := omega) only [go_sem, ↓reduceIte, Nat.reduceEqDiff, reduceCtorEq, Nat.reduceAdd, Nat.reduceLeDiff, Nat.reduceMul, Int.reduceNeg, Int.reduceLT, Int.reduceAdd, Int.reduceSub])) (by first | rfl | (simp (disch := omega) only [go_sem, ↓reduceIte, Nat.reduceEqDiff, reduceCtorEq, Nat.reduceAdd, Nat.reduceLeDiff, Nat.reduceMul, Int.reduceNeg, Int.reduceLT, Int.reduceAdd, Int.reduceSub])) (by first | rfl | simp [V.pures, V.pure, V.pures_t]) ?_
      rintro r10_3 h10_3 hh10_3 rfl -
      try simp (disch := omega) only [go_sem, ↓reduceIte, Nat.reduceEqDiff, reduceCtorEq, Nat.reduceAdd, Nat.reduceLeDiff, Nat.reduceMul, Int.reduceNeg, Int.reduceLT, Int.reduceAdd, Int.reduceSub, E.eqb_self]
      refine hK13 _ ?_
      refine vc_cond (t := _) (by first | rfl | (simp (disch := omega) only [go_sem, ↓reduceIte, Nat.reduceEqDiff, reduceCtorEq, Nat.reduceAdd, Nat.reduceLeDiff, Nat.reduceMul, Int.reduceNeg, Int.reduceLT, Int.reduceAdd, Int.reduceSub]; rfl)) (fun hc3 => ?_) (fun hc3 => ?_)
      · exact absurd hc3 (by simp)
      · (try simp only [go_sem] at hc3)
        refine vc_skip ?_
        refine hK12 _ ?_
        refine vc_seq fun K14 hK14 => ?_
        refine vc_reg ?_
        try simp (disch := omega) only [go_sem, ↓reduceIte, Nat.reduceEqDiff, reduceCtorEq, Nat.reduceAdd, Nat.reduceLeDiff, Nat.reduceMul, Int.reduceNeg, Int.reduceLT, Int.reduceAdd, Int.reduceSub]
        refine hK14 _ ?_
        refine vc_ret ?_
        refine ⟨_, by first | rfl | (simp only [go_sem, resQ, List.mapM_cons, List.mapM_nil, ↓reduceIte, Nat.reduceEqDiff, Nat.reduceAdd, Nat.reduceLeDiff, reduceCtorEq]; rfl), [], [], .nil, by simp, by simp, fun hi_ h1_ => ⟨?_, rfl, rfl⟩, by simp⟩
        first | rfl | simp_all
end Go.Proofs.Ytckiendbdbchnaa
