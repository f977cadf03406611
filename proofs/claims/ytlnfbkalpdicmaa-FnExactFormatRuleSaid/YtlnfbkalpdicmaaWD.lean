/- Walks through the code: each function's contract. -/
import Derived.Test.YtlnfbkalpdicmaaWC
set_option linter.unusedVariables false
set_option linter.unusedSimpArgs false
set_option maxRecDepth 8000
namespace Go.Proofs.Ytlnfbkalpdicmaa
open Go Go.VL

/-- slices.EqualFunc[[]impl.Expr,[]impl.Expr,impl.Expr,impl.Expr] -/
theorem slices_EqualFunc_Expr (g g2 f : Nat) (us bs : List E) (cs ds : List (List T)) (ha : E.repL us cs) (hb : E.repL bs ds) (hl : us.length < 2^40) (hl2 : bs.length < 2^40) (ih : ∀ a ∈ us, ∀ b ∈ bs, ∀ (c d : List T), a.rep c → b.rep d → FCtr Try.prog f [.agg (c.map .t), .agg (d.map .t)] (fun r => r = .t (.bool (E.eqb a b)))) : FCtr Try.prog 109 [.t (.sl g cs), .t (.sl g2 ds), .fn f []] (fun r => r = .t (.bool (E.eqbL us bs))) := by
  have hcl := E.repL_len ha
  have hdl := E.repL_len hb
  refine Ctr.of_vc (rs := [.tmp 6]) (fn := Try.f109) mixed Try.func109 rfl rfl (by kernel_rfl) (by kernel_rfl) (by simp [Try.ntmps109]) (fun h0 => ?_)
  refine vc_seq fun K1 hK1 => ?_
  refine vc_reg ?_
  try simp (disch := omega) only [go_sem, ↓reduceIte, Nat.reduceEqDiff, reduceCtorEq, Nat.reduceAdd, Nat.reduceLeDiff, Nat.reduceMul, Int.reduceNeg, Int.reduceLT, Int.reduceAdd, Int.reduceSub, hcl, hdl]
  refine hK1 _ ?_
  refine vc_seq fun K2 hK2 => ?_
  refine vc_seq fun K3 hK3 => ?_
  refine vc_reg ?_
  try simp (disch := omega) only [go_sem, ↓reduceIte, Nat.reduceEqDiff, reduceCtorEq, Nat.reduceAdd, Nat.reduceLeDiff, Nat.reduceMul, Int.reduceNeg, Int.reduceLT, Int.reduceAdd, Int.reduceSub, hcl, hdl]
  refine hK3 _ ?_
  refine vc_cond (t := _) (by first | rfl | (simp (disch := omega) only [go_sem, ↓reduceIte, Nat.reduceEqDiff, reduceCtorEq, Nat.reduceAdd, Nat.reduceLeDiff, Nat.reduceMul, Int.reduceNeg, Int.reduceLT, Int.reduceAdd, Int.reduceSub, hcl, hdl]; rfl)) (fun hc1 => ?_) (fun hc1 => ?_)
  · (try simp only [go_sem] at hc1)
    refine vc_seq fun K4 hK4 => ?_
    refine vc_reg ?_
    try simp (disch := omega) only [go_sem, ↓reduceIte, Nat.reduceEqDiff, reduceCtorEq, Nat.reduceAdd, Nat.reduceLeDiff, Nat.reduceMul, Int.reduceNeg, Int.reduceLT, Int.reduceAdd, Int.reduceSub, hcl, hdl]
    refine hK4 _ ?_
    refine vc_ret ?_
    refine ⟨_, by first | rfl | (simp only [go_sem, resQ, List.mapM_cons, List.mapM_nil, ↓reduceIte, Nat.reduceEqDiff, Nat.reduceAdd, Nat.reduceLeDiff, reduceCtorEq]; rfl), [], [], .nil, by simp, by simp, fun hi_ h1_ => ⟨?_, rfl, rfl⟩, by simp⟩
    rw [E.eqbL_len (fun h => hc1 (by rw [h]))]; rfl
  · (try simp only [go_sem] at hc1)
    refine vc_skip ?_
    refine hK2 _ ?_
    refine vc_seq fun K5 hK5 => ?_
    refine vc_seq fun K6 hK6 => ?_
    refine vc_reg ?_
    try simp (disch := omega) only [go_sem, ↓reduceIte, Nat.reduceEqDiff, reduceCtorEq, Nat.reduceAdd, Nat.reduceLeDiff, Nat.reduceMul, Int.reduceNeg, Int.reduceLT, Int.reduceAdd, Int.reduceSub, hcl, hdl]
    refine hK6 _ ?_
    refine vc_block ?_
    refine vc_loopG (fun m s => ∃ (n : Nat), (m = us.length - n) ∧ (s.σ = []) ∧ (s.env 0 = .t (.sl g cs)) ∧ (s.env 1 = .t (.sl g2 ds)) ∧ (s.env 2 = .fn f []) ∧ (s.env 15 = .t (.sl g cs)) ∧ (s.env 16 = .t (.int .i64 us.length)) ∧ (s.env 17 = .t (.int .i64 n)) ∧ (n ≤ us.length) ∧ (us.length = bs.length) ∧ (E.eqbL us bs = E.eqbL (us.drop n) (bs.drop n))) (us.length - 0) ⟨0, rfl, rfl, (by first | rfl | assumption | (simp (disch := omega) only [go_sem, ↓reduceIte, Nat.reduceEqDiff, reduceCtorEq, Nat.reduceAdd, Nat.reduceLeDiff, Nat.reduceMul, Int.reduceNeg, Int.reduceLT, Int.reduceAdd, Int.reduceSub, hcl, hdl])), (by first | rfl | assumption | (simp (disch := omega) only [go_sem, ↓reduceIte, Nat.reduceEqDiff, reduceCtorEq, Nat.reduceAdd, Nat.reduceLeDiff, Nat.reduceMul, Int.reduceNeg, Int.reduceLT, Int.reduceAdd, Int.reduceSub, hcl, hdl])), (by first | rfl | assumption | (simp (disch := omega) only [go_sem, ↓reduceIte, Nat.reduceEqDiff, reduceCtorEq, Nat.reduceAdd, Nat.reduceLeDiff, Nat.reduceMul, Int.reduceNeg, Int.reduceLT, Int.reduceAdd, Int.reduceSub, hcl, hdl])), (by first | rfl | assumption | (simp (disch := omega) only [go_sem, ↓reduceIte, Nat.reduceEqDiff, reduceCtorEq, Nat.reduceAdd, Nat.reduceLeDiff, Nat.reduceMul, Int.reduceNeg, Int.reduceLT, Int.reduceAdd, Int.reduceSub, hcl, hdl])), (by first | rfl | assumption | (simp (disch := omega) only [go_sem, ↓reduceIte, Nat.reduceEqDiff, reduceCtorEq, Nat.reduceAdd, Nat.reduceLeDiff, Nat.reduceMul, Int.reduceNeg, Int.reduceLT, Int.reduceAdd, Int.reduceSub, hcl, hdl])), (by first | rfl | assumption | (simp (disch := omega) only [go_sem, ↓reduceIte, Nat.reduceEqDiff, reduceCtorEq, Nat.reduceAdd, Nat.reduceLeDiff, Nat.reduceMul, Int.reduceNeg, Int.reduceLT, Int.reduceAdd, Int.reduceSub, hcl, hdl])), (by first | rfl | omega | simp), (by omega), (by first | rfl | omega | simp)⟩ ?_
    rintro m ⟨e, σ, h⟩ ⟨n, hm, hσ, e0, e1, e2, e15, e16, e17, hn, hll, he⟩ K7 hK7 hG7
    simp only at hσ e0 e1 e2 e15 e16 e17
    subst hσ
    refine vc_seq fun K8 hK8 => ?_
    refine vc_reg ?_
    try simp (disch := omega) only [go_sem, ↓reduceIte, Nat.reduceEqDiff, reduceCtorEq, Nat.reduceAdd, Nat.reduceLeDiff, Nat.reduceMul, Int.reduceNeg, Int.reduceLT, Int.reduceAdd, Int.reduceSub, e0, e1, e2, e15, e16, e17, hcl, hdl]
    refine hK8 _ ?_
    refine vc_seq fun K9 hK9 => ?_
    refine vc_cond (t := _) (by first | rfl | (simp (disch := omega) only [go_sem, ↓reduceIte, Nat.reduceEqDiff, reduceCtorEq, Nat.reduceAdd, Nat.reduceLeDiff, Nat.reduceMul, Int.reduceNeg, Int.reduceLT, Int.reduceAdd, Int.reduceSub, e0, e1, e2, e15, e16, e17, hcl, hdl]; rfl)) (fun hc2 => ?_) (fun hc2 => ?_)
    · (try simp only [go_sem] at hc2)
      refine vc_skip ?_
      refine hK9 _ ?_
      refine vc_seq fun K10 hK10 => ?_
      refine vc_block ?_
      refine vc_seq fun K11 hK11 => ?_
      obtain ⟨c, hc, hrc⟩ := E.repL_get ha (n := n) (by omega)
      obtain ⟨gc, cc, rfl, hcc⟩ := E.rep_cells hrc
      obtain ⟨d, hd, hrd⟩ := E.repL_get hb (n := n) (by omega)
      obtain ⟨gd, dd, rfl, hdd⟩ := E.rep_cells hrd
      have hny : n < bs.length := by omega
      refine vc_reg ?_
      try simp (disch := omega) only [go_sem, ↓reduceIte, Nat.reduceEqDiff, reduceCtorEq, Nat.reduceAdd, Nat.reduceLeDiff, Nat.reduceMul, Int.reduceNeg, Int.reduceLT, Int.reduceAdd, Int.reduceSub, e0, e1, e2, e15, e16, e17, hcl, hdl, hc, hd]
      intro g5_3 hg5_3
      refine hK11 _ ?_
      refine vc_seq fun K12 hK12 => ?_
      refine vc_reg ?_
      try simp (disch := omega) only [go_sem, ↓reduceIte, Nat.reduceEqDiff, reduceCtorEq, Nat.reduceAdd, Nat.reduceLeDiff, Nat.reduceMul, Int.reduceNeg, Int.reduceLT, Int.reduceAdd, Int.reduceSub, e0, e1, e2, e15, e16, e17, hcl, hdl, hc, hd]
      intro g6_4 hg6_4
      refine hK12 _ ?_
      refine vc_seq fun K13 hK13 => ?_
      refine vc_reg ?_
      try simp (disch := omega) only [go_sem, ↓reduceIte, Nat.reduceEqDiff, reduceCtorEq, Nat.reduceAdd, Nat.reduceLeDiff, Nat.reduceMul, Int.reduceNeg, Int.reduceLT, Int.reduceAdd, Int.reduceSub, e0, e1, e2, e15, e16, e17, hcl, hdl]
      refine vcX_call _ _ (ih _ (List.getElem_mem (show n < us.length by omega)) _ (List.getElem_mem (show n < bs.length by omega)) _ _ hrc hrd) (by first | rfl | (simp (disch := omega) only [go_sem, ↓reduceIte, Nat.reduceEqDiff, reduceCtorEq, Nat.reduceAdd, Nat.reduceLeDiff, Nat.reduceMul, Int.reduceNeg, Int.reduceLT, Int.reduceAdd, Int.reduceSub, e0, e1, e2, e15, e16, e17, hcl, hdl])) (by first | rfl | (simp (disch := omega) only [go_sem, ↓reduceIte, Nat.reduceEqDiff, reduceCtorEq, Nat.reduceAdd, Nat.reduceLeDiff, Nat.reduceMul, Int.reduceNeg, Int.reduceLT, Int.reduceAdd, Int.reduceSub, e0, e1, e2, e15, e16, e17, hcl, hdl])) (by first | rfl | simp [V.pures, V.pure, V.pures_t]) ?_
      rintro r7_3 h7_3 hh7_3 rfl -
      try simp (disch := omega) only [go_sem, ↓reduceIte, Nat.reduceEqDiff, reduceCtorEq, Nat.reduceAdd, Nat.reduceLeDiff, Nat.reduceMul, Int.reduceNeg, Int.reduceLT, Int.reduceAdd, Int.reduceSub, e0, e1, e2, e15, e16, e17, hcl, hdl]
      refine hK13 _ ?_
      refine vc_cond (t := _) (by first | rfl | (simp (disch := omega) only [go_sem, ↓reduceIte, Nat.reduceEqDiff, reduceCtorEq, Nat.reduceAdd, Nat.reduceLeDiff, Nat.reduceMul, Int.reduceNeg, Int.reduceLT, Int.reduceAdd, Int.reduceSub, e0, e1, e2, e15, e16, e17, hcl, hdl]; rfl)) (fun hc3 => ?_) (fun hc3 => ?_)
      · (try simp only [go_sem] at hc3)
        refine vc_seq fun K14 hK14 => ?_
        refine vc_reg ?_
        try simp (disch := omega) only [go_sem, ↓reduceIte, Nat.reduceEqDiff, reduceCtorEq, Nat.reduceAdd, Nat.reduceLeDiff, Nat.reduceMul, Int.reduceNeg, Int.reduceLT, Int.reduceAdd, Int.reduceSub, e0, e1, e2, e15, e16, e17, hcl, hdl]
        refine hK14 _ ?_
        refine vc_ret ?_
        refine ⟨_, by first | rfl | (simp only [go_sem, resQ, List.mapM_cons, List.mapM_nil, ↓reduceIte, Nat.reduceEqDiff, Nat.reduceAdd, Nat.reduceLeDiff, reduceCtorEq]; rfl), [], [], .nil, by simp, by simp, fun hi_ h1_ => ⟨?_, rfl, rfl⟩, by simp⟩
        rw [he, E.eqbL_drop (n := n) (by omega) (by omega), hc3, Bool.false_and]; rfl
      · (try simp only [go_sem] at hc3)
        refine vc_skip ?_
        refine hK10 _ ?_
        refine vc_reg ?_
        try simp (disch := omega) only [go_sem, ↓reduceIte, Nat.reduceEqDiff, reduceCtorEq, Nat.reduceAdd, Nat.reduceLeDiff, Nat.reduceMul, Int.reduceNeg, Int.reduceLT, Int.reduceAdd, Int.reduceSub, e0, e1, e2, e15, e16, e17, hcl, hdl]
        refine hG7 _ _ [] [] ?_ (by simp) (by simp) (by simp) ⟨n + 1, rfl, (by first | rfl | (simp (disch := omega) only [go_sem, ↓reduceIte, Nat.reduceEqDiff, reduceCtorEq, Nat.reduceAdd, Nat.reduceLeDiff, Nat.reduceMul, Int.reduceNeg, Int.reduceLT, Int.reduceAdd, Int.reduceSub, e0, e1, e2, e15, e16, e17, hcl, hdl, gc_σ, locObs, Ob.loc, V.loc, V.locs, idx]; done) | (simp [gc_σ, locObs, Ob.loc, V.loc, Function.comp_def, List.take_of_length_le]; done)), (by first | rfl | (simp (disch := omega) only [go_sem, ↓reduceIte, Nat.reduceEqDiff, reduceCtorEq, Nat.reduceAdd, Nat.reduceLeDiff, Nat.reduceMul, Int.reduceNeg, Int.reduceLT, Int.reduceAdd, Int.reduceSub, e0, e1, e2, e15, e16, e17, hcl, hdl, gc_env, V.loc, V.locs, idx]; done) | (simp (disch := omega) only [go_sem, ↓reduceIte, Nat.reduceEqDiff, reduceCtorEq, Nat.reduceAdd, Nat.reduceLeDiff, Nat.reduceMul, Int.reduceNeg, Int.reduceLT, Int.reduceAdd, Int.reduceSub, e0, e1, e2, e15, e16, e17, hcl, hdl, gc_env, V.loc, V.locs, idx]; simp; done)), (by first | rfl | (simp (disch := omega) only [go_sem, ↓reduceIte, Nat.reduceEqDiff, reduceCtorEq, Nat.reduceAdd, Nat.reduceLeDiff, Nat.reduceMul, Int.reduceNeg, Int.reduceLT, Int.reduceAdd, Int.reduceSub, e0, e1, e2, e15, e16, e17, hcl, hdl, gc_env, V.loc, V.locs, idx]; done) | (simp (disch := omega) only [go_sem, ↓reduceIte, Nat.reduceEqDiff, reduceCtorEq, Nat.reduceAdd, Nat.reduceLeDiff, Nat.reduceMul, Int.reduceNeg, Int.reduceLT, Int.reduceAdd, Int.reduceSub, e0, e1, e2, e15, e16, e17, hcl, hdl, gc_env, V.loc, V.locs, idx]; simp; done)), (by first | rfl | (simp (disch := omega) only [go_sem, ↓reduceIte, Nat.reduceEqDiff, reduceCtorEq, Nat.reduceAdd, Nat.reduceLeDiff, Nat.reduceMul, Int.reduceNeg, Int.reduceLT, Int.reduceAdd, Int.reduceSub, e0, e1, e2, e15, e16, e17, hcl, hdl, gc_env, V.loc, V.locs, idx]; done) | (simp (disch := omega) only [go_sem, ↓reduceIte, Nat.reduceEqDiff, reduceCtorEq, Nat.reduceAdd, Nat.reduceLeDiff, Nat.reduceMul, Int.reduceNeg, Int.reduceLT, Int.reduceAdd, Int.reduceSub, e0, e1, e2, e15, e16, e17, hcl, hdl, gc_env, V.loc, V.locs, idx]; simp; done)), (by first | rfl | (simp (disch := omega) only [go_sem, ↓reduceIte, Nat.reduceEqDiff, reduceCtorEq, Nat.reduceAdd, Nat.reduceLeDiff, Nat.reduceMul, Int.reduceNeg, Int.reduceLT, Int.reduceAdd, Int.reduceSub, e0, e1, e2, e15, e16, e17, hcl, hdl, gc_env, V.loc, V.locs, idx]; done) | (simp (disch := omega) only [go_sem, ↓reduceIte, Nat.reduceEqDiff, reduceCtorEq, Nat.reduceAdd, Nat.reduceLeDiff, Nat.reduceMul, Int.reduceNeg, Int.reduceLT, Int.reduceAdd, Int.reduceSub, e0, e1, e2, e15, e16, e17, hcl, hdl, gc_env, V.loc, V.locs, idx]; simp; done)), (by first | rfl | (simp (disch := omega) only [go_sem, ↓reduceIte, Nat.reduceEqDiff, reduceCtorEq, Nat.reduceAdd, Nat.reduceLeDiff, Nat.reduceMul, Int.reduceNeg, Int.reduceLT, Int.reduceAdd, Int.reduceSub, e0, e1, e2, e15, e16, e17, hcl, hdl, gc_env, V.loc, V.locs, idx]; done) | (simp (disch := omega) only [go_sem, ↓reduceIte, Nat.reduceEqDiff, reduceCtorEq, Nat.reduceAdd, Nat.reduceLeDiff, Nat.reduceMul, Int.reduceNeg, Int.reduceLT, Int.reduceAdd, Int.reduceSub, e0, e1, e2, e15, e16, e17, hcl, hdl, gc_env, V.loc, V.locs, idx]; simp; done)), (by first | rfl | (simp (disch := omega) only [go_sem, ↓reduceIte, Nat.reduceEqDiff, reduceCtorEq, Nat.reduceAdd, Nat.reduceLeDiff, Nat.reduceMul, Int.reduceNeg, Int.reduceLT, Int.reduceAdd, Int.reduceSub, e0, e1, e2, e15, e16, e17, hcl, hdl, gc_env, V.loc, V.locs, idx]; done) | (simp (disch := omega) only [go_sem, ↓reduceIte, Nat.reduceEqDiff, reduceCtorEq, Nat.reduceAdd, Nat.reduceLeDiff, Nat.reduceMul, Int.reduceNeg, Int.reduceLT, Int.reduceAdd, Int.reduceSub, e0, e1, e2, e15, e16, e17, hcl, hdl, gc_env, V.loc, V.locs, idx]; simp; done)), ?_, ?_, ?_⟩
        · omega
        · first | omega | assumption | rfl | simp_all
        · first | omega | assumption | rfl | simp_all
        · rw [he, E.eqbL_drop (n := n) (by omega) (by omega), hc3, Bool.true_and]
    · (try simp only [go_sem] at hc2)
      refine vc_exit ?_
      refine hK5 _ ?_
      refine vc_seq fun K15 hK15 => ?_
      refine vc_reg ?_
      try simp (disch := omega) only [go_sem, ↓reduceIte, Nat.reduceEqDiff, reduceCtorEq, Nat.reduceAdd, Nat.reduceLeDiff, Nat.reduceMul, Int.reduceNeg, Int.reduceLT, Int.reduceAdd, Int.reduceSub, e0, e1, e2, e15, e16, e17, hcl, hdl]
      refine hK15 _ ?_
      refine vc_ret ?_
      refine ⟨_, by first | rfl | (simp only [go_sem, resQ, List.mapM_cons, List.mapM_nil, ↓reduceIte, Nat.reduceEqDiff, Nat.reduceAdd, Nat.reduceLeDiff, reduceCtorEq]; rfl), [], [], .nil, by simp, by simp, fun hi_ h1_ => ⟨?_, rfl, rfl⟩, by simp⟩
      rw [he, List.drop_of_length_le (by omega), List.drop_of_length_le (by omega)]; rfl

/-- impl.EqualExpr -/
theorem impl_EqualExpr (a b : E) (c d : List T) (hc : a.rep c) (hd : b.rep d) (hw : a.wt ≤ 1048576) (hw2 : b.wt ≤ 1048576) : FCtr Try.prog 94 [.agg (c.map .t), .agg (d.map .t)] (fun r => r = .t (.bool (E.eqb a b))) := by
  induction a using E.ind generalizing b c d
  rename_i k nm us ih
  obtain ⟨k2, nm2, us2⟩ := b
  obtain ⟨g, cs, rfl, hcs⟩ := E.rep_mk hc
  obtain ⟨g2, ds, rfl, hds⟩ := E.rep_mk hd
  have hcl := E.repL_len hcs
  have hdl := E.repL_len hds
  rw [E.wt] at hw hw2
  have hwl := E.wtL_len us
  have hwl2 := E.wtL_len us2
  rw [E.eqb]
  refine Ctr.of_vc (rs := [.tmp 4]) (fn := Try.f94) mixed Try.func94 rfl rfl (by kernel_rfl) (by kernel_rfl) (by simp [Try.ntmps94]) (fun h0 => ?_)
  refine vc_seq fun K1 hK1 => ?_
  refine vc_reg ?_
  try simp (disch := omega) only [go_sem, ↓reduceIte, Nat.reduceEqDiff, reduceCtorEq, Nat.reduceAdd, Nat.reduceLeDiff, Nat.reduceMul, Int.reduceNeg, Int.reduceLT, Int.reduceAdd, Int.reduceSub]
  intro g0_0 hg0_0
  intro g0_1 hg0_1
  refine hK1 _ ?_
  refine vc_seq fun K2 hK2 => ?_
  refine vc_reg ?_
  refine vcX_cut 6 fun K3 hK3 => ?_
  try simp (disch := omega) only [go_sem, ↓reduceIte, Nat.reduceEqDiff, reduceCtorEq, Nat.reduceAdd, Nat.reduceLeDiff, Nat.reduceMul, Int.reduceNeg, Int.reduceLT, Int.reduceAdd, Int.reduceSub]
  refine hK3 _ ?_
  refine vcX_bool (fun hb1_5 => ?_) (fun hb1_5 => ?_)
  · (try simp only [go_sem] at hb1_5)
    refine vcX_cut 7 fun K5 hK5 => ?_
    try simp (disch := omega) only [go_sem, ↓reduceIte, Nat.reduceEqDiff, reduceCtorEq, Nat.reduceAdd, Nat.reduceLeDiff, Nat.reduceMul, Int.reduceNeg, Int.reduceLT, Int.reduceAdd, Int.reduceSub]
    refine hK5 _ ?_
    refine vcX_bool (fun hb1_12 => ?_) (fun hb1_12 => ?_)
    · (try simp only [go_sem] at hb1_12)
      try simp (disch := omega) only [go_sem, ↓reduceIte, Nat.reduceEqDiff, reduceCtorEq, Nat.reduceAdd, Nat.reduceLeDiff, Nat.reduceMul, Int.reduceNeg, Int.reduceLT, Int.reduceAdd, Int.reduceSub]
      refine vcX_call _ _ (slices_EqualFunc_Expr g g2 _ us us2 cs ds hcs hds (by omega) (by omega) (fun a ha b hb c d h1 h2 => ih a ha b c d h1 h2 (by have := E.wtL_mem ha; omega) (by have := E.wtL_mem hb; omega))) (by first | rfl | (simp (disch := omega) only [go_sem, ↓reduceIte, Nat.reduceEqDiff, reduceCtorEq, Nat.reduceAdd, Nat.reduceLeDiff, Nat.reduceMul, Int.reduceNeg, Int.reduceLT, Int.reduceAdd, Int.reduceSub])) (by first | rfl | (simp (disch := omega) only [go_sem, ↓reduceIte, Nat.reduceEqDiff, reduceCtorEq, Nat.reduceAdd, Nat.reduceLeDiff, Nat.reduceMul, Int.reduceNeg, Int.reduceLT, Int.reduceAdd, Int.reduceSub])) (by first | rfl | simp [V.pures, V.pure, V.pures_t]) ?_
      rintro r1_17 h1_17 hh1_17 rfl -
      try simp (disch := omega) only [go_sem, ↓reduceIte, Nat.reduceEqDiff, reduceCtorEq, Nat.reduceAdd, Nat.reduceLeDiff, Nat.reduceMul, Int.reduceNeg, Int.reduceLT, Int.reduceAdd, Int.reduceSub]
      refine hK2 _ ?_
      refine vc_ret ?_
      refine ⟨_, by first | rfl | (simp only [go_sem, resQ, List.mapM_cons, List.mapM_nil, ↓reduceIte, Nat.reduceEqDiff, Nat.reduceAdd, Nat.reduceLeDiff, reduceCtorEq]; rfl), [], [], .nil, by simp, by simp, fun hi_ h1_ => ⟨?_, rfl, rfl⟩, by simp⟩
      rw [decide_eq_true hb1_5, decide_eq_true hb1_12]; rfl
    · (try simp only [go_sem] at hb1_12)
      try simp (disch := omega) only [go_sem, ↓reduceIte, Nat.reduceEqDiff, reduceCtorEq, Nat.reduceAdd, Nat.reduceLeDiff, Nat.reduceMul, Int.reduceNeg, Int.reduceLT, Int.reduceAdd, Int.reduceSub]
      refine hK2 _ ?_
      refine vc_ret ?_
      refine ⟨_, by first | rfl | (simp only [go_sem, resQ, List.mapM_cons, List.mapM_nil, ↓reduceIte, Nat.reduceEqDiff, Nat.reduceAdd, Nat.reduceLeDiff, reduceCtorEq]; rfl), [], [], .nil, by simp, by simp, fun hi_ h1_ => ⟨?_, rfl, rfl⟩, by simp⟩
      rw [decide_eq_true hb1_5, decide_eq_false hb1_12]; rfl
  · (try simp only [go_sem] at hb1_5)
    try simp (disch := omega) only [go_sem, ↓reduceIte, Nat.reduceEqDiff, reduceCtorEq, Nat.reduceAdd, Nat.reduceLeDiff, Nat.reduceMul, Int.reduceNeg, Int.reduceLT, Int.reduceAdd, Int.reduceSub]
    refine hK2 _ ?_
    refine vc_ret ?_
    refine ⟨_, by first | rfl | (simp only [go_sem, resQ, List.mapM_cons, List.mapM_nil, ↓reduceIte, Nat.reduceEqDiff, Nat.reduceAdd, Nat.reduceLeDiff, reduceCtorEq]; rfl), [], [], .nil, by simp, by simp, fun hi_ h1_ => ⟨?_, rfl, rfl⟩, by simp⟩
    rw [decide_eq_false hb1_5]; rfl

/-- spec.EqualExpr -/
theorem spec_EqualExpr (a b : E) (c d : List T) (hc : a.rep c) (hd : b.rep d) (hw : a.wt ≤ 1048576) (hw2 : b.wt ≤ 1048576) : FCtr Try.prog 51 [.agg (c.map .t), .agg (d.map .t)] (fun r => r = .t (.bool (E.eqb a b))) := by
  induction a using E.ind generalizing b c d
  rename_i k nm us ih
  obtain ⟨k2, nm2, us2⟩ := b
  obtain ⟨g, cs, rfl, hcs⟩ := E.rep_mk hc
  obtain ⟨g2, ds, rfl, hds⟩ := E.rep_mk hd
  have hcl := E.repL_len hcs
  have hdl := E.repL_len hds
  rw [E.wt] at hw hw2
  have hwl := E.wtL_len us
  have hwl2 := E.wtL_len us2
  rw [E.eqb]
  refine Ctr.of_vc (rs := [.tmp 4]) (fn := Try.f51) mixed Try.func51 rfl rfl (by kernel_rfl) (by kernel_rfl) (by simp [Try.ntmps51]) (fun h0 => ?_)
  refine vc_seq fun K1 hK1 => ?_
  refine vc_reg ?_
  try simp (disch := omega) only [go_sem, ↓reduceIte, Nat.reduceEqDiff, reduceCtorEq, Nat.reduceAdd, Nat.reduceLeDiff, Nat.reduceMul, Int.reduceNeg, Int.reduceLT, Int.reduceAdd, Int.reduceSub, hcl, hdl]
  intro g0_0 hg0_0
  intro g0_1 hg0_1
  refine hK1 _ ?_
  refine vc_seq fun K2 hK2 => ?_
  refine vc_seq fun K3 hK3 => ?_
  refine vc_reg ?_
  refine vcX_cut 6 fun K4 hK4 => ?_
  try simp (disch := omega) only [go_sem, ↓reduceIte, Nat.reduceEqDiff, reduceCtorEq, Nat.reduceAdd, Nat.reduceLeDiff, Nat.reduceMul, Int.reduceNeg, Int.reduceLT, Int.reduceAdd, Int.reduceSub, hcl, hdl]
  refine hK4 _ ?_
  refine vcX_bool (fun hb1_5 => ?_) (fun hb1_5 => ?_)
  · (try simp only [go_sem] at hb1_5)
    try simp (disch := omega) only [go_sem, ↓reduceIte, Nat.reduceEqDiff, reduceCtorEq, Nat.reduceAdd, Nat.reduceLeDiff, Nat.reduceMul, Int.reduceNeg, Int.reduceLT, Int.reduceAdd, Int.reduceSub, hcl, hdl]
    refine hK3 _ ?_
    refine vc_cond (t := _) (by first | rfl | (simp (disch := omega) only [go_sem, ↓reduceIte, Nat.reduceEqDiff, reduceCtorEq, Nat.reduceAdd, Nat.reduceLeDiff, Nat.reduceMul, Int.reduceNeg, Int.reduceLT, Int.reduceAdd, Int.reduceSub, hcl, hdl]; rfl)) (fun hc1 => ?_) (fun hc1 => ?_)
    · (try simp only [go_sem] at hc1)
      refine vc_seq fun K6 hK6 => ?_
      refine vc_reg ?_
      try simp (disch := omega) only [go_sem, ↓reduceIte, Nat.reduceEqDiff, reduceCtorEq, Nat.reduceAdd, Nat.reduceLeDiff, Nat.reduceMul, Int.reduceNeg, Int.reduceLT, Int.reduceAdd, Int.reduceSub, hcl, hdl]
      refine hK6 _ ?_
      refine vc_ret ?_
      refine ⟨_, by first | rfl | (simp only [go_sem, resQ, List.mapM_cons, List.mapM_nil, ↓reduceIte, Nat.reduceEqDiff, Nat.reduceAdd, Nat.reduceLeDiff, reduceCtorEq]; rfl), [], [], .nil, by simp, by simp, fun hi_ h1_ => ⟨?_, rfl, rfl⟩, by simp⟩
      rw [decide_eq_false hb1_5]; rfl
    · exact absurd hc1 (by simp)
  · (try simp only [go_sem] at hb1_5)
    refine vcX_cut 7 fun K7 hK7 => ?_
    try simp (disch := omega) only [go_sem, ↓reduceIte, Nat.reduceEqDiff, reduceCtorEq, Nat.reduceAdd, Nat.reduceLeDiff, Nat.reduceMul, Int.reduceNeg, Int.reduceLT, Int.reduceAdd, Int.reduceSub, hcl, hdl]
    refine hK7 _ ?_
    refine vcX_bool (fun hb1_12 => ?_) (fun hb1_12 => ?_)
    · (try simp only [go_sem] at hb1_12)
      try simp (disch := omega) only [go_sem, ↓reduceIte, Nat.reduceEqDiff, reduceCtorEq, Nat.reduceAdd, Nat.reduceLeDiff, Nat.reduceMul, Int.reduceNeg, Int.reduceLT, Int.reduceAdd, Int.reduceSub, hcl, hdl]
      refine hK3 _ ?_
      refine vc_cond (t := _) (by first | rfl | (simp (disch := omega) only [go_sem, ↓reduceIte, Nat.reduceEqDiff, reduceCtorEq, Nat.reduceAdd, Nat.reduceLeDiff, Nat.reduceMul, Int.reduceNeg, Int.reduceLT, Int.reduceAdd, Int.reduceSub, hcl, hdl]; rfl)) (fun hc2 => ?_) (fun hc2 => ?_)
      · (try simp only [go_sem] at hc2)
        refine vc_seq fun K9 hK9 => ?_
        refine vc_reg ?_
        try simp (disch := omega) only [go_sem, ↓reduceIte, Nat.reduceEqDiff, reduceCtorEq, Nat.reduceAdd, Nat.reduceLeDiff, Nat.reduceMul, Int.reduceNeg, Int.reduceLT, Int.reduceAdd, Int.reduceSub, hcl, hdl]
        refine hK9 _ ?_
        refine vc_ret ?_
        refine ⟨_, by first | rfl | (simp only [go_sem, resQ, List.mapM_cons, List.mapM_nil, ↓reduceIte, Nat.reduceEqDiff, Nat.reduceAdd, Nat.reduceLeDiff, reduceCtorEq]; rfl), [], [], .nil, by simp, by simp, fun hi_ h1_ => ⟨?_, rfl, rfl⟩, by simp⟩
        rw [decide_eq_false hb1_12, Bool.and_false]; rfl
      · exact absurd hc2 (by simp)
    · (try simp only [go_sem] at hb1_12)
      try simp (disch := omega) only [go_sem, ↓reduceIte, Nat.reduceEqDiff, reduceCtorEq, Nat.reduceAdd, Nat.reduceLeDiff, Nat.reduceMul, Int.reduceNeg, Int.reduceLT, Int.reduceAdd, Int.reduceSub, hcl, hdl]
      refine hK3 _ ?_
      refine vc_cond (t := _) (by first | rfl | (simp (disch := omega) only [go_sem, ↓reduceIte, Nat.reduceEqDiff, reduceCtorEq, Nat.reduceAdd, Nat.reduceLeDiff, Nat.reduceMul, Int.reduceNeg, Int.reduceLT, Int.reduceAdd, Int.reduceSub, hcl, hdl]; rfl)) (fun hc3 => ?_) (fun hc3 => ?_)
      · (try simp only [go_sem] at hc3)
        refine vc_seq fun K10 hK10 => ?_
        refine vc_reg ?_
        try simp (disch := omega) only [go_sem, ↓reduceIte, Nat.reduceEqDiff, reduceCtorEq, Nat.reduceAdd, Nat.reduceLeDiff, Nat.reduceMul, Int.reduceNeg, Int.reduceLT, Int.reduceAdd, Int.reduceSub, hcl, hdl]
        refine hK10 _ ?_
        refine vc_ret ?_
        refine ⟨_, by first | rfl | (simp only [go_sem, resQ, List.mapM_cons, List.mapM_nil, ↓reduceIte, Nat.reduceEqDiff, Nat.reduceAdd, Nat.reduceLeDiff, reduceCtorEq]; rfl), [], [], .nil, by simp, by simp, fun hi_ h1_ => ⟨?_, rfl, rfl⟩, by simp⟩
        rw [E.eqbL_len (fun h => hc3 (by rw [h])), Bool.and_false]; rfl
      · (try simp only [go_sem] at hc3)
        refine vc_skip ?_
        refine hK2 _ ?_
        refine vc_seq fun K11 hK11 => ?_
        refine vc_seq fun K12 hK12 => ?_
        refine vc_reg ?_
        try simp (disch := omega) only [go_sem, ↓reduceIte, Nat.reduceEqDiff, reduceCtorEq, Nat.reduceAdd, Nat.reduceLeDiff, Nat.reduceMul, Int.reduceNeg, Int.reduceLT, Int.reduceAdd, Int.reduceSub, hcl, hdl]
        refine hK12 _ ?_
        refine vc_block ?_
        refine vc_loop (fun m s => ∃ (n : Nat), (m = us.length - n) ∧ (s.σ = [.row g0_0 0 3 3 [[V.t (.int .i64 k), V.t (.str nm), V.t (.sl g cs)]], .row g0_1 0 3 3 [[V.t (.int .i64 k2), V.t (.str nm2), V.t (.sl g2 ds)]]]) ∧ (s.env 2 = .ptr 0 0 0 0) ∧ (s.env 3 = .ptr 1 0 0 0) ∧ (s.env 5 = .t (.int .i64 n)) ∧ (n ≤ us.length) ∧ (k = k2 ∧ nm = nm2) ∧ (us.length = us2.length) ∧ (E.eqbL us us2 = E.eqbL (us.drop n) (us2.drop n))) (us.length - 0) ⟨0, rfl, (by first | rfl | simp), (by first | rfl | assumption | (simp (disch := omega) only [go_sem, ↓reduceIte, Nat.reduceEqDiff, reduceCtorEq, Nat.reduceAdd, Nat.reduceLeDiff, Nat.reduceMul, Int.reduceNeg, Int.reduceLT, Int.reduceAdd, Int.reduceSub, hcl, hdl])), (by first | rfl | assumption | (simp (disch := omega) only [go_sem, ↓reduceIte, Nat.reduceEqDiff, reduceCtorEq, Nat.reduceAdd, Nat.reduceLeDiff, Nat.reduceMul, Int.reduceNeg, Int.reduceLT, Int.reduceAdd, Int.reduceSub, hcl, hdl])), (by first | rfl | assumption | (simp (disch := omega) only [go_sem, ↓reduceIte, Nat.reduceEqDiff, reduceCtorEq, Nat.reduceAdd, Nat.reduceLeDiff, Nat.reduceMul, Int.reduceNeg, Int.reduceLT, Int.reduceAdd, Int.reduceSub, hcl, hdl])), (by first | rfl | omega | simp), (by exact ⟨hb1_5, hb1_12⟩), (by first | rfl | omega | simp), (by first | rfl | omega | simp)⟩ ?_
        rintro m ⟨e, σ, h⟩ ⟨n, hm, hσ, e2, e3, e5, hn, hkk, hll, he⟩ K13 hK13
        simp only at hσ e2 e3 e5
        subst hσ
        refine vc_seq fun K14 hK14 => ?_
        refine vc_seq fun K15 hK15 => ?_
        refine vc_reg ?_
        try simp (disch := omega) only [go_sem, ↓reduceIte, Nat.reduceEqDiff, reduceCtorEq, Nat.reduceAdd, Nat.reduceLeDiff, Nat.reduceMul, Int.reduceNeg, Int.reduceLT, Int.reduceAdd, Int.reduceSub, e2, e3, e5, hcl, hdl]
        refine hK15 _ ?_
        refine vc_cond (t := _) (by first | rfl | (simp (disch := omega) only [go_sem, ↓reduceIte, Nat.reduceEqDiff, reduceCtorEq, Nat.reduceAdd, Nat.reduceLeDiff, Nat.reduceMul, Int.reduceNeg, Int.reduceLT, Int.reduceAdd, Int.reduceSub, e2, e3, e5, hcl, hdl]; rfl)) (fun hc4 => ?_) (fun hc4 => ?_)
        · (try simp only [go_sem] at hc4)
          refine vc_skip ?_
          refine hK14 _ ?_
          refine vc_seq fun K16 hK16 => ?_
          refine vc_block ?_
          refine vc_seq fun K17 hK17 => ?_
          obtain ⟨c, hc, hrc⟩ := E.repL_get hcs (n := n) (by omega)
          obtain ⟨gc, cc, rfl, hcc⟩ := E.rep_cells hrc
          obtain ⟨d, hd2, hrd⟩ := E.repL_get hds (n := n) (by omega)
          obtain ⟨gd, dd, rfl, hdd⟩ := E.rep_cells hrd
          have hny : n < us2.length := by omega
          refine vc_regD [(0, false), (1, false), (2, false), (3, false), (4, false), (5, false), (6, false), (7, false), (8, false), (9, false), (10, false), (11, false)] (by kernel_rfl) ?_
          try simp (disch := omega) only [go_sem, ↓reduceIte, Nat.reduceEqDiff, reduceCtorEq, Nat.reduceAdd, Nat.reduceLeDiff, Nat.reduceMul, Int.reduceNeg, Int.reduceLT, Int.reduceAdd, Int.reduceSub, e2, e3, e5, hcl, hdl, hc, hd2]
          refine vcX_call _ _ (ih _ (List.getElem_mem (show n < us.length by omega)) _ _ _ hrc hrd (by have := E.wtL_mem (List.getElem_mem (show n < us.length by omega)); omega) (by have := E.wtL_mem (List.getElem_mem (show n < us2.length by omega)); omega)) (by first | rfl | (simp (disch := omega) only [go_sem, ↓reduceIte, Nat.reduceEqDiff, reduceCtorEq, Nat.reduceAdd, Nat.reduceLeDiff, Nat.reduceMul, Int.reduceNeg, Int.reduceLT, Int.reduceAdd, Int.reduceSub, e2, e3, e5, hcl, hdl, hc, hd2])) (by first | rfl | (simp (disch := omega) only [go_sem, ↓reduceIte, Nat.reduceEqDiff, reduceCtorEq, Nat.reduceAdd, Nat.reduceLeDiff, Nat.reduceMul, Int.reduceNeg, Int.reduceLT, Int.reduceAdd, Int.reduceSub, e2, e3, e5, hcl, hdl, hc, hd2])) (by first | rfl | simp [V.pures, V.pure, V.pures_t]) ?_
          rintro r6_10 h6_10 hh6_10 rfl -
          try simp (disch := omega) only [go_sem, ↓reduceIte, Nat.reduceEqDiff, reduceCtorEq, Nat.reduceAdd, Nat.reduceLeDiff, Nat.reduceMul, Int.reduceNeg, Int.reduceLT, Int.reduceAdd, Int.reduceSub, e2, e3, e5, hcl, hdl, hc, hd2]
          refine hK17 _ ?_
          refine vc_cond (t := _) (by first | rfl | (simp (disch := omega) only [go_sem, ↓reduceIte, Nat.reduceEqDiff, reduceCtorEq, Nat.reduceAdd, Nat.reduceLeDiff, Nat.reduceMul, Int.reduceNeg, Int.reduceLT, Int.reduceAdd, Int.reduceSub, e2, e3, e5, hcl, hdl]; rfl)) (fun hc5 => ?_) (fun hc5 => ?_)
          · (try simp only [go_sem] at hc5)
            refine vc_seq fun K18 hK18 => ?_
            refine vc_reg ?_
            try simp (disch := omega) only [go_sem, ↓reduceIte, Nat.reduceEqDiff, reduceCtorEq, Nat.reduceAdd, Nat.reduceLeDiff, Nat.reduceMul, Int.reduceNeg, Int.reduceLT, Int.reduceAdd, Int.reduceSub, e2, e3, e5, hcl, hdl]
            refine hK18 _ ?_
            refine vc_ret ?_
            refine ⟨_, by first | rfl | (simp only [go_sem, resQ, List.mapM_cons, List.mapM_nil, ↓reduceIte, Nat.reduceEqDiff, Nat.reduceAdd, Nat.reduceLeDiff, reduceCtorEq]; rfl), [], [], .nil, by simp, by simp, fun hi_ h1_ => ⟨?_, rfl, rfl⟩, by simp⟩
            rw [he, E.eqbL_drop (n := n) (by omega) (by omega), hc5, Bool.false_and, Bool.and_false]; rfl
          · (try simp only [go_sem] at hc5)
            refine vc_skip ?_
            refine hK16 _ ?_
            refine vc_reg ?_
            try simp (disch := omega) only [go_sem, ↓reduceIte, Nat.reduceEqDiff, reduceCtorEq, Nat.reduceAdd, Nat.reduceLeDiff, Nat.reduceMul, Int.reduceNeg, Int.reduceLT, Int.reduceAdd, Int.reduceSub, e2, e3, e5, hcl, hdl]
            refine hK13 _ _ ?_ ⟨n + 1, rfl, (by first | rfl | simp), (by first | rfl | assumption | (simp (disch := omega) only [go_sem, ↓reduceIte, Nat.reduceEqDiff, reduceCtorEq, Nat.reduceAdd, Nat.reduceLeDiff, Nat.reduceMul, Int.reduceNeg, Int.reduceLT, Int.reduceAdd, Int.reduceSub, e2, e3, e5, hcl, hdl])), (by first | rfl | assumption | (simp (disch := omega) only [go_sem, ↓reduceIte, Nat.reduceEqDiff, reduceCtorEq, Nat.reduceAdd, Nat.reduceLeDiff, Nat.reduceMul, Int.reduceNeg, Int.reduceLT, Int.reduceAdd, Int.reduceSub, e2, e3, e5, hcl, hdl])), (by first | rfl | assumption | (simp (disch := omega) only [go_sem, ↓reduceIte, Nat.reduceEqDiff, reduceCtorEq, Nat.reduceAdd, Nat.reduceLeDiff, Nat.reduceMul, Int.reduceNeg, Int.reduceLT, Int.reduceAdd, Int.reduceSub, e2, e3, e5, hcl, hdl])), ?_, ?_, ?_, ?_⟩
            · omega
            · first | omega | assumption | rfl | simp_all
            · first | omega | assumption | rfl | simp_all
            · first | omega | assumption | rfl | simp_all
            · rw [he, E.eqbL_drop (n := n) (by omega) (by omega), hc5, Bool.true_and]
        · (try simp only [go_sem] at hc4)
          refine vc_exit ?_
          refine hK11 _ ?_
          refine vc_seq fun K19 hK19 => ?_
          refine vc_reg ?_
          try simp (disch := omega) only [go_sem, ↓reduceIte, Nat.reduceEqDiff, reduceCtorEq, Nat.reduceAdd, Nat.reduceLeDiff, Nat.reduceMul, Int.reduceNeg, Int.reduceLT, Int.reduceAdd, Int.reduceSub, e2, e3, e5, hcl, hdl]
          refine hK19 _ ?_
          refine vc_ret ?_
          refine ⟨_, by first | rfl | (simp only [go_sem, resQ, List.mapM_cons, List.mapM_nil, ↓reduceIte, Nat.reduceEqDiff, Nat.reduceAdd, Nat.reduceLeDiff, reduceCtorEq]; rfl), [], [], .nil, by simp, by simp, fun hi_ h1_ => ⟨?_, rfl, rfl⟩, by simp⟩
          rw [he, List.drop_of_length_le (by omega), List.drop_of_length_le (by omega), decide_eq_true hkk.1, decide_eq_true hkk.2]; rfl
end Go.Proofs.Ytlnfbkalpdicmaa
