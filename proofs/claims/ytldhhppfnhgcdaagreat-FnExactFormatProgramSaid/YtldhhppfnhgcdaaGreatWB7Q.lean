/- Walks through the code: each function's contract. -/
import Derived.Test.YtldhhppfnhgcdaaGreatWB6Q
import Derived.Test.YtldhhppfnhgcdaaGreatWOQ
set_option linter.unusedVariables false
set_option linter.unusedSimpArgs false
set_option maxRecDepth 8000
namespace Go.Proofs.YtldhhppfnhgcdaaGreat
open Go Go.VL

def hvB (x : Ru) : Bool := headOk x && (decide ((x.bd.sz : Int) ≤ 80) && (decide ((x.bd.dp : Int) ≤ 24) && x.bd.af))
def restI (us : List Ru) (n : Nat) (x : Ru) : Bool := E.al (fitS us x.bd) x.bd && (decide (fi (fun a : Ru => decide (a.nm = x.nm) && decide (a.cn = x.cn)) 0 us = (n : Int)) && (restB us x (first us x) && within x))
theorem rule_split (us : List Ru) (n : Nat) (x : Ru) : ruleB us n x = (hvB x && restI us n x) := by
  unfold ruleB hvB restI
  generalize headOk x = a
  generalize (decide ((x.bd.sz : Int) ≤ 80) && (decide ((x.bd.dp : Int) ≤ 24) && x.bd.af)) = b
  generalize E.al (fitS us x.bd) x.bd = c
  generalize decide (fi (fun a : Ru => decide (a.nm = x.nm) && decide (a.cn = x.cn)) 0 us = (n : Int)) = d
  generalize restB us x (first us x) = e
  generalize within x = f
  cases a <;> cases b <;> cases c <;> cases d <;> cases e <;> cases f <;> rfl
theorem allI_split (us : List Ru) : ∀ (l : List Ru) (n : Nat), allI (ruleB us) n l = (l.all hvB && allI (restI us) n l)
  | [], n => rfl
  | x :: l, n => by
    rw [allI, allI, List.all_cons, allI_split us l, rule_split]
    generalize hvB x = a
    generalize restI us n x = b
    generalize l.all hvB = c
    generalize allI (restI us) (n + 1) l = d
    cases a <;> cases b <;> cases c <;> cases d <;> rfl
theorem valid_split (us : List Ru) : validB us = (decide ((us.length : Int) ≤ 24) && (us.all hvB && allI (restI us) 0 us)) := by rw [validB, allI_split]
theorem Pg.cn_rule {us : List Ru} {n : Nat} (h : n < us.length) (hc : us[n].cn ≠ ⟨#[]⟩) : 0 ≤ Pg.cn us[n].cn us := by
  have key : ∀ (l : List Ru) (x : Ru), x ∈ l → x.cn ≠ ⟨#[]⟩ → 0 ≤ Pg.cn x.cn l := by
    intro l
    induction l with
    | nil => intro x hx; cases hx
    | cons a l ih =>
      intro x hx hc
      by_cases h1 : a.cn = x.cn ∧ x.cn ≠ ⟨#[]⟩
      · have h2 : Pg.cn x.cn (a :: l) = a.vs.length := by rw [Pg.cn, if_pos h1]
        rw [h2]; omega
      · by_cases h3 : 0 ≤ E.cn x.cn a.bd
        · have h2 : Pg.cn x.cn (a :: l) = E.cn x.cn a.bd := by rw [Pg.cn, if_neg h1, if_pos h3]
          rw [h2]; exact h3
        · have h2 : Pg.cn x.cn (a :: l) = Pg.cn x.cn l := by rw [Pg.cn, if_neg h1, if_neg h3]
          rw [h2]
          rcases List.mem_cons.1 hx with rfl | hx
          · exact absurd ⟨rfl, hc⟩ h1
          · exact ih x hx hc
  exact key us us[n] (List.getElem_mem h) hc
theorem lk_rule {us : List Ru} {n : Nat} (h : n < us.length) (hc : us[n].cn ≠ ⟨#[]⟩) : (lk us[n].cn (arP us [])).getD 0 = Pg.cn us[n].cn us := by
  have hl0 : lk us[n].cn [] = none := rfl
  rw [lk_arP, hl0, Option.none_or, toO, if_pos (Pg.cn_rule h hc)]; rfl

set_option maxHeartbeats 8000000 in
/-- impl.IsValidProgram -/
theorem impl_IsValidProgram (us : List Ru) (c : List T) (hc : Pg.rep us c) (hw : wl Ru.wt us ≤ 1048576) : FCtr Tryz.prog 13 [.agg (c.map .t)] (fun r => r = .t (.bool (validB us))) := by
  have hc0 := hc
  obtain ⟨g, cs, rfl, ha⟩ := hc
  have hl1_ := wl_len Ru.wt us
  have hcl := ha.len
  refine Ctr.of_vc (rs := [.tmp 2]) (fn := Tryz.f13) mixed Tryz.func13 rfl rfl (by kernel_rfl) (by kernel_rfl) (by simp [Tryz.ntmps13]) (fun h0 => ?_)
  refine vc_seq fun K1 hK1 => ?_
  refine vc_reg ?_
  try simp (disch := omega) only [go_sem, ↓reduceIte, Nat.reduceEqDiff, reduceCtorEq, Nat.reduceAdd, Nat.reduceLeDiff, Nat.reduceMul, Int.reduceNeg, Int.reduceLT, Int.reduceAdd, Int.reduceSub, hcl, List.length_map]
  intro g0_0 hg0_0
  refine hK1 _ ?_
  refine vc_seq fun K2 hK2 => ?_
  refine vc_seq fun K3 hK3 => ?_
  refine vc_reg ?_
  try simp (disch := omega) only [go_sem, ↓reduceIte, Nat.reduceEqDiff, reduceCtorEq, Nat.reduceAdd, Nat.reduceLeDiff, Nat.reduceMul, Int.reduceNeg, Int.reduceLT, Int.reduceAdd, Int.reduceSub, hcl, List.length_map]
  refine hK3 _ ?_
  refine vc_cond (t := _) rfl (fun hc1 => ?_) (fun hc1 => ?_)
  · (try simp only [go_sem] at hc1)
    have h24 : ¬ (us.length : Int) ≤ 24 := by omega
    refine vc_seq fun K4 hK4 => ?_
    refine vc_reg ?_
    try simp (disch := omega) only [go_sem, ↓reduceIte, Nat.reduceEqDiff, reduceCtorEq, Nat.reduceAdd, Nat.reduceLeDiff, Nat.reduceMul, Int.reduceNeg, Int.reduceLT, Int.reduceAdd, Int.reduceSub, hcl, List.length_map]
    refine hK4 _ ?_
    refine vc_ret ?_
    refine ⟨_, by first | rfl | (simp only [go_sem, resQ, List.mapM_cons, List.mapM_nil, ↓reduceIte, Nat.reduceEqDiff, Nat.reduceAdd, Nat.reduceLeDiff, reduceCtorEq]; rfl), [], [], .nil, by simp, by simp, fun hi_ h1_ => ⟨?_, rfl, rfl⟩, by simp⟩
    have h_ : validB us = false := by rw [validB, decide_eq_false h24, Bool.false_and]
    rw [h_]; rfl
  · (try simp only [go_sem] at hc1)
    have hle24 : (us.length : Int) ≤ 24 := by omega
    refine vc_skip ?_
    refine hK2 _ ?_
    refine vc_seq fun K5 hK5 => ?_
    refine vc_seq fun K6 hK6 => ?_
    refine vc_reg ?_
    try simp (disch := omega) only [go_sem, ↓reduceIte, Nat.reduceEqDiff, reduceCtorEq, Nat.reduceAdd, Nat.reduceLeDiff, Nat.reduceMul, Int.reduceNeg, Int.reduceLT, Int.reduceAdd, Int.reduceSub, hcl, List.length_map]
    refine hK6 _ ?_
    refine vc_block ?_
    refine vc_loopG (fun m s => ∃ (n : Nat), (m = us.length - n) ∧ (s.σ = [.row g0_0 0 1 1 [[V.t (.sl g cs)]]]) ∧ (s.env 1 = .ptr 0 0 0 0) ∧ (s.env 17 = .t (.sl g cs)) ∧ (s.env 18 = .t (.int .i64 us.length)) ∧ (s.env 19 = .t (.int .i64 n)) ∧ (n ≤ us.length) ∧ (us.all hvB = (us.drop n).all hvB)) (us.length - 0) ⟨0, rfl, (by first | rfl | simp), (by first | rfl | assumption), (by first | rfl | assumption), (by first | rfl | assumption), (by first | rfl | assumption), (by first | rfl | omega | simp), (by rfl)⟩ ?_
    rintro m ⟨e, σ, h⟩ ⟨n, hm, hσ, e1, e17, e18, e19, hn, hx⟩ K7 hK7 hG7
    simp only at hσ e1 e17 e18 e19
    subst hσ
    refine vc_seq fun K8 hK8 => ?_
    refine vc_reg ?_
    try simp (disch := omega) only [go_sem, ↓reduceIte, Nat.reduceEqDiff, reduceCtorEq, Nat.reduceAdd, Nat.reduceLeDiff, Nat.reduceMul, Int.reduceNeg, Int.reduceLT, Int.reduceAdd, Int.reduceSub, e1, e17, e18, e19, hcl, List.length_map]
    refine hK8 _ ?_
    refine vc_seq fun K9 hK9 => ?_
    refine vc_cond (t := _) rfl (fun hc2 => ?_) (fun hc2 => ?_)
    · (try simp only [go_sem] at hc2)
      have hlt : n < us.length := hc2
      refine vc_skip ?_
      refine hK9 _ ?_
      refine vc_seq fun K10 hK10 => ?_
      refine vc_block ?_
      refine vc_seq fun K11 hK11 => ?_
      obtain ⟨cc, hcc, hrc⟩ := Rl.get ha (n := n) hlt
      obtain ⟨gac_, gbc_, kc_, nc_, gc_, csc_, rfl, hvc_⟩ := Ru.cells hrc
      have hwm := wl_mem (f := Ru.wt) (List.getElem_mem hlt)
      rw [Ru.wt] at hwm
      have hszv := E.sz_wt us[n].bd
      have hev := evs_len us[n].bd []
      simp only [List.length_nil] at hev
      refine vc_reg ?_
      try simp (disch := omega) only [go_sem, ↓reduceIte, Nat.reduceEqDiff, reduceCtorEq, Nat.reduceAdd, Nat.reduceLeDiff, Nat.reduceMul, Int.reduceNeg, Int.reduceLT, Int.reduceAdd, Int.reduceSub, e1, e17, e18, e19, hcl, List.length_map, hcc, setV]
      intro g5_2 hg5_2
      refine hK11 _ ?_
      refine vc_seq fun K12 hK12 => ?_
      refine vc_reg ?_
      refine vcX_cut 4 fun K13 hK13 => ?_
      try simp (disch := omega) only [go_sem, ↓reduceIte, Nat.reduceEqDiff, reduceCtorEq, Nat.reduceAdd, Nat.reduceLeDiff, Nat.reduceMul, Int.reduceNeg, Int.reduceLT, Int.reduceAdd, Int.reduceSub, e1, e17, e18, e19, hcl, List.length_map]
      refine vcX_call _ _ (impl_isHead us[n] _ hrc (by rw [Ru.wt]; omega)) rfl rfl (by first | rfl | simp [V.pures, V.pure, V.pures_t]) ?_
      rintro r6_1 h6_1 hh6_1 rfl -
      try simp (disch := omega) only [go_sem, ↓reduceIte, Nat.reduceEqDiff, reduceCtorEq, Nat.reduceAdd, Nat.reduceLeDiff, Nat.reduceMul, Int.reduceNeg, Int.reduceLT, Int.reduceAdd, Int.reduceSub, e1, e17, e18, e19, hcl, List.length_map]
      refine hK13 _ ?_
      refine vcX_bool (fun hb6_3 => ?_) (fun hb6_3 => ?_)
      · (try simp only [go_sem] at hb6_3)
        try simp (disch := omega) only [go_sem, ↓reduceIte, Nat.reduceEqDiff, reduceCtorEq, Nat.reduceAdd, Nat.reduceLeDiff, Nat.reduceMul, Int.reduceNeg, Int.reduceLT, Int.reduceAdd, Int.reduceSub, e1, e17, e18, e19, hcl, List.length_map]
        refine hK12 _ ?_
        refine vc_cond (t := _) rfl (fun hc3 => ?_) (fun hc3 => ?_)
        · (try simp only [go_sem] at hc3)
          have hcv := hc3
          refine vc_seq fun K15 hK15 => ?_
          refine vc_reg ?_
          try simp (disch := omega) only [go_sem, ↓reduceIte, Nat.reduceEqDiff, reduceCtorEq, Nat.reduceAdd, Nat.reduceLeDiff, Nat.reduceMul, Int.reduceNeg, Int.reduceLT, Int.reduceAdd, Int.reduceSub, e1, e17, e18, e19, hcl, List.length_map]
          refine hK15 _ ?_
          refine vc_ret ?_
          refine ⟨_, by first | rfl | (simp only [go_sem, resQ, List.mapM_cons, List.mapM_nil, ↓reduceIte, Nat.reduceEqDiff, Nat.reduceAdd, Nat.reduceLeDiff, reduceCtorEq]; rfl), [], [], .nil, by simp, by simp, fun hi_ h1_ => ⟨?_, rfl, rfl⟩, by simp⟩
          have h1_ : hvB us[n] = false := by rw [hvB, hb6_3, Bool.false_and]
          have h_ : validB us = false := by rw [valid_split, hx, all_drop hlt, h1_, Bool.false_and, Bool.false_and, Bool.and_false]
          rw [h_]; rfl
        · exact absurd hc3 (by simp)
      · (try simp only [go_sem] at hb6_3)
        try simp (disch := omega) only [go_sem, ↓reduceIte, Nat.reduceEqDiff, reduceCtorEq, Nat.reduceAdd, Nat.reduceLeDiff, Nat.reduceMul, Int.reduceNeg, Int.reduceLT, Int.reduceAdd, Int.reduceSub, e1, e17, e18, e19, hcl, List.length_map]
        refine vcX_call _ _ (impl_IsValidExpr us[n].bd _ hvc_ (by omega)) rfl rfl (by first | rfl | simp [V.pures, V.pure, V.pures_t]) ?_
        rintro r6_6 h6_6 hh6_6 rfl -
        generalize hvb : (decide ((us[n].bd.sz : Int) ≤ 80) && (decide ((us[n].bd.dp : Int) ≤ 24) && us[n].bd.af)) = vb_
        try simp (disch := omega) only [go_sem, ↓reduceIte, Nat.reduceEqDiff, reduceCtorEq, Nat.reduceAdd, Nat.reduceLeDiff, Nat.reduceMul, Int.reduceNeg, Int.reduceLT, Int.reduceAdd, Int.reduceSub, e1, e17, e18, e19, hcl, List.length_map]
        refine hK12 _ ?_
        refine vc_cond (t := _) rfl (fun hc4 => ?_) (fun hc4 => ?_)
        · (try simp only [go_sem] at hc4)
          have hcv := hc4
          refine vc_seq fun K16 hK16 => ?_
          refine vc_reg ?_
          try simp (disch := omega) only [go_sem, ↓reduceIte, Nat.reduceEqDiff, reduceCtorEq, Nat.reduceAdd, Nat.reduceLeDiff, Nat.reduceMul, Int.reduceNeg, Int.reduceLT, Int.reduceAdd, Int.reduceSub, e1, e17, e18, e19, hcl, List.length_map]
          refine hK16 _ ?_
          refine vc_ret ?_
          refine ⟨_, by first | rfl | (simp only [go_sem, resQ, List.mapM_cons, List.mapM_nil, ↓reduceIte, Nat.reduceEqDiff, Nat.reduceAdd, Nat.reduceLeDiff, reduceCtorEq]; rfl), [], [], .nil, by simp, by simp, fun hi_ h1_ => ⟨?_, rfl, rfl⟩, by simp⟩
          have h1_ : hvB us[n] = false := by rw [hvB, hvb, (by simpa using hcv : vb_ = false), Bool.and_false]
          have h_ : validB us = false := by rw [valid_split, hx, all_drop hlt, h1_, Bool.false_and, Bool.false_and, Bool.and_false]
          rw [h_]; rfl
        · (try simp only [go_sem] at hc4)
          have hcv := hc4
          refine vc_skip ?_
          refine hK10 _ ?_
          refine vc_reg ?_
          try simp (disch := omega) only [go_sem, ↓reduceIte, Nat.reduceEqDiff, reduceCtorEq, Nat.reduceAdd, Nat.reduceLeDiff, Nat.reduceMul, Int.reduceNeg, Int.reduceLT, Int.reduceAdd, Int.reduceSub, e1, e17, e18, e19, hcl, List.length_map]
          refine hG7 _ _ [0] [] ?_ (by simp) (by simp) (by simp) ⟨n + 1, rfl, (by first | rfl | (simp (disch := omega) only [go_sem, ↓reduceIte, Nat.reduceEqDiff, reduceCtorEq, Nat.reduceAdd, Nat.reduceLeDiff, Nat.reduceMul, Int.reduceNeg, Int.reduceLT, Int.reduceAdd, Int.reduceSub, e1, e17, e18, e19, hcl, List.length_map, gc_σ, locObs, Ob.loc, V.loc, V.locs, idx]; done) | (simp [gc_σ, locObs, Ob.loc, V.loc, Function.comp_def, List.take_of_length_le]; done)), (by first | rfl | (simp (disch := omega) only [go_sem, ↓reduceIte, Nat.reduceEqDiff, reduceCtorEq, Nat.reduceAdd, Nat.reduceLeDiff, Nat.reduceMul, Int.reduceNeg, Int.reduceLT, Int.reduceAdd, Int.reduceSub, e1, e17, e18, e19, hcl, List.length_map, gc_env, V.loc, V.locs, idx]; done) | (simp (disch := omega) only [go_sem, ↓reduceIte, Nat.reduceEqDiff, reduceCtorEq, Nat.reduceAdd, Nat.reduceLeDiff, Nat.reduceMul, Int.reduceNeg, Int.reduceLT, Int.reduceAdd, Int.reduceSub, e1, e17, e18, e19, hcl, List.length_map, gc_env, V.loc, V.locs, idx]; simp; done)), (by first | rfl | (simp (disch := omega) only [go_sem, ↓reduceIte, Nat.reduceEqDiff, reduceCtorEq, Nat.reduceAdd, Nat.reduceLeDiff, Nat.reduceMul, Int.reduceNeg, Int.reduceLT, Int.reduceAdd, Int.reduceSub, e1, e17, e18, e19, hcl, List.length_map, gc_env, V.loc, V.locs, idx]; done) | (simp (disch := omega) only [go_sem, ↓reduceIte, Nat.reduceEqDiff, reduceCtorEq, Nat.reduceAdd, Nat.reduceLeDiff, Nat.reduceMul, Int.reduceNeg, Int.reduceLT, Int.reduceAdd, Int.reduceSub, e1, e17, e18, e19, hcl, List.length_map, gc_env, V.loc, V.locs, idx]; simp; done)), (by first | rfl | (simp (disch := omega) only [go_sem, ↓reduceIte, Nat.reduceEqDiff, reduceCtorEq, Nat.reduceAdd, Nat.reduceLeDiff, Nat.reduceMul, Int.reduceNeg, Int.reduceLT, Int.reduceAdd, Int.reduceSub, e1, e17, e18, e19, hcl, List.length_map, gc_env, V.loc, V.locs, idx]; done) | (simp (disch := omega) only [go_sem, ↓reduceIte, Nat.reduceEqDiff, reduceCtorEq, Nat.reduceAdd, Nat.reduceLeDiff, Nat.reduceMul, Int.reduceNeg, Int.reduceLT, Int.reduceAdd, Int.reduceSub, e1, e17, e18, e19, hcl, List.length_map, gc_env, V.loc, V.locs, idx]; simp; done)), (by first | rfl | (simp (disch := omega) only [go_sem, ↓reduceIte, Nat.reduceEqDiff, reduceCtorEq, Nat.reduceAdd, Nat.reduceLeDiff, Nat.reduceMul, Int.reduceNeg, Int.reduceLT, Int.reduceAdd, Int.reduceSub, e1, e17, e18, e19, hcl, List.length_map, gc_env, V.loc, V.locs, idx]; done) | (simp (disch := omega) only [go_sem, ↓reduceIte, Nat.reduceEqDiff, reduceCtorEq, Nat.reduceAdd, Nat.reduceLeDiff, Nat.reduceMul, Int.reduceNeg, Int.reduceLT, Int.reduceAdd, Int.reduceSub, e1, e17, e18, e19, hcl, List.length_map, gc_env, V.loc, V.locs, idx]; simp; done)), ?_, ?_⟩
          · omega
          · first | omega | assumption | rfl | simp_all
          · rw [hx, all_drop hlt, show hvB us[n] = true by rw [hvB, hb6_3, hvb, (by simpa using hcv : vb_ = true)]; rfl, Bool.true_and]
    · (try simp only [go_sem] at hc2)
      refine vc_exit ?_
      refine hK5 _ ?_
      refine vc_seq fun K17 hK17 => ?_
      have hall : us.all hvB = true := by rw [hx, List.drop_of_length_le (by omega)]; rfl
      refine vc_reg ?_
      try simp (disch := omega) only [go_sem, ↓reduceIte, Nat.reduceEqDiff, reduceCtorEq, Nat.reduceAdd, Nat.reduceLeDiff, Nat.reduceMul, Int.reduceNeg, Int.reduceLT, Int.reduceAdd, Int.reduceSub, e1, e17, e18, e19, hcl, List.length_map]
      refine x_callNew [.agg (List.map V.t [.sl g cs])] _ (impl_arities us _ hc0 hw) (by first | rfl | simp (disch := omega) only [go_sem, ↓reduceIte, Nat.reduceEqDiff, reduceCtorEq, Nat.reduceAdd, Nat.reduceLeDiff, Nat.reduceMul, Int.reduceNeg, Int.reduceLT, Int.reduceAdd, Int.reduceSub, e1, e17, e18, e19, hcl, List.length_map]) (Subs.of_eq rfl) ?_
      rintro r9_1 σ9_1 h9_1 hh9_1 ⟨rfl, gm, rfl⟩
      try simp (disch := omega) only [go_sem, ↓reduceIte, Nat.reduceEqDiff, reduceCtorEq, Nat.reduceAdd, Nat.reduceLeDiff, Nat.reduceMul, Int.reduceNeg, Int.reduceLT, Int.reduceAdd, Int.reduceSub, e1, e17, e18, e19, hcl, List.length_map, V.back, bk, back_mE, List.getElem?_nil, List.length_nil, Nat.sub_zero, List.length_cons, Nat.zero_add, Nat.add_zero]
      refine hK17 _ ?_
      refine vc_seq fun K18 hK18 => ?_
      refine vc_seq fun K19 hK19 => ?_
      refine vc_reg ?_
      try simp (disch := omega) only [go_sem, ↓reduceIte, Nat.reduceEqDiff, reduceCtorEq, Nat.reduceAdd, Nat.reduceLeDiff, Nat.reduceMul, Int.reduceNeg, Int.reduceLT, Int.reduceAdd, Int.reduceSub, e1, e17, e18, e19, hcl, List.length_map]
      refine hK19 _ ?_
      refine vc_block ?_
      refine vc_loopG (fun m s => ∃ (n : Nat), (m = us.length - n) ∧ (s.σ = [.row g0_0 0 1 1 [[V.t (.sl g cs)]], .map gm (mE (arP us []))]) ∧ (s.env 1 = .ptr 0 0 0 0) ∧ (s.env 5 = .map 1) ∧ (s.env 36 = .t (.sl g cs)) ∧ (s.env 37 = .t (.int .i64 us.length)) ∧ (s.env 38 = .t (.int .i64 n)) ∧ (n ≤ us.length) ∧ (allI (restI us) 0 us = allI (restI us) n (us.drop n))) (us.length - 0) ⟨0, rfl, (by first | rfl | simp), (by first | rfl | assumption), (by first | rfl | assumption), (by first | rfl | assumption), (by first | rfl | assumption), (by first | rfl | assumption), (by first | rfl | omega | simp), (by rfl)⟩ ?_
      rintro m ⟨e, σ, h⟩ ⟨n, hm, hσ, e1, e5, e36, e37, e38, hn, hx2⟩ K20 hK20 hG20
      simp only at hσ e1 e5 e36 e37 e38
      subst hσ
      refine vc_seq fun K21 hK21 => ?_
      refine vc_reg ?_
      try simp (disch := omega) only [go_sem, ↓reduceIte, Nat.reduceEqDiff, reduceCtorEq, Nat.reduceAdd, Nat.reduceLeDiff, Nat.reduceMul, Int.reduceNeg, Int.reduceLT, Int.reduceAdd, Int.reduceSub, e1, e5, e36, e37, e38, hcl, List.length_map]
      refine hK21 _ ?_
      refine vc_seq fun K22 hK22 => ?_
      refine vc_cond (t := _) rfl (fun hc5 => ?_) (fun hc5 => ?_)
      · (try simp only [go_sem] at hc5)
        have hlt : n < us.length := hc5
        refine vc_skip ?_
        refine hK22 _ ?_
        refine vc_seq fun K23 hK23 => ?_
        refine vc_block ?_
        refine vc_seq fun K24 hK24 => ?_
        obtain ⟨cc, hcc, hrc⟩ := Rl.get ha (n := n) hlt
        obtain ⟨gac_, gbc_, kc_, nc_, gc_, csc_, rfl, hvc_⟩ := Ru.cells hrc
        have hwm := wl_mem (f := Ru.wt) (List.getElem_mem hlt)
        rw [Ru.wt] at hwm
        have hszv := E.sz_wt us[n].bd
        have hev := evs_len us[n].bd []
        simp only [List.length_nil] at hev
        have h1p : 0 ≤ fi (fun a : Ru => decide (a.nm = us[n].nm)) 0 us := fi_hit hlt (decide_eq_true rfl)
        obtain ⟨n1, hn1⟩ : ∃ n1 : Nat, fi (fun a : Ru => decide (a.nm = us[n].nm)) 0 us = n1 := ⟨(fi (fun a : Ru => decide (a.nm = us[n].nm)) 0 us).toNat, by omega⟩
        have hlt1 : n1 < us.length := by rcases fi_lt (p := fun a : Ru => decide (a.nm = us[n].nm)) us 0 with h | h <;> omega
        obtain ⟨cd, hcd, hrd⟩ := Rl.get ha (n := n1) hlt1
        obtain ⟨gad_, gbd_, kd_, nd_, gd_, csd_, rfl, hvd_⟩ := Ru.cells hrd
        have hfst : first us us[n] = us[n1] := by rw [first, hn1, Int.toNat_natCast, List.getElem?_eq_getElem hlt1]; rfl
        refine vc_reg ?_
        try simp (disch := omega) only [go_sem, ↓reduceIte, Nat.reduceEqDiff, reduceCtorEq, Nat.reduceAdd, Nat.reduceLeDiff, Nat.reduceMul, Int.reduceNeg, Int.reduceLT, Int.reduceAdd, Int.reduceSub, e1, e5, e36, e37, e38, hcl, List.length_map, hcc, setV]
        intro g12_3 hg12_3
        refine hK24 _ ?_
        refine vc_seqK (fun s => ∃ (g8 : Nat), (s.σ = [.row g0_0 0 1 1 [[V.t (.sl g cs)]], .map gm (mE (arP us [])), .row g12_3 0 7 7 [[V.t (.str us[n].nm), V.t (.str us[n].cn), V.t (.sl gac_ (us[n].vs.map fun s => [T.str s])), V.t (.sl gbc_ (us[n].ps.map fun s => [T.str s])), V.t (.int .i64 kc_), V.t (.str nc_), V.t (.sl gc_ csc_)]], .row g8 0 7 7 [[V.t (.str us[n1].nm), V.t (.str us[n1].cn), V.t (.sl gad_ (us[n1].vs.map fun s => [T.str s])), V.t (.sl gbd_ (us[n1].ps.map fun s => [T.str s])), V.t (.int .i64 kd_), V.t (.str nd_), V.t (.sl gd_ csd_)]]]) ∧ (s.env 1 = .ptr 0 0 0 0) ∧ (s.env 5 = .map 1) ∧ (s.env 36 = .t (.sl g cs)) ∧ (s.env 37 = .t (.int .i64 us.length)) ∧ (s.env 38 = .t (.int .i64 n)) ∧ (s.env 6 = .t (.int .i64 n)) ∧ (s.env 7 = .ptr 2 0 0 0) ∧ (s.env 8 = .ptr 3 0 0 0)) (fun KJ25 hKJ25 => ?_) ?_
        · skip
          refine vc_regD2 8 5 [(0, false), (1, false), (2, false), (3, false), (4, false), (8, false), (5, false), (6, false), (7, false), (9, true)] [(0, false), (1, false), (2, false), (3, false), (4, false), (5, false), (6, false), (7, false), (8, false), (9, true)] (by kernel_rfl) ?_ ?_
          · skip
            try simp (disch := omega) only [go_sem, ↓reduceIte, Nat.reduceEqDiff, reduceCtorEq, Nat.reduceAdd, Nat.reduceLeDiff, Nat.reduceMul, Int.reduceNeg, Int.reduceLT, Int.reduceAdd, Int.reduceSub, e1, e5, e36, e37, e38, hcl, List.length_map, hcd, setV]
            intro g13_8 hg13_8
            refine vcX_call _ _ (impl_firstRule us _ hc0 (by omega) us[n].nm) rfl rfl (by first | rfl | simp [V.pures, V.pure, V.pures_t]) ?_
            rintro r13_5 h13_5 hh13_5 rfl -
            rw [hn1]
            try simp (disch := omega) only [go_sem, ↓reduceIte, Nat.reduceEqDiff, reduceCtorEq, Nat.reduceAdd, Nat.reduceLeDiff, Nat.reduceMul, Int.reduceNeg, Int.reduceLT, Int.reduceAdd, Int.reduceSub, e1, e5, e36, e37, e38, hcl, List.length_map, hcd, setV]
            refine hKJ25 _ ⟨g13_8, (by first | rfl | simp), (by first | rfl | assumption), (by first | rfl | assumption), (by first | rfl | assumption), (by first | rfl | assumption), (by first | rfl | assumption), (by first | rfl | assumption), (by first | rfl | assumption), (by first | rfl | assumption)⟩
          · skip
            try simp (disch := omega) only [go_sem, ↓reduceIte, Nat.reduceEqDiff, reduceCtorEq, Nat.reduceAdd, Nat.reduceLeDiff, Nat.reduceMul, Int.reduceNeg, Int.reduceLT, Int.reduceAdd, Int.reduceSub, e1, e5, e36, e37, e38, hcl, List.length_map, hcd, setV]
            refine vcX_call _ _ (impl_firstRule us _ hc0 (by omega) us[n].nm) rfl rfl (by first | rfl | simp [V.pures, V.pure, V.pures_t]) ?_
            rintro r13_5 h13_5 hh13_5 rfl -
            rw [hn1]
            try simp (disch := omega) only [go_sem, ↓reduceIte, Nat.reduceEqDiff, reduceCtorEq, Nat.reduceAdd, Nat.reduceLeDiff, Nat.reduceMul, Int.reduceNeg, Int.reduceLT, Int.reduceAdd, Int.reduceSub, e1, e5, e36, e37, e38, hcl, List.length_map, hcd, setV]
            intro g13_8 hg13_8
            refine hKJ25 _ ⟨g13_8, (by first | rfl | simp), (by first | rfl | assumption), (by first | rfl | assumption), (by first | rfl | assumption), (by first | rfl | assumption), (by first | rfl | assumption), (by first | rfl | assumption), (by first | rfl | assumption), (by first | rfl | assumption)⟩
        · skip
          rintro ⟨e, σ, h⟩ ⟨g8, hσ, e1, e5, e36, e37, e38, e6, e7, e8⟩
          simp only at hσ e1 e5 e36 e37 e38 e6 e7 e8
          subst hσ
          refine vc_seq fun K26 hK26 => ?_
          refine vc_seq fun K27 hK27 => ?_
          refine vc_regD [(0, false), (1, false), (2, false), (3, false), (4, true), (5, false), (6, false), (7, false), (8, false), (9, false), (10, false), (11, false), (13, false), (12, false), (14, false), (15, false), (16, false), (17, false), (19, false), (18, false), (20, false), (21, false), (22, false), (23, false), (24, false), (25, false), (26, false), (27, false), (28, false), (29, false), (30, false), (31, false)] (by kernel_rfl) ?_
          refine vcX_cut 7 fun K28 hK28 => ?_
          try simp (disch := omega) only [go_sem, ↓reduceIte, Nat.reduceEqDiff, reduceCtorEq, Nat.reduceAdd, Nat.reduceLeDiff, Nat.reduceMul, Int.reduceNeg, Int.reduceLT, Int.reduceAdd, Int.reduceSub, e1, e5, e36, e37, e38, e6, e7, e8, hcl, List.length_map]
          refine vcX_callF [1] [] [.agg (List.map V.t [.sl g cs]), .map 0, .agg (List.map V.t [.int .i64 kc_, .str nc_, .sl gc_ csc_])] [.map gm (mE (arP us []))] _ (impl_fits gm us _ hc0 hw us[n].bd _ hvc_ (by omega) (arP us [])) (by first | rfl | simp (disch := omega) only [go_sem, ↓reduceIte, Nat.reduceEqDiff, reduceCtorEq, Nat.reduceAdd, Nat.reduceLeDiff, Nat.reduceMul, Int.reduceNeg, Int.reduceLT, Int.reduceAdd, Int.reduceSub, e1, e5, e36, e37, e38, e6, e7, e8, hcl, List.length_map]) (by simp) (by simp) (by simp) (by simp only [locObs, List.map_cons, List.map_nil, List.getElem?_cons_succ, List.getElem?_cons_zero, Option.getD_some, loc_mE]) (Subs.of_eq (by first | rfl | (simp (disch := omega) only [go_sem, ↓reduceIte, Nat.reduceEqDiff, reduceCtorEq, Nat.reduceAdd, Nat.reduceLeDiff, Nat.reduceMul, Int.reduceNeg, Int.reduceLT, Int.reduceAdd, Int.reduceSub, e1, e5, e36, e37, e38, e6, e7, e8, hcl, List.length_map]) | (simp only [go_sem, V.loc, V.locs, idx]; done))) ?_
          rintro r14_4 σ14_4 h14_4 hh14_4 ⟨rfl, rfl⟩
          refine ⟨by simp, ?_⟩
          rw [show backObs [.row g0_0 0 1 1 [[V.t (.sl g cs)]], .map gm (mE (arP us [])), .row g12_3 0 7 7 [[V.t (.str us[n].nm), V.t (.str us[n].cn), V.t (.sl gac_ (us[n].vs.map fun s => [T.str s])), V.t (.sl gbc_ (us[n].ps.map fun s => [T.str s])), V.t (.int .i64 kc_), V.t (.str nc_), V.t (.sl gc_ csc_)]], .row g8 0 7 7 [[V.t (.str us[n1].nm), V.t (.str us[n1].cn), V.t (.sl gad_ (us[n1].vs.map fun s => [T.str s])), V.t (.sl gbd_ (us[n1].ps.map fun s => [T.str s])), V.t (.int .i64 kd_), V.t (.str nd_), V.t (.sl gd_ csd_)]]] [1] [.map gm (mE (arP us []))] = [.row g0_0 0 1 1 [[V.t (.sl g cs)]], .map gm (mE (arP us [])), .row g12_3 0 7 7 [[V.t (.str us[n].nm), V.t (.str us[n].cn), V.t (.sl gac_ (us[n].vs.map fun s => [T.str s])), V.t (.sl gbc_ (us[n].ps.map fun s => [T.str s])), V.t (.int .i64 kc_), V.t (.str nc_), V.t (.sl gc_ csc_)]], .row g8 0 7 7 [[V.t (.str us[n1].nm), V.t (.str us[n1].cn), V.t (.sl gad_ (us[n1].vs.map fun s => [T.str s])), V.t (.sl gbd_ (us[n1].ps.map fun s => [T.str s])), V.t (.int .i64 kd_), V.t (.str nd_), V.t (.sl gd_ csd_)]]] by simp [backObs, backAt, idx, back_mE], fit_eq]
          generalize hfit : E.al (fitS us us[n].bd) us[n].bd = fb_
          try simp (disch := omega) only [go_sem, ↓reduceIte, Nat.reduceEqDiff, reduceCtorEq, Nat.reduceAdd, Nat.reduceLeDiff, Nat.reduceMul, Int.reduceNeg, Int.reduceLT, Int.reduceAdd, Int.reduceSub, e1, e5, e36, e37, e38, e6, e7, e8, hcl, List.length_map]
          refine hK28 _ ?_
          refine vcX_bool (fun hb14_6 => ?_) (fun hb14_6 => ?_)
          · (try simp only [go_sem] at hb14_6)
            try simp (disch := omega) only [go_sem, ↓reduceIte, Nat.reduceEqDiff, reduceCtorEq, Nat.reduceAdd, Nat.reduceLeDiff, Nat.reduceMul, Int.reduceNeg, Int.reduceLT, Int.reduceAdd, Int.reduceSub, e1, e5, e36, e37, e38, e6, e7, e8, hcl, List.length_map]
            refine hK27 _ ?_
            refine vc_cond (t := _) rfl (fun hc6 => ?_) (fun hc6 => ?_)
            · (try simp only [go_sem] at hc6)
              have hcp := hc6
              refine vc_seq fun K30 hK30 => ?_
              refine vc_reg ?_
              try simp (disch := omega) only [go_sem, ↓reduceIte, Nat.reduceEqDiff, reduceCtorEq, Nat.reduceAdd, Nat.reduceLeDiff, Nat.reduceMul, Int.reduceNeg, Int.reduceLT, Int.reduceAdd, Int.reduceSub, e1, e5, e36, e37, e38, e6, e7, e8, hcl, List.length_map]
              refine hK30 _ ?_
              refine vc_ret ?_
              refine ⟨_, by first | rfl | (simp only [go_sem, resQ, List.mapM_cons, List.mapM_nil, ↓reduceIte, Nat.reduceEqDiff, Nat.reduceAdd, Nat.reduceLeDiff, reduceCtorEq]; rfl), [], [], .nil, by simp, by simp, fun hi_ h1_ => ⟨?_, rfl, rfl⟩, by simp⟩
              have hri : restI us n us[n] = false := by
                rw [restI, hfit]
                rw [hb14_6, Bool.false_and]
              have h_ : validB us = false := by rw [valid_split, hx2, allI_drop hlt, hri, Bool.false_and, Bool.and_false, Bool.and_false]
              rw [h_]; rfl
            · exact absurd hc6 (by simp)
          · (try simp only [go_sem] at hb14_6)
            refine vcX_cut 10 fun K31 hK31 => ?_
            try simp (disch := omega) only [go_sem, ↓reduceIte, Nat.reduceEqDiff, reduceCtorEq, Nat.reduceAdd, Nat.reduceLeDiff, Nat.reduceMul, Int.reduceNeg, Int.reduceLT, Int.reduceAdd, Int.reduceSub, e1, e5, e36, e37, e38, e6, e7, e8, hcl, List.length_map]
            refine vcX_call _ _ (impl_FindRule us _ hc0 (by omega) us[n].nm us[n].cn) rfl rfl (by first | rfl | simp [V.pures, V.pure, V.pures_t]) ?_
            rintro r14_12 h14_12 hh14_12 rfl -
            try simp (disch := omega) only [go_sem, ↓reduceIte, Nat.reduceEqDiff, reduceCtorEq, Nat.reduceAdd, Nat.reduceLeDiff, Nat.reduceMul, Int.reduceNeg, Int.reduceLT, Int.reduceAdd, Int.reduceSub, e1, e5, e36, e37, e38, e6, e7, e8, hcl, List.length_map]
            refine hK31 _ ?_
            refine vcX_bool (fun hb14_16 => ?_) (fun hb14_16 => ?_)
            · (try simp only [go_sem] at hb14_16)
              try simp (disch := omega) only [go_sem, ↓reduceIte, Nat.reduceEqDiff, reduceCtorEq, Nat.reduceAdd, Nat.reduceLeDiff, Nat.reduceMul, Int.reduceNeg, Int.reduceLT, Int.reduceAdd, Int.reduceSub, e1, e5, e36, e37, e38, e6, e7, e8, hcl, List.length_map]
              refine hK27 _ ?_
              refine vc_cond (t := _) rfl (fun hc7 => ?_) (fun hc7 => ?_)
              · (try simp only [go_sem] at hc7)
                have hcp := hc7
                refine vc_seq fun K33 hK33 => ?_
                refine vc_reg ?_
                try simp (disch := omega) only [go_sem, ↓reduceIte, Nat.reduceEqDiff, reduceCtorEq, Nat.reduceAdd, Nat.reduceLeDiff, Nat.reduceMul, Int.reduceNeg, Int.reduceLT, Int.reduceAdd, Int.reduceSub, e1, e5, e36, e37, e38, e6, e7, e8, hcl, List.length_map]
                refine hK33 _ ?_
                refine vc_ret ?_
                refine ⟨_, by first | rfl | (simp only [go_sem, resQ, List.mapM_cons, List.mapM_nil, ↓reduceIte, Nat.reduceEqDiff, Nat.reduceAdd, Nat.reduceLeDiff, reduceCtorEq]; rfl), [], [], .nil, by simp, by simp, fun hi_ h1_ => ⟨?_, rfl, rfl⟩, by simp⟩
                have hri : restI us n us[n] = false := by
                  rw [restI, hfit]
                  rw [hb14_6, decide_eq_false hb14_16, Bool.true_and, Bool.false_and]
                have h_ : validB us = false := by rw [valid_split, hx2, allI_drop hlt, hri, Bool.false_and, Bool.and_false, Bool.and_false]
                rw [h_]; rfl
              · exact absurd hc7 (by simp)
            · (try simp only [go_sem] at hb14_16)
              refine vcX_cut 7 fun K34 hK34 => ?_
              try simp (disch := omega) only [go_sem, ↓reduceIte, Nat.reduceEqDiff, reduceCtorEq, Nat.reduceAdd, Nat.reduceLeDiff, Nat.reduceMul, Int.reduceNeg, Int.reduceLT, Int.reduceAdd, Int.reduceSub, e1, e5, e36, e37, e38, e6, e7, e8, hcl, List.length_map]
              refine vcX_call _ _ (impl_kindOf us[n1] _ hrd) rfl rfl (by first | rfl | simp [V.pures, V.pure, V.pures_t]) ?_
              rintro r14_18 h14_18 hh14_18 rfl -
              try simp (disch := omega) only [go_sem, ↓reduceIte, Nat.reduceEqDiff, reduceCtorEq, Nat.reduceAdd, Nat.reduceLeDiff, Nat.reduceMul, Int.reduceNeg, Int.reduceLT, Int.reduceAdd, Int.reduceSub, e1, e5, e36, e37, e38, e6, e7, e8, hcl, List.length_map]
              refine vcX_call _ _ (impl_kindOf us[n] _ hrc) rfl rfl (by first | rfl | simp [V.pures, V.pure, V.pures_t]) ?_
              rintro r14_20 h14_20 hh14_20 rfl -
              try simp (disch := omega) only [go_sem, ↓reduceIte, Nat.reduceEqDiff, reduceCtorEq, Nat.reduceAdd, Nat.reduceLeDiff, Nat.reduceMul, Int.reduceNeg, Int.reduceLT, Int.reduceAdd, Int.reduceSub, e1, e5, e36, e37, e38, e6, e7, e8, hcl, List.length_map]
              refine hK34 _ ?_
              refine vcX_bool (fun hb14_23 => ?_) (fun hb14_23 => ?_)
              · (try simp only [go_sem] at hb14_23)
                have hk : (decide (us[n1].cn = ⟨#[]⟩) == decide (us[n].cn = ⟨#[]⟩)) = false := by
                  by_cases p : us[n1].cn = ⟨#[]⟩ <;> by_cases q_ : us[n].cn = ⟨#[]⟩ <;> simp [p, q_] at hb14_23 ⊢
                try simp (disch := omega) only [go_sem, ↓reduceIte, Nat.reduceEqDiff, reduceCtorEq, Nat.reduceAdd, Nat.reduceLeDiff, Nat.reduceMul, Int.reduceNeg, Int.reduceLT, Int.reduceAdd, Int.reduceSub, e1, e5, e36, e37, e38, e6, e7, e8, hcl, List.length_map]
                refine hK27 _ ?_
                refine vc_cond (t := _) rfl (fun hc8 => ?_) (fun hc8 => ?_)
                · (try simp only [go_sem] at hc8)
                  have hcp := hc8
                  refine vc_seq fun K36 hK36 => ?_
                  refine vc_reg ?_
                  try simp (disch := omega) only [go_sem, ↓reduceIte, Nat.reduceEqDiff, reduceCtorEq, Nat.reduceAdd, Nat.reduceLeDiff, Nat.reduceMul, Int.reduceNeg, Int.reduceLT, Int.reduceAdd, Int.reduceSub, e1, e5, e36, e37, e38, e6, e7, e8, hcl, List.length_map]
                  refine hK36 _ ?_
                  refine vc_ret ?_
                  refine ⟨_, by first | rfl | (simp only [go_sem, resQ, List.mapM_cons, List.mapM_nil, ↓reduceIte, Nat.reduceEqDiff, Nat.reduceAdd, Nat.reduceLeDiff, reduceCtorEq]; rfl), [], [], .nil, by simp, by simp, fun hi_ h1_ => ⟨?_, rfl, rfl⟩, by simp⟩
                  have hri : restI us n us[n] = false := by
                    rw [restI, hfit]
                    rw [hb14_6, decide_eq_true hb14_16, hfst, restB, hk]; simp
                  have h_ : validB us = false := by rw [valid_split, hx2, allI_drop hlt, hri, Bool.false_and, Bool.and_false, Bool.and_false]
                  rw [h_]; rfl
                · exact absurd hc8 (by simp)
              · (try simp only [go_sem] at hb14_23)
                have hk : (decide (us[n1].cn = ⟨#[]⟩) == decide (us[n].cn = ⟨#[]⟩)) = true := by
                  by_cases p : us[n1].cn = ⟨#[]⟩ <;> by_cases q_ : us[n].cn = ⟨#[]⟩ <;> simp [p, q_] at hb14_23 ⊢
                try simp (disch := omega) only [go_sem, ↓reduceIte, Nat.reduceEqDiff, reduceCtorEq, Nat.reduceAdd, Nat.reduceLeDiff, Nat.reduceMul, Int.reduceNeg, Int.reduceLT, Int.reduceAdd, Int.reduceSub, e1, e5, e36, e37, e38, e6, e7, e8, hcl, List.length_map]
                refine hK27 _ ?_
                refine vc_cond (t := _) rfl (fun hc9 => ?_) (fun hc9 => ?_)
                · (try simp only [go_sem] at hc9)
                  have hcp := hc9
                  refine vc_seq fun K37 hK37 => ?_
                  refine vc_reg ?_
                  try simp (disch := omega) only [go_sem, ↓reduceIte, Nat.reduceEqDiff, reduceCtorEq, Nat.reduceAdd, Nat.reduceLeDiff, Nat.reduceMul, Int.reduceNeg, Int.reduceLT, Int.reduceAdd, Int.reduceSub, e1, e5, e36, e37, e38, e6, e7, e8, hcl, List.length_map]
                  refine hK37 _ ?_
                  refine vc_ret ?_
                  refine ⟨_, by first | rfl | (simp only [go_sem, resQ, List.mapM_cons, List.mapM_nil, ↓reduceIte, Nat.reduceEqDiff, Nat.reduceAdd, Nat.reduceLeDiff, reduceCtorEq]; rfl), [], [], .nil, by simp, by simp, fun hi_ h1_ => ⟨?_, rfl, rfl⟩, by simp⟩
                  have hri : restI us n us[n] = false := by
                    rw [restI, hfit]
                    rw [hb14_6, decide_eq_true hb14_16, hfst, restB, hk, beq_eq_false_iff_ne.2 hcp]; simp
                  have h_ : validB us = false := by rw [valid_split, hx2, allI_drop hlt, hri, Bool.false_and, Bool.and_false, Bool.and_false]
                  rw [h_]; rfl
                · (try simp only [go_sem] at hc9)
                  have hcp := hc9
                  refine vc_skip ?_
                  refine hK26 _ ?_
                  refine vc_seqK (fun s => (s.σ = [.row g0_0 0 1 1 [[V.t (.sl g cs)]], .map gm (mE (arP us [])), .row g12_3 0 7 7 [[V.t (.str us[n].nm), V.t (.str us[n].cn), V.t (.sl gac_ (us[n].vs.map fun s => [T.str s])), V.t (.sl gbc_ (us[n].ps.map fun s => [T.str s])), V.t (.int .i64 kc_), V.t (.str nc_), V.t (.sl gc_ csc_)]], .row g8 0 7 7 [[V.t (.str us[n1].nm), V.t (.str us[n1].cn), V.t (.sl gad_ (us[n1].vs.map fun s => [T.str s])), V.t (.sl gbd_ (us[n1].ps.map fun s => [T.str s])), V.t (.int .i64 kd_), V.t (.str nd_), V.t (.sl gd_ csd_)]]]) ∧ (s.env 1 = .ptr 0 0 0 0) ∧ (s.env 5 = .map 1) ∧ (s.env 36 = .t (.sl g cs)) ∧ (s.env 37 = .t (.int .i64 us.length)) ∧ (s.env 38 = .t (.int .i64 n)) ∧ (s.env 7 = .ptr 2 0 0 0) ∧ ((decide (us[n].cn = ⟨#[]⟩) || (Pg.cn us[n].cn us == (us[n].vs.length : Int))) = true)) (fun KJ38 hKJ38 => ?_) ?_
                  · skip
                    refine vc_seq fun K39 hK39 => ?_
                    refine vc_reg ?_
                    refine vcX_cut 4 fun K40 hK40 => ?_
                    try simp (disch := omega) only [go_sem, ↓reduceIte, Nat.reduceEqDiff, reduceCtorEq, Nat.reduceAdd, Nat.reduceLeDiff, Nat.reduceMul, Int.reduceNeg, Int.reduceLT, Int.reduceAdd, Int.reduceSub, e1, e5, e36, e37, e38, e6, e7, e8, hcl, List.length_map]
                    refine hK40 _ ?_
                    refine vcX_bool (fun hb16_3 => ?_) (fun hb16_3 => ?_)
                    · (try simp only [go_sem] at hb16_3)
                      try simp (disch := omega) only [go_sem, ↓reduceIte, Nat.reduceEqDiff, reduceCtorEq, Nat.reduceAdd, Nat.reduceLeDiff, Nat.reduceMul, Int.reduceNeg, Int.reduceLT, Int.reduceAdd, Int.reduceSub, e1, e5, e36, e37, e38, e6, e7, e8, hcl, List.length_map]
                      refine hK39 _ ?_
                      refine vc_cond (t := _) rfl (fun hc10 => ?_) (fun hc10 => ?_)
                      · (try simp only [go_sem] at hc10)
                        have hcm := hc10
                        refine vc_seq fun K42 hK42 => ?_
                        refine vc_reg ?_
                        try simp (disch := omega) only [go_sem, ↓reduceIte, Nat.reduceEqDiff, reduceCtorEq, Nat.reduceAdd, Nat.reduceLeDiff, Nat.reduceMul, Int.reduceNeg, Int.reduceLT, Int.reduceAdd, Int.reduceSub, e1, e5, e36, e37, e38, e6, e7, e8, hcl, List.length_map]
                        refine hK42 _ ?_
                        refine vc_ret ?_
                        refine ⟨_, by first | rfl | (simp only [go_sem, resQ, List.mapM_cons, List.mapM_nil, ↓reduceIte, Nat.reduceEqDiff, Nat.reduceAdd, Nat.reduceLeDiff, reduceCtorEq]; rfl), [], [], .nil, by simp, by simp, fun hi_ h1_ => ⟨?_, rfl, rfl⟩, by simp⟩
                        have hri : restI us n us[n] = false := by
                          rw [restI, hfit]
                          have hq7 : (Pg.cn us[n].cn us == (us[n].vs.length : Int)) = false := by rw [beq_eq_false_iff_ne, ← lk_rule hlt hb16_3]; exact hcm
                          rw [hb14_6, hfst, restB, decide_eq_false hb16_3, hq7]; simp
                        have h_ : validB us = false := by rw [valid_split, hx2, allI_drop hlt, hri, Bool.false_and, Bool.and_false, Bool.and_false]
                        rw [h_]; rfl
                      · (try simp only [go_sem] at hc10)
                        have hcm := hc10
                        refine vc_skip ?_
                        refine hKJ38 _ ⟨(by first | rfl | simp), (by first | rfl | assumption), (by first | rfl | assumption), (by first | rfl | assumption), (by first | rfl | assumption), (by first | rfl | assumption), (by first | rfl | assumption), ?_⟩
                        · rw [decide_eq_false hb16_3, Bool.false_or, beq_iff_eq, ← lk_rule hlt hb16_3]; exact hcm
                    · (try simp only [go_sem] at hb16_3)
                      try simp (disch := omega) only [go_sem, ↓reduceIte, Nat.reduceEqDiff, reduceCtorEq, Nat.reduceAdd, Nat.reduceLeDiff, Nat.reduceMul, Int.reduceNeg, Int.reduceLT, Int.reduceAdd, Int.reduceSub, e1, e5, e36, e37, e38, e6, e7, e8, hcl, List.length_map]
                      refine hK39 _ ?_
                      refine vc_cond (t := _) rfl (fun hc11 => ?_) (fun hc11 => ?_)
                      · exact absurd hc11 (by simp)
                      · (try simp only [go_sem] at hc11)
                        have hcm := hc11
                        refine vc_skip ?_
                        refine hKJ38 _ ⟨(by first | rfl | simp), (by first | rfl | assumption), (by first | rfl | assumption), (by first | rfl | assumption), (by first | rfl | assumption), (by first | rfl | assumption), (by first | rfl | assumption), ?_⟩
                        · rw [decide_eq_true hb16_3, Bool.true_or]
                  · skip
                    rintro ⟨e, σ, h⟩ ⟨hσ, e1, e5, e36, e37, e38, e7, hcn⟩
                    simp only at hσ e1 e5 e36 e37 e38 e7
                    subst hσ
                    refine vc_seq fun K43 hK43 => ?_
                    have hca : cat [(gac_, us[n].vs), (gbc_, us[n].ps)] = us[n].vs ++ us[n].ps := by simp [cat]
                    have hcl_ : (us[n].vs ++ us[n].ps).length ≤ 2097152 := by rw [List.length_append]; omega
                    refine vc_reg ?_
                    try simp (disch := omega) only [go_sem, ↓reduceIte, Nat.reduceEqDiff, reduceCtorEq, Nat.reduceAdd, Nat.reduceLeDiff, Nat.reduceMul, Int.reduceNeg, Int.reduceLT, Int.reduceAdd, Int.reduceSub, e1, e5, e36, e37, e38, e7, hcl, List.length_map]
                    refine .inl ⟨by simp [bsOk], fun g18_4 hg18_4 => ?_⟩
                    try simp (disch := omega) only [go_sem, ↓reduceIte, Nat.reduceEqDiff, reduceCtorEq, Nat.reduceAdd, Nat.reduceLeDiff, Nat.reduceMul, Int.reduceNeg, Int.reduceLT, Int.reduceAdd, Int.reduceSub, e1, e5, e36, e37, e38, e7, hcl, List.length_map]
                    refine x_callN (caps := []) [4] [.t (.sl g18_4 ([(gac_, us[n].vs), (gbc_, us[n].ps)].map fun p => [T.sl p.1 (Ts p.2)]))] _ ((slices_Concat_string g18_4 [(gac_, us[n].vs), (gbc_, us[n].ps)] (by simp) (by rw [catL, hca]; omega)).fresh (by rintro s ts ⟨_, g', rfl⟩; exact .inl rfl)) (by first | rfl | simp (disch := omega) only [go_sem, ↓reduceIte, Nat.reduceEqDiff, reduceCtorEq, Nat.reduceAdd, Nat.reduceLeDiff, Nat.reduceMul, Int.reduceNeg, Int.reduceLT, Int.reduceAdd, Int.reduceSub, e1, e5, e36, e37, e38, e7, hcl, List.length_map]) ?_ ?_
                    · refine Subs.of_eq ?_
                      show [V.loc _ [] [4] (V.own 4 0 0 2)] = _
                      rw [loc_frz (len := 2) [[T.sl gac_ (Ts us[n].vs)], [T.sl gbc_ (Ts us[n].ps)]] rfl rfl (by simp) rfl]; rfl
                    rintro rcc hcc_ hhcc ⟨s, ts, rfl, rfl, gcc, rfl⟩ -
                    rw [hca]
                    try simp (disch := omega) only [go_sem, ↓reduceIte, Nat.reduceEqDiff, reduceCtorEq, Nat.reduceAdd, Nat.reduceLeDiff, Nat.reduceMul, Int.reduceNeg, Int.reduceLT, Int.reduceAdd, Int.reduceSub, e1, e5, e36, e37, e38, e7, hcl, List.length_map, Shp.v, List.headD_cons, Ts_len]
                    refine hK43 _ ?_
                    refine vc_seq fun K44 hK44 => ?_
                    refine vc_reg ?_
                    try simp (disch := omega) only [go_sem, ↓reduceIte, Nat.reduceEqDiff, reduceCtorEq, Nat.reduceAdd, Nat.reduceLeDiff, Nat.reduceMul, Int.reduceNeg, Int.reduceLT, Int.reduceAdd, Int.reduceSub, e1, e5, e36, e37, e38, e7, hcl, List.length_map]
                    refine x_callN (caps := []) [] [.agg (List.map V.t [.int .i64 kc_, .str nc_, .sl gc_ csc_])] _ ((impl_VarsOf us[n].bd _ hvc_ (by omega)).fresh (by rintro s ts ⟨_, g', rfl⟩; exact .inl rfl)) (by first | rfl | simp (disch := omega) only [go_sem, ↓reduceIte, Nat.reduceEqDiff, reduceCtorEq, Nat.reduceAdd, Nat.reduceLeDiff, Nat.reduceMul, Int.reduceNeg, Int.reduceLT, Int.reduceAdd, Int.reduceSub, e1, e5, e36, e37, e38, e7, hcl, List.length_map]) ?_ ?_
                    · exact Subs.of_eq (by first | rfl | simp (disch := omega) only [go_sem, ↓reduceIte, Nat.reduceEqDiff, reduceCtorEq, Nat.reduceAdd, Nat.reduceLeDiff, Nat.reduceMul, Int.reduceNeg, Int.reduceLT, Int.reduceAdd, Int.reduceSub, e1, e5, e36, e37, e38, e7, hcl, List.length_map])
                    rintro rv_ hv_ hhv_ ⟨s, ts, rfl, rfl, gv, rfl⟩ -
                    try simp (disch := omega) only [go_sem, ↓reduceIte, Nat.reduceEqDiff, reduceCtorEq, Nat.reduceAdd, Nat.reduceLeDiff, Nat.reduceMul, Int.reduceNeg, Int.reduceLT, Int.reduceAdd, Int.reduceSub, e1, e5, e36, e37, e38, e7, hcl, List.length_map, Shp.v, List.headD_cons, Ts_len]
                    refine hK44 _ ?_
                    refine vc_block ?_
                    refine vc_loop (fun m s => ∃ (q : Nat), (m = (evs us[n].bd []).length - q) ∧ (s.σ = [.row g0_0 0 1 1 [[V.t (.sl g cs)]], .map gm (mE (arP us [])), .row g12_3 0 7 7 [[V.t (.str us[n].nm), V.t (.str us[n].cn), V.t (.sl gac_ (us[n].vs.map fun s => [T.str s])), V.t (.sl gbc_ (us[n].ps.map fun s => [T.str s])), V.t (.int .i64 kc_), V.t (.str nc_), V.t (.sl gc_ csc_)]], .row g8 0 7 7 [[V.t (.str us[n1].nm), V.t (.str us[n1].cn), V.t (.sl gad_ (us[n1].vs.map fun s => [T.str s])), V.t (.sl gbd_ (us[n1].ps.map fun s => [T.str s])), V.t (.int .i64 kd_), V.t (.str nd_), V.t (.sl gd_ csd_)]], .row g18_4 0 1 2 [[V.t (.sl gac_ (us[n].vs.map fun s => [T.str s]))], [V.t (.sl gbc_ (us[n].ps.map fun s => [T.str s]))]]]) ∧ (s.env 1 = .ptr 0 0 0 0) ∧ (s.env 5 = .map 1) ∧ (s.env 36 = .t (.sl g cs)) ∧ (s.env 37 = .t (.int .i64 us.length)) ∧ (s.env 38 = .t (.int .i64 n)) ∧ (s.env 9 = .t (.sl gcc (Ts (us[n].vs ++ us[n].ps)))) ∧ (s.env 104 = .t (.sl gv (Ts (evs us[n].bd [])))) ∧ (s.env 105 = .t (.int .i64 (evs us[n].bd []).length)) ∧ (s.env 106 = .t (.int .i64 q)) ∧ (q ≤ (evs us[n].bd []).length) ∧ (((evs us[n].bd []).all fun s => decide (0 ≤ ix s 0 (us[n].vs ++ us[n].ps))) = ((evs us[n].bd []).drop q).all fun s => decide (0 ≤ ix s 0 (us[n].vs ++ us[n].ps)))) ((evs us[n].bd []).length - 0) ⟨0, rfl, (by first | rfl | simp), (by first | rfl | assumption), (by first | rfl | assumption), (by first | rfl | assumption), (by first | rfl | assumption), (by first | rfl | assumption), (by first | rfl | assumption), (by first | rfl | assumption), (by first | rfl | assumption), (by first | rfl | assumption), (by first | rfl | omega | simp), (by rfl)⟩ ?_
                    rintro m ⟨e, σ, h⟩ ⟨q, hm, hσ, e1, e5, e36, e37, e38, e9, e104, e105, e106, hq, hwi⟩ K45 hK45
                    simp only at hσ e1 e5 e36 e37 e38 e9 e104 e105 e106
                    subst hσ
                    refine vc_seq fun K46 hK46 => ?_
                    refine vc_reg ?_
                    try simp (disch := omega) only [go_sem, ↓reduceIte, Nat.reduceEqDiff, reduceCtorEq, Nat.reduceAdd, Nat.reduceLeDiff, Nat.reduceMul, Int.reduceNeg, Int.reduceLT, Int.reduceAdd, Int.reduceSub, e1, e5, e36, e37, e38, e9, e104, e105, e106, hcl, List.length_map]
                    refine hK46 _ ?_
                    refine vc_seq fun K47 hK47 => ?_
                    refine vc_cond (t := _) rfl (fun hc12 => ?_) (fun hc12 => ?_)
                    · (try simp only [go_sem] at hc12)
                      have hltq : q < (evs us[n].bd []).length := hc12
                      have hget2 := Ts_get hltq
                      refine vc_skip ?_
                      refine hK47 _ ?_
                      refine vc_seq fun K48 hK48 => ?_
                      refine vc_block ?_
                      refine vc_seq fun K49 hK49 => ?_
                      refine vc_reg ?_
                      try simp (disch := omega) only [go_sem, ↓reduceIte, Nat.reduceEqDiff, reduceCtorEq, Nat.reduceAdd, Nat.reduceLeDiff, Nat.reduceMul, Int.reduceNeg, Int.reduceLT, Int.reduceAdd, Int.reduceSub, e1, e5, e36, e37, e38, e9, e104, e105, e106, hcl, List.length_map, hget2]
                      refine hK49 _ ?_
                      refine vc_seq fun K50 hK50 => ?_
                      refine vc_reg ?_
                      try simp (disch := omega) only [go_sem, ↓reduceIte, Nat.reduceEqDiff, reduceCtorEq, Nat.reduceAdd, Nat.reduceLeDiff, Nat.reduceMul, Int.reduceNeg, Int.reduceLT, Int.reduceAdd, Int.reduceSub, e1, e5, e36, e37, e38, e9, e104, e105, e106, hcl, List.length_map]
                      refine vcX_call _ _ (slices_Contains_string gcc (us[n].vs ++ us[n].ps) (evs us[n].bd [])[q] (by rw [List.length_append]; omega)) rfl rfl (by first | rfl | simp [V.pures, V.pure, V.pures_t]) ?_
                      rintro r22_2 h22_2 hh22_2 rfl -
                      try simp (disch := omega) only [go_sem, ↓reduceIte, Nat.reduceEqDiff, reduceCtorEq, Nat.reduceAdd, Nat.reduceLeDiff, Nat.reduceMul, Int.reduceNeg, Int.reduceLT, Int.reduceAdd, Int.reduceSub, e1, e5, e36, e37, e38, e9, e104, e105, e106, hcl, List.length_map]
                      refine hK50 _ ?_
                      refine vc_cond (t := _) rfl (fun hc13 => ?_) (fun hc13 => ?_)
                      · (try simp only [go_sem] at hc13)
                        have hcw := hc13
                        refine vc_seq fun K51 hK51 => ?_
                        refine vc_reg ?_
                        try simp (disch := omega) only [go_sem, ↓reduceIte, Nat.reduceEqDiff, reduceCtorEq, Nat.reduceAdd, Nat.reduceLeDiff, Nat.reduceMul, Int.reduceNeg, Int.reduceLT, Int.reduceAdd, Int.reduceSub, e1, e5, e36, e37, e38, e9, e104, e105, e106, hcl, List.length_map]
                        refine hK51 _ ?_
                        refine vc_ret ?_
                        refine ⟨_, by first | rfl | (simp only [go_sem, resQ, List.mapM_cons, List.mapM_nil, ↓reduceIte, Nat.reduceEqDiff, Nat.reduceAdd, Nat.reduceLeDiff, reduceCtorEq]; rfl), [], [], .nil, by simp, by simp, fun hi_ h1_ => ⟨?_, rfl, rfl⟩, by simp⟩
                        have hri : restI us n us[n] = false := by
                          rw [restI, hfit]
                          rw [within, hwi, all_drop hltq, (by simpa using hcw : decide (0 ≤ ix (evs us[n].bd [])[q] 0 (us[n].vs ++ us[n].ps)) = false)]; simp
                        have h_ : validB us = false := by rw [valid_split, hx2, allI_drop hlt, hri, Bool.false_and, Bool.and_false, Bool.and_false]
                        rw [h_]; rfl
                      · (try simp only [go_sem] at hc13)
                        have hcw := hc13
                        refine vc_skip ?_
                        refine hK48 _ ?_
                        refine vc_reg ?_
                        try simp (disch := omega) only [go_sem, ↓reduceIte, Nat.reduceEqDiff, reduceCtorEq, Nat.reduceAdd, Nat.reduceLeDiff, Nat.reduceMul, Int.reduceNeg, Int.reduceLT, Int.reduceAdd, Int.reduceSub, e1, e5, e36, e37, e38, e9, e104, e105, e106, hcl, List.length_map]
                        refine hK45 _ _ ?_ ⟨q + 1, rfl, (by first | rfl | simp), (by first | rfl | assumption), (by first | rfl | assumption), (by first | rfl | assumption), (by first | rfl | assumption), (by first | rfl | assumption), (by first | rfl | assumption), (by first | rfl | assumption), (by first | rfl | assumption), (by first | rfl | assumption), ?_, ?_⟩
                        · omega
                        · first | omega | assumption | rfl | simp_all
                        · rw [hwi, all_drop hltq, (by simpa using hcw : decide (0 ≤ ix (evs us[n].bd [])[q] 0 (us[n].vs ++ us[n].ps)) = true), Bool.true_and]
                    · (try simp only [go_sem] at hc12)
                      refine vc_exit ?_
                      refine hK23 _ ?_
                      refine vc_reg ?_
                      try simp (disch := omega) only [go_sem, ↓reduceIte, Nat.reduceEqDiff, reduceCtorEq, Nat.reduceAdd, Nat.reduceLeDiff, Nat.reduceMul, Int.reduceNeg, Int.reduceLT, Int.reduceAdd, Int.reduceSub, e1, e5, e36, e37, e38, e9, e104, e105, e106, hcl, List.length_map]
                      refine hG20 _ _ [0, 1] [] ?_ (by simp) (by simp) (by simp) ⟨n + 1, rfl, (by first | rfl | (simp (disch := omega) only [go_sem, ↓reduceIte, Nat.reduceEqDiff, reduceCtorEq, Nat.reduceAdd, Nat.reduceLeDiff, Nat.reduceMul, Int.reduceNeg, Int.reduceLT, Int.reduceAdd, Int.reduceSub, e1, e5, e36, e37, e38, e9, e104, e105, e106, hcl, List.length_map, gc_σ, locObs, Ob.loc, V.loc, V.locs, idx]; done) | (simp [gc_σ, locObs, Ob.loc, V.loc, Function.comp_def, List.take_of_length_le]; done)), (by first | rfl | (simp (disch := omega) only [go_sem, ↓reduceIte, Nat.reduceEqDiff, reduceCtorEq, Nat.reduceAdd, Nat.reduceLeDiff, Nat.reduceMul, Int.reduceNeg, Int.reduceLT, Int.reduceAdd, Int.reduceSub, e1, e5, e36, e37, e38, e9, e104, e105, e106, hcl, List.length_map, gc_env, V.loc, V.locs, idx]; done) | (simp (disch := omega) only [go_sem, ↓reduceIte, Nat.reduceEqDiff, reduceCtorEq, Nat.reduceAdd, Nat.reduceLeDiff, Nat.reduceMul, Int.reduceNeg, Int.reduceLT, Int.reduceAdd, Int.reduceSub, e1, e5, e36, e37, e38, e9, e104, e105, e106, hcl, List.length_map, gc_env, V.loc, V.locs, idx]; simp; done)), (by first | rfl | (simp (disch := omega) only [go_sem, ↓reduceIte, Nat.reduceEqDiff, reduceCtorEq, Nat.reduceAdd, Nat.reduceLeDiff, Nat.reduceMul, Int.reduceNeg, Int.reduceLT, Int.reduceAdd, Int.reduceSub, e1, e5, e36, e37, e38, e9, e104, e105, e106, hcl, List.length_map, gc_env, V.loc, V.locs, idx]; done) | (simp (disch := omega) only [go_sem, ↓reduceIte, Nat.reduceEqDiff, reduceCtorEq, Nat.reduceAdd, Nat.reduceLeDiff, Nat.reduceMul, Int.reduceNeg, Int.reduceLT, Int.reduceAdd, Int.reduceSub, e1, e5, e36, e37, e38, e9, e104, e105, e106, hcl, List.length_map, gc_env, V.loc, V.locs, idx]; simp; done)), (by first | rfl | (simp (disch := omega) only [go_sem, ↓reduceIte, Nat.reduceEqDiff, reduceCtorEq, Nat.reduceAdd, Nat.reduceLeDiff, Nat.reduceMul, Int.reduceNeg, Int.reduceLT, Int.reduceAdd, Int.reduceSub, e1, e5, e36, e37, e38, e9, e104, e105, e106, hcl, List.length_map, gc_env, V.loc, V.locs, idx]; done) | (simp (disch := omega) only [go_sem, ↓reduceIte, Nat.reduceEqDiff, reduceCtorEq, Nat.reduceAdd, Nat.reduceLeDiff, Nat.reduceMul, Int.reduceNeg, Int.reduceLT, Int.reduceAdd, Int.reduceSub, e1, e5, e36, e37, e38, e9, e104, e105, e106, hcl, List.length_map, gc_env, V.loc, V.locs, idx]; simp; done)), (by first | rfl | (simp (disch := omega) only [go_sem, ↓reduceIte, Nat.reduceEqDiff, reduceCtorEq, Nat.reduceAdd, Nat.reduceLeDiff, Nat.reduceMul, Int.reduceNeg, Int.reduceLT, Int.reduceAdd, Int.reduceSub, e1, e5, e36, e37, e38, e9, e104, e105, e106, hcl, List.length_map, gc_env, V.loc, V.locs, idx]; done) | (simp (disch := omega) only [go_sem, ↓reduceIte, Nat.reduceEqDiff, reduceCtorEq, Nat.reduceAdd, Nat.reduceLeDiff, Nat.reduceMul, Int.reduceNeg, Int.reduceLT, Int.reduceAdd, Int.reduceSub, e1, e5, e36, e37, e38, e9, e104, e105, e106, hcl, List.length_map, gc_env, V.loc, V.locs, idx]; simp; done)), (by first | rfl | (simp (disch := omega) only [go_sem, ↓reduceIte, Nat.reduceEqDiff, reduceCtorEq, Nat.reduceAdd, Nat.reduceLeDiff, Nat.reduceMul, Int.reduceNeg, Int.reduceLT, Int.reduceAdd, Int.reduceSub, e1, e5, e36, e37, e38, e9, e104, e105, e106, hcl, List.length_map, gc_env, V.loc, V.locs, idx]; done) | (simp (disch := omega) only [go_sem, ↓reduceIte, Nat.reduceEqDiff, reduceCtorEq, Nat.reduceAdd, Nat.reduceLeDiff, Nat.reduceMul, Int.reduceNeg, Int.reduceLT, Int.reduceAdd, Int.reduceSub, e1, e5, e36, e37, e38, e9, e104, e105, e106, hcl, List.length_map, gc_env, V.loc, V.locs, idx]; simp; done)), ?_, ?_⟩
                      · omega
                      · first | omega | assumption | rfl | simp_all
                      · rw [hx2, allI_drop hlt, show restI us n us[n] = true by rw [restI, hfit, hb14_6, decide_eq_true hb14_16, hfst, restB, hk, beq_iff_eq.2 hcp, hcn, within, hwi, List.drop_of_length_le (by omega)]; rfl, Bool.true_and]
      · (try simp only [go_sem] at hc5)
        refine vc_exit ?_
        refine hK18 _ ?_
        refine vc_seq fun K52 hK52 => ?_
        refine vc_reg ?_
        try simp (disch := omega) only [go_sem, ↓reduceIte, Nat.reduceEqDiff, reduceCtorEq, Nat.reduceAdd, Nat.reduceLeDiff, Nat.reduceMul, Int.reduceNeg, Int.reduceLT, Int.reduceAdd, Int.reduceSub, e1, e5, e36, e37, e38, hcl, List.length_map]
        refine hK52 _ ?_
        refine vc_ret ?_
        refine ⟨_, by first | rfl | (simp only [go_sem, resQ, List.mapM_cons, List.mapM_nil, ↓reduceIte, Nat.reduceEqDiff, Nat.reduceAdd, Nat.reduceLeDiff, reduceCtorEq]; rfl), [], [], .nil, by simp, by simp, fun hi_ h1_ => ⟨?_, rfl, rfl⟩, by simp⟩
        have h_ : validB us = true := by rw [valid_split, decide_eq_true hle24, hall, hx2, List.drop_of_length_le (by omega), allI]; rfl
        rw [h_]; rfl
end Go.Proofs.YtldhhppfnhgcdaaGreat
