/- Walks through the code: each function's contract. -/
import Derived.Test.YtldhhppfnhgcdaaGreatWB5Q
import Derived.Test.YtldhhppfnhgcdaaGreatWXQ
set_option linter.unusedVariables false
set_option linter.unusedSimpArgs false
set_option maxRecDepth 8000
namespace Go.Proofs.YtldhhppfnhgcdaaGreat
open Go Go.VL

/-- The first rule of a rule's function. -/
def first (us : List Ru) (x : Ru) : Ru := (us[(fi (fun a : Ru => decide (a.nm = x.nm)) 0 us).toNat]?).getD x
def restB (us : List Ru) (x f : Ru) : Bool := (decide (f.cn = ⟨#[]⟩) == decide (x.cn = ⟨#[]⟩)) && (((f.ps.length : Int) == (x.ps.length : Int)) && (decide (x.cn = ⟨#[]⟩) || (Pg.cn x.cn us == (x.vs.length : Int))))
def within (x : Ru) : Bool := (evs x.bd []).all fun s => decide (0 ≤ ix s 0 (x.vs ++ x.ps))
/-- Is a rule right at its place? -/
def ruleB (us : List Ru) (n : Nat) (x : Ru) : Bool := headOk x && (((decide ((x.bd.sz : Int) ≤ 80) && (decide ((x.bd.dp : Int) ≤ 24) && x.bd.af)) && E.al (fitS us x.bd) x.bd) && (within x && (decide (fi (fun a : Ru => decide (a.nm = x.nm) && decide (a.cn = x.cn)) 0 us = (n : Int)) && restB us x (first us x))))
def allI {α : Type} (p : Nat → α → Bool) : Nat → List α → Bool
  | _, [] => true
  | i, a :: l => p i a && allI p (i + 1) l
theorem allI_drop {α : Type} {p : Nat → α → Bool} {l : List α} {n : Nat} (h : n < l.length) : allI p n (l.drop n) = (p n l[n] && allI p (n + 1) (l.drop (n + 1))) := by rw [drop_get h, allI]
/-- Is a program right? -/
def validB (us : List Ru) : Bool := decide ((us.length : Int) ≤ 24) && allI (ruleB us) 0 us
theorem fi_hit {α : Type} {p : α → Bool} {l : List α} {n : Nat} (h : n < l.length) (hp : p l[n] = true) : 0 ≤ fi p 0 l := by
  have h1 := any_fi (p := p) l 0 (by omega)
  rw [show l.any p = true from List.any_eq_true.2 ⟨l[n], List.getElem_mem h, hp⟩] at h1
  simpa using h1

set_option maxHeartbeats 4000000 in
/-- spec.l5Rule -/
theorem spec_l5Rule (us : List Ru) (c : List T) (hc : Pg.rep us c) (hw : wl Ru.wt us ≤ 1048576) (n : Nat) (hlt : n < us.length) : FCtr Tryz.prog 17 [.agg (c.map .t), .t (.int .i64 n)] (fun r => r = .t (.bool (ruleB us n us[n]))) := by
  have hc0 := hc
  obtain ⟨g, cs, rfl, ha⟩ := hc
  have hl1_ := wl_len Ru.wt us
  have hcl := ha.len
  obtain ⟨cc, hcc, hrc⟩ := Rl.get ha (n := n) hlt
  obtain ⟨gac_, gbc_, kc_, nc_, gc_, csc_, rfl, hvc_⟩ := Ru.cells hrc
  have hwm := wl_mem (f := Ru.wt) (List.getElem_mem hlt)
  rw [Ru.wt] at hwm
  have hszv := E.sz_wt us[n].bd
  have hev := evs_len us[n].bd []
  simp only [List.length_nil] at hev
  have h1p : 0 ≤ fi (fun a : Ru => decide (a.nm = us[n].nm)) 0 us := fi_hit hlt (decide_eq_true rfl)
  obtain ⟨n1, hn1⟩ : ∃ n1 : Nat, fi (fun a : Ru => decide (a.nm = us[n].nm)) 0 us = n1 := ⟨(fi (fun a : Ru => decide (a.nm = us[n].nm)) 0 us).toNat, by omega⟩
  have hlt1 : n1 < us.length := by rcases fi_lt (p := fun a : Ru => decide (a.nm = us[n].nm)) us 0 with h | h <;> omega
  obtain ⟨cd, hcd, hrd⟩ := Rl.get ha (n := n1) hlt1
  obtain ⟨gad_, gbd_, kd_, nd_, gd_, csd_, rfl, hvd_⟩ := Ru.cells hrd
  have hfst : first us us[n] = us[n1] := by rw [first, hn1, Int.toNat_natCast, List.getElem?_eq_getElem hlt1]; rfl
  refine Ctr.of_vc (rs := [.tmp 4]) (fn := Tryz.f17) mixed Tryz.func17 rfl rfl (by kernel_rfl) (by kernel_rfl) (by simp [Tryz.ntmps17]) (fun h0 => ?_)
  refine vc_seq fun K1 hK1 => ?_
  refine vc_reg ?_
  try simp (disch := omega) only [go_sem, ↓reduceIte, Nat.reduceEqDiff, reduceCtorEq, Nat.reduceAdd, Nat.reduceLeDiff, Nat.reduceMul, Int.reduceNeg, Int.reduceLT, Int.reduceAdd, Int.reduceSub, hcl, List.length_map]
  intro g0_0 hg0_0
  refine hK1 _ ?_
  refine vc_seq fun K2 hK2 => ?_
  refine vc_reg ?_
  try simp (disch := omega) only [go_sem, ↓reduceIte, Nat.reduceEqDiff, reduceCtorEq, Nat.reduceAdd, Nat.reduceLeDiff, Nat.reduceMul, Int.reduceNeg, Int.reduceLT, Int.reduceAdd, Int.reduceSub, hcl, List.length_map, hcc, setV]
  intro g1_5 hg1_5
  refine hK2 _ ?_
  refine vc_seq fun K3 hK3 => ?_
  refine vc_regD [(1, false), (2, false), (4, false), (5, false), (0, false), (3, false), (6, true), (7, false)] (by kernel_rfl) ?_
  try simp (disch := omega) only [go_sem, ↓reduceIte, Nat.reduceEqDiff, reduceCtorEq, Nat.reduceAdd, Nat.reduceLeDiff, Nat.reduceMul, Int.reduceNeg, Int.reduceLT, Int.reduceAdd, Int.reduceSub, hcl, List.length_map, Vs_of]
  refine .inr (vcXB0_mk (by simp [bsOk]) fun h2_0 hh2_0 => ?_)
  try simp (disch := omega) only [go_sem, ↓reduceIte, Nat.reduceEqDiff, reduceCtorEq, Nat.reduceAdd, Nat.reduceLeDiff, Nat.reduceMul, Int.reduceNeg, Int.reduceLT, Int.reduceAdd, Int.reduceSub, hcl, List.length_map, Vs_of]
  refine x_appS0 us[n].vs (show tElem Tryz.prog 36 = some 9 by kernel_rfl) (show tSize Tryz.prog 9 = some 1 by kernel_rfl) (show tZero Tryz.prog 9 = some [.t (.str ⟨#[]⟩)] by kernel_rfl) (show tBytes Tryz.prog 9 = some 16 by kernel_rfl) rfl (by first | rfl | (simp (disch := omega) only [go_sem, ↓reduceIte, Nat.reduceEqDiff, reduceCtorEq, Nat.reduceAdd, Nat.reduceLeDiff, Nat.reduceMul, Int.reduceNeg, Int.reduceLT, Int.reduceAdd, Int.reduceSub, hcl, List.length_map, Vs_of, appElems, St.elems])) (by simp) (by omega) ?_
  rintro v2_3 S2_3 σ2_3 h2_3 hT2_3 hk2_3 hS2_3 hh2_3
  have hhp6a : σ2_3[0]? = some (.row g0_0 0 1 1 [[V.t (.sl g cs)]]) := (hk2_3 0 (by simp)).trans rfl
  have hhr6a : σ2_3[1]? = some (.row g1_5 0 7 7 [[V.t (.str us[n].nm), V.t (.str us[n].cn), V.t (.sl gac_ (us[n].vs.map fun s => [T.str s])), V.t (.sl gbc_ (us[n].ps.map fun s => [T.str s])), V.t (.int .i64 kc_), V.t (.str nc_), V.t (.sl gc_ csc_)]]) := (hk2_3 1 (by simp)).trans rfl
  try simp (disch := omega) only [go_sem, ↓reduceIte, Nat.reduceEqDiff, reduceCtorEq, Nat.reduceAdd, Nat.reduceLeDiff, Nat.reduceMul, Int.reduceNeg, Int.reduceLT, Int.reduceAdd, Int.reduceSub, hcl, List.length_map, Vs_of]
  refine x_appS us[n].ps (show tElem Tryz.prog 36 = some 9 by kernel_rfl) (show tSize Tryz.prog 9 = some 1 by kernel_rfl) (show tZero Tryz.prog 9 = some [.t (.str ⟨#[]⟩)] by kernel_rfl) (show tBytes Tryz.prog 9 = some 16 by kernel_rfl) rfl hT2_3 (by first | rfl | (simp (disch := omega) only [go_sem, ↓reduceIte, Nat.reduceEqDiff, reduceCtorEq, Nat.reduceAdd, Nat.reduceLeDiff, Nat.reduceMul, Int.reduceNeg, Int.reduceLT, Int.reduceAdd, Int.reduceSub, hcl, List.length_map, Vs_of, appElems, St.elems])) (by simp) (by omega) ?_
  rintro v2_6 S2_6 σ2_6 h2_6 hT2_6 hk2_6 hS2_6 hh2_6
  have hp6 : σ2_6[0]? = some (.row g0_0 0 1 1 [[V.t (.sl g cs)]]) := (hk2_6 0 (List.getElem?_eq_some_iff.1 hhp6a).1 (fun h => by have := hS2_3 0 h; simp at this)).trans hhp6a
  have hr6 : σ2_6[1]? = some (.row g1_5 0 7 7 [[V.t (.str us[n].nm), V.t (.str us[n].cn), V.t (.sl gac_ (us[n].vs.map fun s => [T.str s])), V.t (.sl gbc_ (us[n].ps.map fun s => [T.str s])), V.t (.int .i64 kc_), V.t (.str nc_), V.t (.sl gc_ csc_)]]) := (hk2_6 1 (List.getElem?_eq_some_iff.1 hhr6a).1 (fun h => by have := hS2_3 1 h; simp at this)).trans hhr6a
  obtain ⟨gl, hlend⟩ := hT2_6.lend
  rw [Ds_er] at hlend
  try simp (disch := omega) only [go_sem, ↓reduceIte, Nat.reduceEqDiff, reduceCtorEq, Nat.reduceAdd, Nat.reduceLeDiff, Nat.reduceMul, Int.reduceNeg, Int.reduceLT, Int.reduceAdd, Int.reduceSub, hcl, List.length_map, Vs_of]
  refine hK3 _ ?_
  refine vc_seq fun K4 hK4 => ?_
  refine vc_seq fun K5 hK5 => ?_
  refine vc_reg ?_
  refine vcX_cut 4 fun K6 hK6 => ?_
  try simp (disch := omega) only [go_sem, ↓reduceIte, Nat.reduceEqDiff, reduceCtorEq, Nat.reduceAdd, Nat.reduceLeDiff, Nat.reduceMul, Int.reduceNeg, Int.reduceLT, Int.reduceAdd, Int.reduceSub, hcl, List.length_map, hp6, hr6]
  refine vcX_call _ _ (spec_l5Head us[n] _ hrc (by rw [Ru.wt]; omega)) rfl rfl (by first | rfl | simp [V.pures, V.pure, V.pures_t]) ?_
  rintro r3_1 h3_1 hh3_1 rfl -
  generalize hhead : headOk us[n] = hb_
  try simp (disch := omega) only [go_sem, ↓reduceIte, Nat.reduceEqDiff, reduceCtorEq, Nat.reduceAdd, Nat.reduceLeDiff, Nat.reduceMul, Int.reduceNeg, Int.reduceLT, Int.reduceAdd, Int.reduceSub, hcl, List.length_map, hp6, hr6]
  refine hK6 _ ?_
  refine vcX_bool (fun hb3_3 => ?_) (fun hb3_3 => ?_)
  · (try simp only [go_sem] at hb3_3)
    try simp (disch := omega) only [go_sem, ↓reduceIte, Nat.reduceEqDiff, reduceCtorEq, Nat.reduceAdd, Nat.reduceLeDiff, Nat.reduceMul, Int.reduceNeg, Int.reduceLT, Int.reduceAdd, Int.reduceSub, hcl, List.length_map, hp6, hr6]
    refine hK5 _ ?_
    refine vc_cond (t := _) rfl (fun hc1 => ?_) (fun hc1 => ?_)
    · (try simp only [go_sem] at hc1)
      refine vc_seq fun K8 hK8 => ?_
      refine vc_reg ?_
      try simp (disch := omega) only [go_sem, ↓reduceIte, Nat.reduceEqDiff, reduceCtorEq, Nat.reduceAdd, Nat.reduceLeDiff, Nat.reduceMul, Int.reduceNeg, Int.reduceLT, Int.reduceAdd, Int.reduceSub, hcl, List.length_map]
      refine hK8 _ ?_
      refine vc_ret ?_
      refine ⟨_, by first | rfl | (simp only [go_sem, resQ, List.mapM_cons, List.mapM_nil, ↓reduceIte, Nat.reduceEqDiff, Nat.reduceAdd, Nat.reduceLeDiff, reduceCtorEq]; rfl), [], [], .nil, by simp, by simp, fun hi_ h1_ => ⟨?_, rfl, rfl⟩, by simp⟩
      have h_ : ruleB us n us[n] = false := by
        rw [ruleB, hhead, hb3_3]
        simp only [Bool.true_and, Bool.false_and]
      rw [h_]; rfl
    · exact absurd hc1 (by simp)
  · (try simp only [go_sem] at hb3_3)
    refine vcX_cut 7 fun K9 hK9 => ?_
    try simp (disch := omega) only [go_sem, ↓reduceIte, Nat.reduceEqDiff, reduceCtorEq, Nat.reduceAdd, Nat.reduceLeDiff, Nat.reduceMul, Int.reduceNeg, Int.reduceLT, Int.reduceAdd, Int.reduceSub, hcl, List.length_map, hp6, hr6]
    refine vcX_call _ _ (spec_IsExprFor us _ hc0 hw us[n].bd _ hvc_ (by omega)) rfl rfl (by first | rfl | simp [V.pures, V.pure, V.pures_t]) ?_
    rintro r3_7 h3_7 hh3_7 rfl -
    generalize hfit : ((decide ((us[n].bd.sz : Int) ≤ 80) && (decide ((us[n].bd.dp : Int) ≤ 24) && us[n].bd.af)) && E.al (fitS us us[n].bd) us[n].bd) = fb_
    try simp (disch := omega) only [go_sem, ↓reduceIte, Nat.reduceEqDiff, reduceCtorEq, Nat.reduceAdd, Nat.reduceLeDiff, Nat.reduceMul, Int.reduceNeg, Int.reduceLT, Int.reduceAdd, Int.reduceSub, hcl, List.length_map, hp6, hr6]
    refine hK9 _ ?_
    refine vcX_bool (fun hb3_10 => ?_) (fun hb3_10 => ?_)
    · (try simp only [go_sem] at hb3_10)
      try simp (disch := omega) only [go_sem, ↓reduceIte, Nat.reduceEqDiff, reduceCtorEq, Nat.reduceAdd, Nat.reduceLeDiff, Nat.reduceMul, Int.reduceNeg, Int.reduceLT, Int.reduceAdd, Int.reduceSub, hcl, List.length_map, hp6, hr6]
      refine hK5 _ ?_
      refine vc_cond (t := _) rfl (fun hc2 => ?_) (fun hc2 => ?_)
      · (try simp only [go_sem] at hc2)
        refine vc_seq fun K11 hK11 => ?_
        refine vc_reg ?_
        try simp (disch := omega) only [go_sem, ↓reduceIte, Nat.reduceEqDiff, reduceCtorEq, Nat.reduceAdd, Nat.reduceLeDiff, Nat.reduceMul, Int.reduceNeg, Int.reduceLT, Int.reduceAdd, Int.reduceSub, hcl, List.length_map]
        refine hK11 _ ?_
        refine vc_ret ?_
        refine ⟨_, by first | rfl | (simp only [go_sem, resQ, List.mapM_cons, List.mapM_nil, ↓reduceIte, Nat.reduceEqDiff, Nat.reduceAdd, Nat.reduceLeDiff, reduceCtorEq]; rfl), [], [], .nil, by simp, by simp, fun hi_ h1_ => ⟨?_, rfl, rfl⟩, by simp⟩
        have h_ : ruleB us n us[n] = false := by
          rw [ruleB, hhead, hb3_3, hfit, hb3_10]
          simp only [Bool.true_and, Bool.false_and]
        rw [h_]; rfl
      · exact absurd hc2 (by simp)
    · (try simp only [go_sem] at hb3_10)
      refine vcX_cut 8 fun K12 hK12 => ?_
      try simp (disch := omega) only [go_sem, ↓reduceIte, Nat.reduceEqDiff, reduceCtorEq, Nat.reduceAdd, Nat.reduceLeDiff, Nat.reduceMul, Int.reduceNeg, Int.reduceLT, Int.reduceAdd, Int.reduceSub, hcl, List.length_map, hp6, hr6]
      refine x_callN (caps := []) [] [.agg (List.map V.t [.int .i64 kc_, .str nc_, .sl gc_ csc_])] _ ((spec_VarsOf us[n].bd _ hvc_ (by omega)).fresh (by rintro s ts ⟨_, g', rfl⟩; exact .inl rfl)) (by first | rfl | simp (disch := omega) only [go_sem, ↓reduceIte, Nat.reduceEqDiff, reduceCtorEq, Nat.reduceAdd, Nat.reduceLeDiff, Nat.reduceMul, Int.reduceNeg, Int.reduceLT, Int.reduceAdd, Int.reduceSub, hcl, List.length_map, hp6, hr6]) ?_ ?_
      · exact Subs.of_eq (by first | rfl | simp (disch := omega) only [go_sem, ↓reduceIte, Nat.reduceEqDiff, reduceCtorEq, Nat.reduceAdd, Nat.reduceLeDiff, Nat.reduceMul, Int.reduceNeg, Int.reduceLT, Int.reduceAdd, Int.reduceSub, hcl, List.length_map, hp6, hr6])
      rintro rv_ hv_ hhv_ ⟨s, ts, rfl, rfl, gv, rfl⟩ -
      try simp (disch := omega) only [go_sem, ↓reduceIte, Nat.reduceEqDiff, reduceCtorEq, Nat.reduceAdd, Nat.reduceLeDiff, Nat.reduceMul, Int.reduceNeg, Int.reduceLT, Int.reduceAdd, Int.reduceSub, hcl, List.length_map, Shp.v, List.headD_cons, hp6, hr6]
      refine vcX_callS (caps := []) S2_6 [.t (.sl gv (Ts (evs us[n].bd []))), .t (.sl gl (Ts (us[n].vs ++ us[n].ps)))] _ (spec_l5Within gv gl (evs us[n].bd []) (us[n].vs ++ us[n].ps) (by omega) (by rw [List.length_append]; omega)) (by first | rfl | simp (disch := omega) only [go_sem, ↓reduceIte, Nat.reduceEqDiff, reduceCtorEq, Nat.reduceAdd, Nat.reduceLeDiff, Nat.reduceMul, Int.reduceNeg, Int.reduceLT, Int.reduceAdd, Int.reduceSub, hcl, List.length_map, hp6, hr6]) ?_ ?_
      · show Subs [V.t (.sl gv (Ts (evs us[n].bd []))), V.loc _ [] S2_6 v2_6] _
        exact Subs.cons (.refl _) (Subs.cons hlend (Subs.nil))
      rintro r3_15 h3_15 hh3_15 rfl -
      refine ⟨fun q hq o ho hm => by simp [V.ids, T.ids] at hm, ?_⟩
      generalize hwi : ((evs us[n].bd []).all fun s => decide (0 ≤ ix s 0 (us[n].vs ++ us[n].ps))) = wb_
      try simp (disch := omega) only [go_sem, ↓reduceIte, Nat.reduceEqDiff, reduceCtorEq, Nat.reduceAdd, Nat.reduceLeDiff, Nat.reduceMul, Int.reduceNeg, Int.reduceLT, Int.reduceAdd, Int.reduceSub, hcl, List.length_map, hp6, hr6]
      refine hK12 _ ?_
      refine vcX_bool (fun hb3_18 => ?_) (fun hb3_18 => ?_)
      · (try simp only [go_sem] at hb3_18)
        try simp (disch := omega) only [go_sem, ↓reduceIte, Nat.reduceEqDiff, reduceCtorEq, Nat.reduceAdd, Nat.reduceLeDiff, Nat.reduceMul, Int.reduceNeg, Int.reduceLT, Int.reduceAdd, Int.reduceSub, hcl, List.length_map, hp6, hr6]
        refine hK5 _ ?_
        refine vc_cond (t := _) rfl (fun hc3 => ?_) (fun hc3 => ?_)
        · (try simp only [go_sem] at hc3)
          refine vc_seq fun K14 hK14 => ?_
          refine vc_reg ?_
          try simp (disch := omega) only [go_sem, ↓reduceIte, Nat.reduceEqDiff, reduceCtorEq, Nat.reduceAdd, Nat.reduceLeDiff, Nat.reduceMul, Int.reduceNeg, Int.reduceLT, Int.reduceAdd, Int.reduceSub, hcl, List.length_map]
          refine hK14 _ ?_
          refine vc_ret ?_
          refine ⟨_, by first | rfl | (simp only [go_sem, resQ, List.mapM_cons, List.mapM_nil, ↓reduceIte, Nat.reduceEqDiff, Nat.reduceAdd, Nat.reduceLeDiff, reduceCtorEq]; rfl), [], [], .nil, by simp, by simp, fun hi_ h1_ => ⟨?_, rfl, rfl⟩, by simp⟩
          have h_ : ruleB us n us[n] = false := by
            rw [ruleB, hhead, hb3_3, hfit, hb3_10, within, hwi, hb3_18]
            simp only [Bool.true_and, Bool.false_and]
          rw [h_]; rfl
        · exact absurd hc3 (by simp)
      · (try simp only [go_sem] at hb3_18)
        try simp (disch := omega) only [go_sem, ↓reduceIte, Nat.reduceEqDiff, reduceCtorEq, Nat.reduceAdd, Nat.reduceLeDiff, Nat.reduceMul, Int.reduceNeg, Int.reduceLT, Int.reduceAdd, Int.reduceSub, hcl, List.length_map, hp6, hr6]
        refine vcX_call _ _ (spec_FindRule us _ hc0 (by omega) us[n].nm us[n].cn) rfl rfl (by first | rfl | simp [V.pures, V.pure, V.pures_t]) ?_
        rintro r3_24 h3_24 hh3_24 rfl -
        try simp (disch := omega) only [go_sem, ↓reduceIte, Nat.reduceEqDiff, reduceCtorEq, Nat.reduceAdd, Nat.reduceLeDiff, Nat.reduceMul, Int.reduceNeg, Int.reduceLT, Int.reduceAdd, Int.reduceSub, hcl, List.length_map, hp6, hr6]
        refine hK5 _ ?_
        refine vc_cond (t := _) rfl (fun hc4 => ?_) (fun hc4 => ?_)
        · (try simp only [go_sem] at hc4)
          refine vc_seq fun K15 hK15 => ?_
          refine vc_reg ?_
          try simp (disch := omega) only [go_sem, ↓reduceIte, Nat.reduceEqDiff, reduceCtorEq, Nat.reduceAdd, Nat.reduceLeDiff, Nat.reduceMul, Int.reduceNeg, Int.reduceLT, Int.reduceAdd, Int.reduceSub, hcl, List.length_map]
          refine hK15 _ ?_
          refine vc_ret ?_
          refine ⟨_, by first | rfl | (simp only [go_sem, resQ, List.mapM_cons, List.mapM_nil, ↓reduceIte, Nat.reduceEqDiff, Nat.reduceAdd, Nat.reduceLeDiff, reduceCtorEq]; rfl), [], [], .nil, by simp, by simp, fun hi_ h1_ => ⟨?_, rfl, rfl⟩, by simp⟩
          have h_ : ruleB us n us[n] = false := by
            rw [ruleB, hhead, hb3_3, hfit, hb3_10, within, hwi, hb3_18, decide_eq_false hc4]
            simp only [Bool.true_and, Bool.false_and]
          rw [h_]; rfl
        · (try simp only [go_sem] at hc4)
          refine vc_skip ?_
          refine hK4 _ ?_
          refine vc_seqK (fun s => ∃ (g5 : Nat), (s.σ = σ2_6 ++ [.row g5 0 7 7 [[V.t (.str us[n1].nm), V.t (.str us[n1].cn), V.t (.sl gad_ (us[n1].vs.map fun s => [T.str s])), V.t (.sl gbd_ (us[n1].ps.map fun s => [T.str s])), V.t (.int .i64 kd_), V.t (.str nd_), V.t (.sl gd_ csd_)]]]) ∧ (s.env 2 = .ptr 0 0 0 0) ∧ (s.env 5 = .ptr 1 0 0 0) ∧ (s.env 7 = .ptr σ2_6.length 0 0 0)) (fun KJ16 hKJ16 => ?_) ?_
          · skip
            refine vc_regD2 8 5 [(0, false), (1, false), (2, false), (3, false), (4, false), (8, false), (5, false), (6, false), (7, false), (9, true)] [(0, false), (1, false), (2, false), (3, false), (4, false), (5, false), (6, false), (7, false), (8, false), (9, true)] (by kernel_rfl) ?_ ?_
            · skip
              try simp (disch := omega) only [go_sem, ↓reduceIte, Nat.reduceEqDiff, reduceCtorEq, Nat.reduceAdd, Nat.reduceLeDiff, Nat.reduceMul, Int.reduceNeg, Int.reduceLT, Int.reduceAdd, Int.reduceSub, hcl, List.length_map, hp6, hr6]
              intro g5_8 hg5_8
              refine vcX_call _ _ (spec_l5First us _ hc0 (by omega) us[n].nm) rfl rfl (by first | rfl | simp [V.pures, V.pure, V.pures_t]) ?_
              rintro r5_5 h5_5 hh5_5 rfl -
              rw [hn1]
              try simp (disch := omega) only [go_sem, ↓reduceIte, Nat.reduceEqDiff, reduceCtorEq, Nat.reduceAdd, Nat.reduceLeDiff, Nat.reduceMul, Int.reduceNeg, Int.reduceLT, Int.reduceAdd, Int.reduceSub, hcl, List.length_map, hcd, hp6, hr6, get_new, setV]
              refine hKJ16 _ ⟨g5_8, (by first | rfl | simp), (by first | rfl | assumption), (by first | rfl | assumption), (by first | rfl | assumption)⟩
            · skip
              try simp (disch := omega) only [go_sem, ↓reduceIte, Nat.reduceEqDiff, reduceCtorEq, Nat.reduceAdd, Nat.reduceLeDiff, Nat.reduceMul, Int.reduceNeg, Int.reduceLT, Int.reduceAdd, Int.reduceSub, hcl, List.length_map, hp6, hr6]
              refine vcX_call _ _ (spec_l5First us _ hc0 (by omega) us[n].nm) rfl rfl (by first | rfl | simp [V.pures, V.pure, V.pures_t]) ?_
              rintro r5_5 h5_5 hh5_5 rfl -
              rw [hn1]
              try simp (disch := omega) only [go_sem, ↓reduceIte, Nat.reduceEqDiff, reduceCtorEq, Nat.reduceAdd, Nat.reduceLeDiff, Nat.reduceMul, Int.reduceNeg, Int.reduceLT, Int.reduceAdd, Int.reduceSub, hcl, List.length_map, hcd, hp6, hr6, get_new, setV]
              intro g5_8 hg5_8
              refine hKJ16 _ ⟨g5_8, (by first | rfl | simp), (by first | rfl | assumption), (by first | rfl | assumption), (by first | rfl | assumption)⟩
          · skip
            rintro ⟨e, σ, h⟩ ⟨g5, hσ, e2, e5, e7⟩
            simp only at hσ e2 e5 e7
            subst hσ
            refine vc_seq fun K17 hK17 => ?_
            have hr7 : (σ2_6 ++ [.row g5 0 7 7 [[V.t (.str us[n1].nm), V.t (.str us[n1].cn), V.t (.sl gad_ (us[n1].vs.map fun s => [T.str s])), V.t (.sl gbd_ (us[n1].ps.map fun s => [T.str s])), V.t (.int .i64 kd_), V.t (.str nd_), V.t (.sl gd_ csd_)]]])[1]? = some (.row g1_5 0 7 7 [[V.t (.str us[n].nm), V.t (.str us[n].cn), V.t (.sl gac_ (us[n].vs.map fun s => [T.str s])), V.t (.sl gbc_ (us[n].ps.map fun s => [T.str s])), V.t (.int .i64 kc_), V.t (.str nc_), V.t (.sl gc_ csc_)]]) := (get_old (List.getElem?_eq_some_iff.1 hr6).1).trans hr6
            have hp7 : (σ2_6 ++ [.row g5 0 7 7 [[V.t (.str us[n1].nm), V.t (.str us[n1].cn), V.t (.sl gad_ (us[n1].vs.map fun s => [T.str s])), V.t (.sl gbd_ (us[n1].ps.map fun s => [T.str s])), V.t (.int .i64 kd_), V.t (.str nd_), V.t (.sl gd_ csd_)]]])[0]? = some (.row g0_0 0 1 1 [[V.t (.sl g cs)]]) := (get_old (List.getElem?_eq_some_iff.1 hp6).1).trans hp6
            refine vc_regD [(0, false), (1, false), (2, false), (3, false), (4, false), (5, false), (6, false), (7, false), (8, false), (9, false), (10, false), (11, false), (12, false), (13, false), (14, false), (15, false), (16, false), (17, false), (18, false), (19, false), (20, false), (21, false), (22, false), (23, false), (25, false), (26, false), (27, false), (24, false), (28, false), (29, false), (30, false), (31, false)] (by kernel_rfl) ?_
            refine vcX_cut 8 fun K18 hK18 => ?_
            try simp (disch := omega) only [go_sem, ↓reduceIte, Nat.reduceEqDiff, reduceCtorEq, Nat.reduceAdd, Nat.reduceLeDiff, Nat.reduceMul, Int.reduceNeg, Int.reduceLT, Int.reduceAdd, Int.reduceSub, e2, e5, e7, hcl, List.length_map, hr7, hp7, get_new]
            refine hK18 _ ?_
            refine vcX_bool (fun hb6_7 => ?_) (fun hb6_7 => ?_)
            · (try simp only [go_sem] at hb6_7)
              refine vcX_cut 9 fun K20 hK20 => ?_
              try simp (disch := omega) only [go_sem, ↓reduceIte, Nat.reduceEqDiff, reduceCtorEq, Nat.reduceAdd, Nat.reduceLeDiff, Nat.reduceMul, Int.reduceNeg, Int.reduceLT, Int.reduceAdd, Int.reduceSub, e2, e5, e7, hcl, List.length_map, hr7, hp7, get_new]
              refine hK20 _ ?_
              refine vcX_bool (fun hb6_16 => ?_) (fun hb6_16 => ?_)
              · (try simp only [go_sem] at hb6_16)
                refine vcX_cut 4 fun K22 hK22 => ?_
                try simp (disch := omega) only [go_sem, ↓reduceIte, Nat.reduceEqDiff, reduceCtorEq, Nat.reduceAdd, Nat.reduceLeDiff, Nat.reduceMul, Int.reduceNeg, Int.reduceLT, Int.reduceAdd, Int.reduceSub, e2, e5, e7, hcl, List.length_map, hr7, hp7, get_new]
                refine hK22 _ ?_
                refine vcX_bool (fun hb6_20 => ?_) (fun hb6_20 => ?_)
                · (try simp only [go_sem] at hb6_20)
                  try simp (disch := omega) only [go_sem, ↓reduceIte, Nat.reduceEqDiff, reduceCtorEq, Nat.reduceAdd, Nat.reduceLeDiff, Nat.reduceMul, Int.reduceNeg, Int.reduceLT, Int.reduceAdd, Int.reduceSub, e2, e5, e7, hcl, List.length_map, hr7, hp7, get_new]
                  refine hK17 _ ?_
                  refine vc_ret ?_
                  refine ⟨_, by first | rfl | (simp only [go_sem, resQ, List.mapM_cons, List.mapM_nil, ↓reduceIte, Nat.reduceEqDiff, Nat.reduceAdd, Nat.reduceLeDiff, reduceCtorEq]; rfl), [], [], .nil, by simp, by simp, fun hi_ h1_ => ⟨?_, rfl, rfl⟩, by simp⟩
                  have h_ : ruleB us n us[n] = (true) := by
                    rw [ruleB, hhead, hb3_3, hfit, hb3_10, within, hwi, hb3_18, decide_eq_true hc4, hfst, restB]
                    simp only [Bool.true_and]
                    simp [hb6_7, hb6_16, hb6_20]
                  rw [h_]; rfl
                · (try simp only [go_sem] at hb6_20)
                  try simp (disch := omega) only [go_sem, ↓reduceIte, Nat.reduceEqDiff, reduceCtorEq, Nat.reduceAdd, Nat.reduceLeDiff, Nat.reduceMul, Int.reduceNeg, Int.reduceLT, Int.reduceAdd, Int.reduceSub, e2, e5, e7, hcl, List.length_map, hr7, hp7, get_new]
                  refine vcX_call _ _ (spec_ConArity us _ hc0 hw us[n].cn) rfl rfl (by first | rfl | simp [V.pures, V.pure, V.pures_t]) ?_
                  rintro r6_24 h6_24 hh6_24 rfl -
                  try simp (disch := omega) only [go_sem, ↓reduceIte, Nat.reduceEqDiff, reduceCtorEq, Nat.reduceAdd, Nat.reduceLeDiff, Nat.reduceMul, Int.reduceNeg, Int.reduceLT, Int.reduceAdd, Int.reduceSub, e2, e5, e7, hcl, List.length_map, hr7, hp7, get_new]
                  refine hK17 _ ?_
                  refine vc_ret ?_
                  refine ⟨_, by first | rfl | (simp only [go_sem, resQ, List.mapM_cons, List.mapM_nil, ↓reduceIte, Nat.reduceEqDiff, Nat.reduceAdd, Nat.reduceLeDiff, reduceCtorEq]; rfl), [], [], .nil, by simp, by simp, fun hi_ h1_ => ⟨?_, rfl, rfl⟩, by simp⟩
                  have h_ : ruleB us n us[n] = (Pg.cn us[n].cn us == (us[n].vs.length : Int)) := by
                    rw [ruleB, hhead, hb3_3, hfit, hb3_10, within, hwi, hb3_18, decide_eq_true hc4, hfst, restB]
                    simp only [Bool.true_and]
                    simp [hb6_7, hb6_16, hb6_20]
                  rw [h_]; rfl
              · (try simp only [go_sem] at hb6_16)
                try simp (disch := omega) only [go_sem, ↓reduceIte, Nat.reduceEqDiff, reduceCtorEq, Nat.reduceAdd, Nat.reduceLeDiff, Nat.reduceMul, Int.reduceNeg, Int.reduceLT, Int.reduceAdd, Int.reduceSub, e2, e5, e7, hcl, List.length_map, hr7, hp7, get_new]
                refine hK17 _ ?_
                refine vc_ret ?_
                refine ⟨_, by first | rfl | (simp only [go_sem, resQ, List.mapM_cons, List.mapM_nil, ↓reduceIte, Nat.reduceEqDiff, Nat.reduceAdd, Nat.reduceLeDiff, reduceCtorEq]; rfl), [], [], .nil, by simp, by simp, fun hi_ h1_ => ⟨?_, rfl, rfl⟩, by simp⟩
                have h_ : ruleB us n us[n] = (false) := by
                  rw [ruleB, hhead, hb3_3, hfit, hb3_10, within, hwi, hb3_18, decide_eq_true hc4, hfst, restB]
                  simp only [Bool.true_and]
                  simp [hb6_7, hb6_16]
                rw [h_]; rfl
            · (try simp only [go_sem] at hb6_7)
              try simp (disch := omega) only [go_sem, ↓reduceIte, Nat.reduceEqDiff, reduceCtorEq, Nat.reduceAdd, Nat.reduceLeDiff, Nat.reduceMul, Int.reduceNeg, Int.reduceLT, Int.reduceAdd, Int.reduceSub, e2, e5, e7, hcl, List.length_map, hr7, hp7, get_new]
              refine hK17 _ ?_
              refine vc_ret ?_
              refine ⟨_, by first | rfl | (simp only [go_sem, resQ, List.mapM_cons, List.mapM_nil, ↓reduceIte, Nat.reduceEqDiff, Nat.reduceAdd, Nat.reduceLeDiff, reduceCtorEq]; rfl), [], [], .nil, by simp, by simp, fun hi_ h1_ => ⟨?_, rfl, rfl⟩, by simp⟩
              have h_ : ruleB us n us[n] = (false) := by
                rw [ruleB, hhead, hb3_3, hfit, hb3_10, within, hwi, hb3_18, decide_eq_true hc4, hfst, restB]
                simp only [Bool.true_and]
                simp [hb6_7]
              rw [h_]; rfl

/-- spec.IsValidProgram -/
theorem spec_IsValidProgram (us : List Ru) (c : List T) (hc : Pg.rep us c) (hw : wl Ru.wt us ≤ 1048576) : FCtr Tryz.prog 10 [.agg (c.map .t)] (fun r => r = .t (.bool (validB us))) := by
  have hc0 := hc
  obtain ⟨g, cs, rfl, ha⟩ := hc
  have hl1_ := wl_len Ru.wt us
  have hcl := ha.len
  refine Ctr.of_vc (rs := [.tmp 2]) (fn := Tryz.f10) mixed Tryz.func10 rfl rfl (by kernel_rfl) (by kernel_rfl) (by simp [Tryz.ntmps10]) (fun h0 => ?_)
  refine vc_seq fun K1 hK1 => ?_
  refine vc_reg ?_
  try simp (disch := omega) only [go_sem, ↓reduceIte, Nat.reduceEqDiff, reduceCtorEq, Nat.reduceAdd, Nat.reduceLeDiff, Nat.reduceMul, Int.reduceNeg, Int.reduceLT, Int.reduceAdd, Int.reduceSub, hcl]
  intro g0_0 hg0_0
  refine hK1 _ ?_
  refine vc_seq fun K2 hK2 => ?_
  refine vc_seq fun K3 hK3 => ?_
  refine vc_reg ?_
  try simp (disch := omega) only [go_sem, ↓reduceIte, Nat.reduceEqDiff, reduceCtorEq, Nat.reduceAdd, Nat.reduceLeDiff, Nat.reduceMul, Int.reduceNeg, Int.reduceLT, Int.reduceAdd, Int.reduceSub, hcl]
  refine hK3 _ ?_
  refine vc_block ?_
  refine vc_loop (fun m s => ∃ (n : Nat), (m = us.length - n) ∧ (s.σ = [.row g0_0 0 1 1 [[V.t (.sl g cs)]]]) ∧ (s.env 1 = .ptr 0 0 0 0) ∧ (s.env 3 = .t (.int .i64 n)) ∧ (n ≤ us.length) ∧ (allI (ruleB us) 0 us = allI (ruleB us) n (us.drop n))) (us.length - 0) ⟨0, rfl, (by first | rfl | simp), (by first | rfl | assumption), (by first | rfl | assumption), (by first | rfl | omega | simp), (by rfl)⟩ ?_
  rintro m ⟨e, σ, h⟩ ⟨n, hm, hσ, e1, e3, hn, hx⟩ K4 hK4
  simp only at hσ e1 e3
  subst hσ
  refine vc_seq fun K5 hK5 => ?_
  refine vc_seq fun K6 hK6 => ?_
  refine vc_reg ?_
  try simp (disch := omega) only [go_sem, ↓reduceIte, Nat.reduceEqDiff, reduceCtorEq, Nat.reduceAdd, Nat.reduceLeDiff, Nat.reduceMul, Int.reduceNeg, Int.reduceLT, Int.reduceAdd, Int.reduceSub, e1, e3, hcl]
  refine hK6 _ ?_
  refine vc_cond (t := _) rfl (fun hc1 => ?_) (fun hc1 => ?_)
  · (try simp only [go_sem] at hc1)
    refine vc_skip ?_
    refine hK5 _ ?_
    refine vc_seq fun K7 hK7 => ?_
    refine vc_block ?_
    refine vc_seq fun K8 hK8 => ?_
    have hlt : n < us.length := by omega
    refine vc_reg ?_
    try simp (disch := omega) only [go_sem, ↓reduceIte, Nat.reduceEqDiff, reduceCtorEq, Nat.reduceAdd, Nat.reduceLeDiff, Nat.reduceMul, Int.reduceNeg, Int.reduceLT, Int.reduceAdd, Int.reduceSub, e1, e3, hcl]
    refine vcX_call _ _ (spec_l5Rule us _ hc0 hw n hlt) rfl rfl (by first | rfl | simp [V.pures, V.pure, V.pures_t]) ?_
    rintro r4_2 h4_2 hh4_2 rfl -
    try simp (disch := omega) only [go_sem, ↓reduceIte, Nat.reduceEqDiff, reduceCtorEq, Nat.reduceAdd, Nat.reduceLeDiff, Nat.reduceMul, Int.reduceNeg, Int.reduceLT, Int.reduceAdd, Int.reduceSub, e1, e3, hcl]
    refine hK8 _ ?_
    refine vc_cond (t := _) rfl (fun hc2 => ?_) (fun hc2 => ?_)
    · (try simp only [go_sem] at hc2)
      refine vc_seq fun K9 hK9 => ?_
      refine vc_reg ?_
      try simp (disch := omega) only [go_sem, ↓reduceIte, Nat.reduceEqDiff, reduceCtorEq, Nat.reduceAdd, Nat.reduceLeDiff, Nat.reduceMul, Int.reduceNeg, Int.reduceLT, Int.reduceAdd, Int.reduceSub, e1, e3, hcl]
      refine hK9 _ ?_
      refine vc_ret ?_
      refine ⟨_, by first | rfl | (simp only [go_sem, resQ, List.mapM_cons, List.mapM_nil, ↓reduceIte, Nat.reduceEqDiff, Nat.reduceAdd, Nat.reduceLeDiff, reduceCtorEq]; rfl), [], [], .nil, by simp, by simp, fun hi_ h1_ => ⟨?_, rfl, rfl⟩, by simp⟩
      have h_ : validB us = false := by rw [validB, hx, allI_drop hlt, (by simpa using hc2 : ruleB us n us[n] = false), Bool.false_and, Bool.and_false]
      rw [h_]; rfl
    · (try simp only [go_sem] at hc2)
      refine vc_skip ?_
      refine hK7 _ ?_
      refine vc_reg ?_
      try simp (disch := omega) only [go_sem, ↓reduceIte, Nat.reduceEqDiff, reduceCtorEq, Nat.reduceAdd, Nat.reduceLeDiff, Nat.reduceMul, Int.reduceNeg, Int.reduceLT, Int.reduceAdd, Int.reduceSub, e1, e3, hcl]
      refine hK4 _ _ ?_ ⟨n + 1, rfl, (by first | rfl | simp), (by first | rfl | assumption), (by first | rfl | assumption), ?_, ?_⟩
      · omega
      · first | omega | assumption | rfl | simp_all
      · rw [hx, allI_drop hlt, (by simpa using hc2 : ruleB us n us[n] = true), Bool.true_and]
  · (try simp only [go_sem] at hc1)
    refine vc_exit ?_
    refine hK2 _ ?_
    refine vc_seq fun K10 hK10 => ?_
    refine vc_reg ?_
    try simp (disch := omega) only [go_sem, ↓reduceIte, Nat.reduceEqDiff, reduceCtorEq, Nat.reduceAdd, Nat.reduceLeDiff, Nat.reduceMul, Int.reduceNeg, Int.reduceLT, Int.reduceAdd, Int.reduceSub, e1, e3, hcl]
    refine hK10 _ ?_
    refine vc_ret ?_
    refine ⟨_, by first | rfl | (simp only [go_sem, resQ, List.mapM_cons, List.mapM_nil, ↓reduceIte, Nat.reduceEqDiff, Nat.reduceAdd, Nat.reduceLeDiff, reduceCtorEq]; rfl), [], [], .nil, by simp, by simp, fun hi_ h1_ => ⟨?_, rfl, rfl⟩, by simp⟩
    have h_ : validB us = decide ((us.length : Int) ≤ 24) := by rw [validB, hx, List.drop_of_length_le (by omega), allI, Bool.and_true]
    rw [h_]; rfl
end Go.Proofs.YtldhhppfnhgcdaaGreat
