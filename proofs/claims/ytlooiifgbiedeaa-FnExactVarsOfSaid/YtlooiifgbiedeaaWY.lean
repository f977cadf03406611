/- Walks through the code: each function's contract. -/
import Derived.Test.YtlooiifgbiedeaaWX
set_option linter.unusedVariables false
set_option linter.unusedSimpArgs false
set_option maxRecDepth 8000
namespace Go.Proofs.Ytlooiifgbiedeaa
open Go Go.VL

theorem Subs_agg_t (σ : List Ob) (bor : List Nat) (c : List T) : VL.Sub ((V.agg (c.map V.t)).loc σ [] bor) (.agg (c.map V.t)) := by
  rw [V.loc, V.pures_loc _ _ _ _ (V.pures_t c)]; exact .refl _

/-- laws.FnExactVarsOf -/
theorem laws_FnExactVarsOf (e : E) (c : List T) (hc : e.rep c) (hs : e.small) : FCtr Try.prog 6 [.agg (c.map .t)] (fun r => r = .t (.bool true)) := by
  obtain ⟨g, cs, rfl, hcs⟩ := E.rep_cells hc
  have reach := reach47
  refine Ctr.of_vc (rs := [.tmp 2]) (fn := Try.f6) mixed Try.func6 rfl rfl (by kernel_rfl) (by kernel_rfl) (by simp [Try.ntmps6]) (fun h0 => ?_)
  refine vc_seq fun K1 hK1 => ?_
  refine vc_reg ?_
  try simp (disch := omega) only [go_sem, ↓reduceIte, Nat.reduceEqDiff, reduceCtorEq, Nat.reduceAdd, Nat.reduceLeDiff, Nat.reduceMul, Int.reduceNeg, Int.reduceLT, Int.reduceAdd, Int.reduceSub]
  intro g0_0 hg0_0
  refine hK1 _ ?_
  refine vc_seq fun K2 hK2 => ?_
  refine vc_reg ?_
  try simp (disch := omega) only [go_sem, ↓reduceIte, Nat.reduceEqDiff, reduceCtorEq, Nat.reduceAdd, Nat.reduceLeDiff, Nat.reduceMul, Int.reduceNeg, Int.reduceLT, Int.reduceAdd, Int.reduceSub]
  refine hK2 _ ?_
  refine vc_seq fun K3 hK3 => ?_
  refine vc_reg ?_
  try simp (disch := omega) only [go_sem, ↓reduceIte, Nat.reduceEqDiff, reduceCtorEq, Nat.reduceAdd, Nat.reduceLeDiff, Nat.reduceMul, Int.reduceNeg, Int.reduceLT, Int.reduceAdd, Int.reduceSub]
  refine vcX_call _ _ (laws_szExpr e _ 1048576 hc hs (by omega)) (by first | rfl | (simp (disch := omega) only [go_sem, ↓reduceIte, Nat.reduceEqDiff, reduceCtorEq, Nat.reduceAdd, Nat.reduceLeDiff, Nat.reduceMul, Int.reduceNeg, Int.reduceLT, Int.reduceAdd, Int.reduceSub])) (by first | rfl | (simp (disch := omega) only [go_sem, ↓reduceIte, Nat.reduceEqDiff, reduceCtorEq, Nat.reduceAdd, Nat.reduceLeDiff, Nat.reduceMul, Int.reduceNeg, Int.reduceLT, Int.reduceAdd, Int.reduceSub])) (by first | rfl | simp [V.pures, V.pure, V.pures_t]) ?_
  rintro r2_2 h2_2 hh2_2 ⟨m, rfl, hm⟩ -
  try simp (disch := omega) only [go_sem, ↓reduceIte, Nat.reduceEqDiff, reduceCtorEq, Nat.reduceAdd, Nat.reduceLeDiff, Nat.reduceMul, Int.reduceNeg, Int.reduceLT, Int.reduceAdd, Int.reduceSub]
  refine hK3 _ ?_
  refine vc_seq fun K4 hK4 => ?_
  refine vc_seq fun K5 hK5 => ?_
  refine vc_reg ?_
  try simp (disch := omega) only [go_sem, ↓reduceIte, Nat.reduceEqDiff, reduceCtorEq, Nat.reduceAdd, Nat.reduceLeDiff, Nat.reduceMul, Int.reduceNeg, Int.reduceLT, Int.reduceAdd, Int.reduceSub]
  refine hK5 _ ?_
  refine vc_cond (t := _) (by first | rfl | (simp (disch := omega) only [go_sem, ↓reduceIte, Nat.reduceEqDiff, reduceCtorEq, Nat.reduceAdd, Nat.reduceLeDiff, Nat.reduceMul, Int.reduceNeg, Int.reduceLT, Int.reduceAdd, Int.reduceSub]; rfl)) (fun hc1 => ?_) (fun hc1 => ?_)
  · (try simp only [go_sem] at hc1)
    refine vc_seq fun K6 hK6 => ?_
    refine vc_reg ?_
    try simp (disch := omega) only [go_sem, ↓reduceIte, Nat.reduceEqDiff, reduceCtorEq, Nat.reduceAdd, Nat.reduceLeDiff, Nat.reduceMul, Int.reduceNeg, Int.reduceLT, Int.reduceAdd, Int.reduceSub]
    refine hK6 _ ?_
    refine vc_ret ?_
    refine ⟨_, by first | rfl | (simp only [go_sem, resQ, List.mapM_cons, List.mapM_nil, ↓reduceIte, Nat.reduceEqDiff, Nat.reduceAdd, Nat.reduceLeDiff, reduceCtorEq]; rfl), [], [], .nil, by simp, by simp, fun hi_ h1_ => ⟨?_, rfl, rfl⟩, by simp⟩
    first | rfl | simp_all
  · (try simp only [go_sem] at hc1)
    have hw : e.wt ≤ 1048576 := by omega
    have hsz_ := E.sz_wt e
    have hszA := E.sz_args e
    have hWl : (evs e []).length ≤ 2097152 := by have h1 := evs_len e []; simp at h1; omega
    refine vc_skip ?_
    refine hK4 _ ?_
    refine vc_seq fun K7 hK7 => ?_
    refine vc_reg ?_
    try simp (disch := omega) only [go_sem, ↓reduceIte, Nat.reduceEqDiff, reduceCtorEq, Nat.reduceAdd, Nat.reduceLeDiff, Nat.reduceMul, Int.reduceNeg, Int.reduceLT, Int.reduceAdd, Int.reduceSub]
    refine vcX_call _ _ (laws_toExpr e _ hc (by omega)) (by first | rfl | (simp (disch := omega) only [go_sem, ↓reduceIte, Nat.reduceEqDiff, reduceCtorEq, Nat.reduceAdd, Nat.reduceLeDiff, Nat.reduceMul, Int.reduceNeg, Int.reduceLT, Int.reduceAdd, Int.reduceSub])) (by first | rfl | (simp (disch := omega) only [go_sem, ↓reduceIte, Nat.reduceEqDiff, reduceCtorEq, Nat.reduceAdd, Nat.reduceLeDiff, Nat.reduceMul, Int.reduceNeg, Int.reduceLT, Int.reduceAdd, Int.reduceSub])) (by first | rfl | simp [V.pures, V.pure, V.pures_t]) ?_
    rintro r5_1 h5_1 hh5_1 ⟨c5, rfl, hc5⟩ -
    obtain ⟨g5, cs5, rfl, hcs5⟩ := E.rep_cells hc5
    try simp (disch := omega) only [go_sem, ↓reduceIte, Nat.reduceEqDiff, reduceCtorEq, Nat.reduceAdd, Nat.reduceLeDiff, Nat.reduceMul, Int.reduceNeg, Int.reduceLT, Int.reduceAdd, Int.reduceSub]
    refine x_callN (caps := []) [] [.agg (List.map V.t [.int .i64 e.kind, .str e.name, .sl g5 cs5])] _ ((spec_VarsOf e _ hc5 hw).fresh (by rintro s ts ⟨_, g', rfl⟩; exact .inl rfl)) (by first | rfl | simp (disch := omega) only [go_sem, ↓reduceIte, Nat.reduceEqDiff, reduceCtorEq, Nat.reduceAdd, Nat.reduceLeDiff, Nat.reduceMul, Int.reduceNeg, Int.reduceLT, Int.reduceAdd, Int.reduceSub]) ?_ ?_
    · exact Subs.of_eq (by first | rfl | simp (disch := omega) only [go_sem, ↓reduceIte, Nat.reduceEqDiff, reduceCtorEq, Nat.reduceAdd, Nat.reduceLeDiff, Nat.reduceMul, Int.reduceNeg, Int.reduceLT, Int.reduceAdd, Int.reduceSub])
    rintro r5_2 h5_2 hh5_2 ⟨s, ts, rfl, rfl, gw, rfl⟩ -
    try simp (disch := omega) only [go_sem, ↓reduceIte, Nat.reduceEqDiff, reduceCtorEq, Nat.reduceAdd, Nat.reduceLeDiff, Nat.reduceMul, Int.reduceNeg, Int.reduceLT, Int.reduceAdd, Int.reduceSub, List.map_cons, List.map_nil]
    refine hK7 _ ?_
    refine vc_seq fun K8 hK8 => ?_
    have hbA : ([.row g0_0 0 3 3 [[V.t (.int .i64 e.kind), V.t (.str e.name), V.t (.sl g cs)]]] : List Ob)[0]? = some _ := rfl
    refine vc_reg ?_
    try simp (disch := omega) only [go_sem, ↓reduceIte, Nat.reduceEqDiff, reduceCtorEq, Nat.reduceAdd, Nat.reduceLeDiff, Nat.reduceMul, Int.reduceNeg, Int.reduceLT, Int.reduceAdd, Int.reduceSub]
    refine x_callO (caps := []) [] [.agg (List.map V.t [.int .i64 e.kind, .str e.name, .sl g cs])] _ (laws_toExpr_o e _ hc (by omega)) (by first | rfl | simp (disch := omega) only [go_sem, ↓reduceIte, Nat.reduceEqDiff, reduceCtorEq, Nat.reduceAdd, Nat.reduceLeDiff, Nat.reduceMul, Int.reduceNeg, Int.reduceLT, Int.reduceAdd, Int.reduceSub]) ?_ ?_
    · exact Subs.of_eq (by first | rfl | simp (disch := omega) only [go_sem, ↓reduceIte, Nat.reduceEqDiff, reduceCtorEq, Nat.reduceAdd, Nat.reduceLeDiff, Nat.reduceMul, Int.reduceNeg, Int.reduceLT, Int.reduceAdd, Int.reduceSub])
    rintro s dsx vsx Sx σ6_1 h6_1 ⟨rfl, hEx⟩ hTx hk6_1 hSx hl6_1 hh6_1
    have nb_hbA_x : 0 ∉ Sx := fun hx => by have h1 := hSx _ hx; have h2 := (List.getElem?_eq_some_iff.1 hbA).1; omega
    have hbA := (hk6_1 _ (List.getElem?_eq_some_iff.1 hbA).1).trans hbA
    obtain ⟨dxx, vx, gxx, cxx, hdsx, hvsx, hTdx, hEdx, hRdx⟩ := E.own_cells hTx hEx
    subst hvsx
    have hvlx := hTdx.leaf
    try simp (disch := omega) only [go_sem, ↓reduceIte, Nat.reduceEqDiff, reduceCtorEq, Nat.reduceAdd, Nat.reduceLeDiff, Nat.reduceMul, Int.reduceNeg, Int.reduceLT, Int.reduceAdd, Int.reduceSub, get_new, set_new, solid_of hvlx, cells_of hvlx, setV, hvlx, List.all_cons, List.all_nil, Bool.and_true, Bool.and_self]
    intro g6_2 hg6_2
    refine hK8 _ ?_
    refine vc_seq fun K9 hK9 => ?_
    have hTx := hTx.more (.row g6_2 0 3 3 [[V.t (.int .i64 e.kind), V.t (.str e.name), vx]])
    have hbA := (get_old (o := .row g6_2 0 3 3 [[V.t (.int .i64 e.kind), V.t (.str e.name), vx]]) (List.getElem?_eq_some_iff.1 hbA).1).trans hbA
    have hbB := get_new σ6_1 (.row g6_2 0 3 3 [[V.t (.int .i64 e.kind), V.t (.str e.name), vx]])
    have hlB : σ6_1.length ∉ Sx := fun hx => by have := hTdx.lt _ hx; omega
    refine vc_reg ?_
    try simp (disch := omega) only [go_sem, ↓reduceIte, Nat.reduceEqDiff, reduceCtorEq, Nat.reduceAdd, Nat.reduceLeDiff, Nat.reduceMul, Int.reduceNeg, Int.reduceLT, Int.reduceAdd, Int.reduceSub, get_new]
    refine x_callO (caps := []) Sx [.agg ((D.erL dsx).map V.t)] _ (impl_VarsOf e _ hEx hw) (by first | rfl | simp (disch := omega) only [go_sem, ↓reduceIte, Nat.reduceEqDiff, reduceCtorEq, Nat.reduceAdd, Nat.reduceLeDiff, Nat.reduceMul, Int.reduceNeg, Int.reduceLT, Int.reduceAdd, Int.reduceSub, get_new]) ?_ ?_
    · show Subs [V.loc _ [] _ (V.agg _)] _
      exact Subs.cons (hTx.lendE rfl (fun r hr => hr)) (Subs.nil)
    rintro s dsr vsr Sr σ7_1 h7_1 ⟨rfl, gr, hEr⟩ hTr hk7_1 hSr hl7_1 hh7_1
    obtain ⟨dr, vr, rfl, rfl, hTr, hEr⟩ := hTr.er_one hEr
    have dj_r_x : ∀ r ∈ Sr, r ∉ Sx := fun r hr hx => by have h1 := hSr r hr; have h2 := hTx.lt r hx; omega
    have dj_x_r : ∀ r ∈ Sx, r ∉ Sr := fun r hr hx => dj_r_x r hx hr
    have nb_hbA_r : 0 ∉ Sr := fun hx => by have h1 := hSr _ hx; have h2 := (List.getElem?_eq_some_iff.1 hbA).1; omega
    have nb_hbB_r : σ6_1.length ∉ Sr := fun hx => by have h1 := hSr _ hx; have h2 := (List.getElem?_eq_some_iff.1 hbB).1; omega
    have hTx := hTx.keep (fun r hr => hk7_1 r (hTx.lt r hr))
    have hbA := (hk7_1 _ (List.getElem?_eq_some_iff.1 hbA).1).trans hbA
    have hbB := (hk7_1 _ (List.getElem?_eq_some_iff.1 hbB).1).trans hbB
    try simp (disch := omega) only [go_sem, ↓reduceIte, Nat.reduceEqDiff, reduceCtorEq, Nat.reduceAdd, Nat.reduceLeDiff, Nat.reduceMul, Int.reduceNeg, Int.reduceLT, Int.reduceAdd, Int.reduceSub, Shp.v, List.headD_cons]
    refine hK9 _ ?_
    refine vc_seq fun K10 hK10 => ?_
    refine vc_seq fun K11 hK11 => ?_
    refine vc_reg ?_
    try simp (disch := omega) only [go_sem, ↓reduceIte, Nat.reduceEqDiff, reduceCtorEq, Nat.reduceAdd, Nat.reduceLeDiff, Nat.reduceMul, Int.reduceNeg, Int.reduceLT, Int.reduceAdd, Int.reduceSub]
    refine vcX_callS (caps := []) Sr [.t (.sl gr (Ts (evs e []))), .t (.sl gw (Ts (evs e [])))] _ (laws_eqStringS gr gw (evs e []) (evs e []) (by omega) (by omega)) (by first | rfl | simp (disch := omega) only [go_sem, ↓reduceIte, Nat.reduceEqDiff, reduceCtorEq, Nat.reduceAdd, Nat.reduceLeDiff, Nat.reduceMul, Int.reduceNeg, Int.reduceLT, Int.reduceAdd, Int.reduceSub]) ?_ ?_
    · show Subs [V.loc _ [] _ vr, V.t _] _
      exact Subs.cons (hTr.lendE hEr (fun r hr => hr)) (Subs.cons (.refl _) (Subs.nil))
    rintro r8_2 h8_2 hh8_2 rfl -
    refine ⟨fun q hq o ho hm => by simp [V.ids, T.ids] at hm, ?_⟩
    try simp (disch := omega) only [go_sem, ↓reduceIte, Nat.reduceEqDiff, reduceCtorEq, Nat.reduceAdd, Nat.reduceLeDiff, Nat.reduceMul, Int.reduceNeg, Int.reduceLT, Int.reduceAdd, Int.reduceSub]
    refine hK11 _ ?_
    refine vc_cond (t := _) (by first | rfl | (simp (disch := omega) only [go_sem, ↓reduceIte, Nat.reduceEqDiff, reduceCtorEq, Nat.reduceAdd, Nat.reduceLeDiff, Nat.reduceMul, Int.reduceNeg, Int.reduceLT, Int.reduceAdd, Int.reduceSub]; rfl)) (fun hc2 => ?_) (fun hc2 => ?_)
    · exact absurd hc2 (by simp)
    · (try simp only [go_sem] at hc2)
      refine vc_skip ?_
      refine hK10 _ ?_
      refine vc_seq fun K12 hK12 => ?_
      refine vc_seq fun K13 hK13 => ?_
      have nb_hbB_x : σ6_1.length ∉ Sx := hlB
      refine vc_regD [(0, false), (1, false), (2, false), (3, false), (4, false)] (by kernel_rfl) ?_
      try simp (disch := omega) only [go_sem, ↓reduceIte, Nat.reduceEqDiff, reduceCtorEq, Nat.reduceAdd, Nat.reduceLeDiff, Nat.reduceMul, Int.reduceNeg, Int.reduceLT, Int.reduceAdd, Int.reduceSub, hbA, hbB]
      refine vcX_call _ _ (laws_toExpr e _ hc (by omega)) (by first | rfl | (simp (disch := omega) only [go_sem, ↓reduceIte, Nat.reduceEqDiff, reduceCtorEq, Nat.reduceAdd, Nat.reduceLeDiff, Nat.reduceMul, Int.reduceNeg, Int.reduceLT, Int.reduceAdd, Int.reduceSub, hbA, hbB])) (by first | rfl | (simp (disch := omega) only [go_sem, ↓reduceIte, Nat.reduceEqDiff, reduceCtorEq, Nat.reduceAdd, Nat.reduceLeDiff, Nat.reduceMul, Int.reduceNeg, Int.reduceLT, Int.reduceAdd, Int.reduceSub, hbA, hbB])) (by first | rfl | simp [V.pures, V.pure, V.pures_t]) ?_
      rintro r10_2 h10_2 hh10_2 ⟨c10, rfl, hc10⟩ -
      try simp (disch := omega) only [go_sem, ↓reduceIte, Nat.reduceEqDiff, reduceCtorEq, Nat.reduceAdd, Nat.reduceLeDiff, Nat.reduceMul, Int.reduceNeg, Int.reduceLT, Int.reduceAdd, Int.reduceSub, hbA, hbB]
      refine vcX_callS (caps := []) Sx [.agg ((D.erL dsx).map V.t), .agg (c10.map .t)] _ (laws_eqExpr e e _ _ hEx hc10 (by omega) (by omega)) (by first | rfl | simp (disch := omega) only [go_sem, ↓reduceIte, Nat.reduceEqDiff, reduceCtorEq, Nat.reduceAdd, Nat.reduceLeDiff, Nat.reduceMul, Int.reduceNeg, Int.reduceLT, Int.reduceAdd, Int.reduceSub, hbA, hbB]) ?_ ?_
      · show Subs [V.loc _ [] _ (V.agg _), V.agg _] _
        exact Subs.cons (hTx.lendE rfl (fun r hr => hr)) (Subs.cons (Subs_agg_t _ _ _) (Subs.nil))
      rintro r10_3 h10_3 hh10_3 rfl -
      refine ⟨fun q hq o ho hm => by simp [V.ids, T.ids] at hm, ?_⟩
      try simp (disch := omega) only [go_sem, ↓reduceIte, Nat.reduceEqDiff, reduceCtorEq, Nat.reduceAdd, Nat.reduceLeDiff, Nat.reduceMul, Int.reduceNeg, Int.reduceLT, Int.reduceAdd, Int.reduceSub, E.eqb_self]
      refine hK13 _ ?_
      refine vc_cond (t := _) (by first | rfl | (simp (disch := omega) only [go_sem, ↓reduceIte, Nat.reduceEqDiff, reduceCtorEq, Nat.reduceAdd, Nat.reduceLeDiff, Nat.reduceMul, Int.reduceNeg, Int.reduceLT, Int.reduceAdd, Int.reduceSub]; rfl)) (fun hc3 => ?_) (fun hc3 => ?_)
      · exact absurd hc3 (by simp)
      · (try simp only [go_sem] at hc3)
        refine vc_skip ?_
        refine hK12 _ ?_
        refine vc_seq fun K14 hK14 => ?_
        refine vc_reg ?_
        try simp (disch := omega) only [go_sem, ↓reduceIte, Nat.reduceEqDiff, reduceCtorEq, Nat.reduceAdd, Nat.reduceLeDiff, Nat.reduceMul, Int.reduceNeg, Int.reduceLT, Int.reduceAdd, Int.reduceSub]
        refine hK14 _ ?_
        refine vc_seq fun K15 hK15 => ?_
        refine vc_reg ?_
        try simp (disch := omega) only [go_sem, ↓reduceIte, Nat.reduceEqDiff, reduceCtorEq, Nat.reduceAdd, Nat.reduceLeDiff, Nat.reduceMul, Int.reduceNeg, Int.reduceLT, Int.reduceAdd, Int.reduceSub, hbA, hbB]
        refine x_callM (laws_markExpr_M e _ 1 hEx (by omega)) (hTx) (by first | rfl | simp (disch := omega) only [go_sem, ↓reduceIte, Nat.reduceEqDiff, reduceCtorEq, Nat.reduceAdd, Nat.reduceLeDiff, Nat.reduceMul, Int.reduceNeg, Int.reduceLT, Int.reduceAdd, Int.reduceSub, hbA, hbB]) (by first | rfl | simp (disch := omega) only [go_sem, ↓reduceIte, Nat.reduceEqDiff, reduceCtorEq, Nat.reduceAdd, Nat.reduceLeDiff, Nat.reduceMul, Int.reduceNeg, Int.reduceLT, Int.reduceAdd, Int.reduceSub, hbA, hbB]) ?_
        rintro dsx σ13_2 h13_2 hTx hEx hk13_2 hl13_2 - hh13_2
        have hTr := hTr.keep (fun r hr => hk13_2 r (dj_r_x r hr))
        have hbA := (hk13_2 _ nb_hbA_x).trans hbA
        have hbB := (hk13_2 _ nb_hbB_x).trans hbB
        try simp (disch := omega) only [go_sem, ↓reduceIte, Nat.reduceEqDiff, reduceCtorEq, Nat.reduceAdd, Nat.reduceLeDiff, Nat.reduceMul, Int.reduceNeg, Int.reduceLT, Int.reduceAdd, Int.reduceSub, hbA, hbB]
        refine hK15 _ ?_
        refine vc_seq fun K16 hK16 => ?_
        refine vc_seq fun K17 hK17 => ?_
        refine vc_reg ?_
        refine vcX_cut 3 fun K18 hK18 => ?_
        try simp (disch := omega) only [go_sem, ↓reduceIte, Nat.reduceEqDiff, reduceCtorEq, Nat.reduceAdd, Nat.reduceLeDiff, Nat.reduceMul, Int.reduceNeg, Int.reduceLT, Int.reduceAdd, Int.reduceSub]
        refine hK18 _ ?_
        refine vcX_bool (fun hb14_2 => ?_) (fun hb14_2 => ?_)
        · (try simp only [go_sem] at hb14_2)
          exact absurd hb14_2 (by omega)
        · (try simp only [go_sem] at hb14_2)
          try simp (disch := omega) only [go_sem, ↓reduceIte, Nat.reduceEqDiff, reduceCtorEq, Nat.reduceAdd, Nat.reduceLeDiff, Nat.reduceMul, Int.reduceNeg, Int.reduceLT, Int.reduceAdd, Int.reduceSub]
          refine vcX_callS (caps := []) Sr [.t (.sl gr (Ts (evs e []))), .t (.sl gw (Ts (evs e [])))] _ (laws_eqStringS gr gw (evs e []) (evs e []) (by omega) (by omega)) (by first | rfl | simp (disch := omega) only [go_sem, ↓reduceIte, Nat.reduceEqDiff, reduceCtorEq, Nat.reduceAdd, Nat.reduceLeDiff, Nat.reduceMul, Int.reduceNeg, Int.reduceLT, Int.reduceAdd, Int.reduceSub]) ?_ ?_
          · show Subs [V.loc _ [] _ vr, V.t _] _
            exact Subs.cons (hTr.lendE hEr (fun r hr => hr)) (Subs.cons (.refl _) (Subs.nil))
          rintro r14_5 h14_5 hh14_5 rfl -
          refine ⟨fun q hq o ho hm => by simp [V.ids, T.ids] at hm, ?_⟩
          try simp (disch := omega) only [go_sem, ↓reduceIte, Nat.reduceEqDiff, reduceCtorEq, Nat.reduceAdd, Nat.reduceLeDiff, Nat.reduceMul, Int.reduceNeg, Int.reduceLT, Int.reduceAdd, Int.reduceSub]
          refine hK17 _ ?_
          refine vc_cond (t := _) (by first | rfl | (simp (disch := omega) only [go_sem, ↓reduceIte, Nat.reduceEqDiff, reduceCtorEq, Nat.reduceAdd, Nat.reduceLeDiff, Nat.reduceMul, Int.reduceNeg, Int.reduceLT, Int.reduceAdd, Int.reduceSub]; rfl)) (fun hc4 => ?_) (fun hc4 => ?_)
          · exact absurd hc4 (by simp)
          · (try simp only [go_sem] at hc4)
            refine vc_skip ?_
            refine hK16 _ ?_
            refine vc_seq fun K20 hK20 => ?_
            refine vc_reg ?_
            try simp (disch := omega) only [go_sem, ↓reduceIte, Nat.reduceEqDiff, reduceCtorEq, Nat.reduceAdd, Nat.reduceLeDiff, Nat.reduceMul, Int.reduceNeg, Int.reduceLT, Int.reduceAdd, Int.reduceSub]
            refine hK20 _ ?_
            refine vc_seq fun K21 hK21 => ?_
            refine vc_reg ?_
            try simp (disch := omega) only [go_sem, ↓reduceIte, Nat.reduceEqDiff, reduceCtorEq, Nat.reduceAdd, Nat.reduceLeDiff, Nat.reduceMul, Int.reduceNeg, Int.reduceLT, Int.reduceAdd, Int.reduceSub]
            refine x_callM (laws_markStringS_M dr gr (evs e []) 1 hEr (by omega)) (TrL_one hTr) (by first | rfl | simp (disch := omega) only [go_sem, ↓reduceIte, Nat.reduceEqDiff, reduceCtorEq, Nat.reduceAdd, Nat.reduceLeDiff, Nat.reduceMul, Int.reduceNeg, Int.reduceLT, Int.reduceAdd, Int.reduceSub]) (by first | rfl | simp (disch := omega) only [go_sem, ↓reduceIte, Nat.reduceEqDiff, reduceCtorEq, Nat.reduceAdd, Nat.reduceLeDiff, Nat.reduceMul, Int.reduceNeg, Int.reduceLT, Int.reduceAdd, Int.reduceSub]) ?_
            rintro dsr σ17_2 h17_2 hTr hEr hk17_2 hl17_2 - hh17_2
            have hTx := hTx.keep (fun r hr => hk17_2 r (dj_x_r r hr))
            have hbA := (hk17_2 _ nb_hbA_r).trans hbA
            have hbB := (hk17_2 _ nb_hbB_r).trans hbB
            obtain ⟨gm, hEr⟩ := hEr
            obtain ⟨dr', vr', rfl, hvr, hTr, hEr⟩ := hTr.er_one hEr
            obtain rfl : vr = vr' := by simpa using hvr
            try simp (disch := omega) only [go_sem, ↓reduceIte, Nat.reduceEqDiff, reduceCtorEq, Nat.reduceAdd, Nat.reduceLeDiff, Nat.reduceMul, Int.reduceNeg, Int.reduceLT, Int.reduceAdd, Int.reduceSub]
            refine hK21 _ ?_
            refine vc_seq fun K22 hK22 => ?_
            refine vc_reg ?_
            try simp (disch := omega) only [go_sem, ↓reduceIte, Nat.reduceEqDiff, reduceCtorEq, Nat.reduceAdd, Nat.reduceLeDiff, Nat.reduceMul, Int.reduceNeg, Int.reduceLT, Int.reduceAdd, Int.reduceSub]
            refine hK22 _ ?_
            refine vc_seq fun K23 hK23 => ?_
            refine vc_reg ?_
            try simp (disch := omega) only [go_sem, ↓reduceIte, Nat.reduceEqDiff, reduceCtorEq, Nat.reduceAdd, Nat.reduceLeDiff, Nat.reduceMul, Int.reduceNeg, Int.reduceLT, Int.reduceAdd, Int.reduceSub]
            refine vcX_callS (caps := []) Sr [.t (.sl gm (Ts (mS 1 (evs e []).length))), .t (.int .i64 ((1 : Nat) : Int))] _ (laws_heldStringS gm (evs e []).length 1 (by omega)) (by first | rfl | simp (disch := omega) only [go_sem, ↓reduceIte, Nat.reduceEqDiff, reduceCtorEq, Nat.reduceAdd, Nat.reduceLeDiff, Nat.reduceMul, Int.reduceNeg, Int.reduceLT, Int.reduceAdd, Int.reduceSub]) ?_ ?_
            · show Subs [V.loc _ [] _ vr, V.t _] _
              exact Subs.cons (hTr.lendE hEr (fun r hr => hr)) (Subs.cons (.refl _) (Subs.nil))
            rintro r19_2 h19_2 hh19_2 rfl -
            refine ⟨fun q hq o ho hm => by simp [V.ids, T.ids] at hm, ?_⟩
            try simp (disch := omega) only [go_sem, ↓reduceIte, Nat.reduceEqDiff, reduceCtorEq, Nat.reduceAdd, Nat.reduceLeDiff, Nat.reduceMul, Int.reduceNeg, Int.reduceLT, Int.reduceAdd, Int.reduceSub]
            refine hK23 _ ?_
            refine vc_seq fun K24 hK24 => ?_
            refine vc_seq fun K25 hK25 => ?_
            refine vc_reg ?_
            try simp (disch := omega) only [go_sem, ↓reduceIte, Nat.reduceEqDiff, reduceCtorEq, Nat.reduceAdd, Nat.reduceLeDiff, Nat.reduceMul, Int.reduceNeg, Int.reduceLT, Int.reduceAdd, Int.reduceSub]
            refine hK25 _ ?_
            refine vc_cond (t := _) (by first | rfl | (simp (disch := omega) only [go_sem, ↓reduceIte, Nat.reduceEqDiff, reduceCtorEq, Nat.reduceAdd, Nat.reduceLeDiff, Nat.reduceMul, Int.reduceNeg, Int.reduceLT, Int.reduceAdd, Int.reduceSub]; rfl)) (fun hc5 => ?_) (fun hc5 => ?_)
            · exact absurd hc5 (by first | (simp; done) | omega | (simp; omega))
            · (try simp only [go_sem] at hc5)
              refine vc_skip ?_
              refine hK24 _ ?_
              refine vc_seq fun K26 hK26 => ?_
              refine vc_seq fun K27 hK27 => ?_
              refine vc_reg ?_
              try simp (disch := omega) only [go_sem, ↓reduceIte, Nat.reduceEqDiff, reduceCtorEq, Nat.reduceAdd, Nat.reduceLeDiff, Nat.reduceMul, Int.reduceNeg, Int.reduceLT, Int.reduceAdd, Int.reduceSub]
              refine hK27 _ ?_
              refine vc_cond (t := _) (by first | rfl | (simp (disch := omega) only [go_sem, ↓reduceIte, Nat.reduceEqDiff, reduceCtorEq, Nat.reduceAdd, Nat.reduceLeDiff, Nat.reduceMul, Int.reduceNeg, Int.reduceLT, Int.reduceAdd, Int.reduceSub]; rfl)) (fun hc6 => ?_) (fun hc6 => ?_)
              · exact absurd hc6 (by first | (simp; done) | omega | (simp; omega))
              · (try simp only [go_sem] at hc6)
                refine vc_skip ?_
                refine hK26 _ ?_
                refine vc_seq fun K28 hK28 => ?_
                refine vc_reg ?_
                try simp (disch := omega) only [go_sem, ↓reduceIte, Nat.reduceEqDiff, reduceCtorEq, Nat.reduceAdd, Nat.reduceLeDiff, Nat.reduceMul, Int.reduceNeg, Int.reduceLT, Int.reduceAdd, Int.reduceSub, hbA]
                refine vcX_call _ _ (laws_toExpr e _ hc (by omega)) (by first | rfl | (simp (disch := omega) only [go_sem, ↓reduceIte, Nat.reduceEqDiff, reduceCtorEq, Nat.reduceAdd, Nat.reduceLeDiff, Nat.reduceMul, Int.reduceNeg, Int.reduceLT, Int.reduceAdd, Int.reduceSub, hbA])) (by first | rfl | (simp (disch := omega) only [go_sem, ↓reduceIte, Nat.reduceEqDiff, reduceCtorEq, Nat.reduceAdd, Nat.reduceLeDiff, Nat.reduceMul, Int.reduceNeg, Int.reduceLT, Int.reduceAdd, Int.reduceSub, hbA])) (by first | rfl | simp [V.pures, V.pure, V.pures_t]) ?_
                rintro r24_1 h24_1 hh24_1 ⟨c24, rfl, hc24⟩ -
                obtain ⟨g24, cs24, rfl, hcs24⟩ := E.rep_cells hc24
                try simp (disch := omega) only [go_sem, ↓reduceIte, Nat.reduceEqDiff, reduceCtorEq, Nat.reduceAdd, Nat.reduceLeDiff, Nat.reduceMul, Int.reduceNeg, Int.reduceLT, Int.reduceAdd, Int.reduceSub, hbA]
                refine x_callN (caps := []) [] [.agg (List.map V.t [.int .i64 e.kind, .str e.name, .sl g24 cs24])] _ ((impl_VarsOf e _ hc24 hw).fresh (by rintro s ts ⟨_, g', rfl⟩; exact .inl rfl)) (by first | rfl | simp (disch := omega) only [go_sem, ↓reduceIte, Nat.reduceEqDiff, reduceCtorEq, Nat.reduceAdd, Nat.reduceLeDiff, Nat.reduceMul, Int.reduceNeg, Int.reduceLT, Int.reduceAdd, Int.reduceSub, hbA]) ?_ ?_
                · exact Subs.of_eq (by first | rfl | simp (disch := omega) only [go_sem, ↓reduceIte, Nat.reduceEqDiff, reduceCtorEq, Nat.reduceAdd, Nat.reduceLeDiff, Nat.reduceMul, Int.reduceNeg, Int.reduceLT, Int.reduceAdd, Int.reduceSub, hbA])
                rintro r24_2 h24_2 hh24_2 ⟨s, ts, rfl, rfl, gh, rfl⟩ -
                try simp (disch := omega) only [go_sem, ↓reduceIte, Nat.reduceEqDiff, reduceCtorEq, Nat.reduceAdd, Nat.reduceLeDiff, Nat.reduceMul, Int.reduceNeg, Int.reduceLT, Int.reduceAdd, Int.reduceSub, List.map_cons, List.map_nil]
                refine hK28 _ ?_
                refine vc_seq fun K29 hK29 => ?_
                refine vc_seq fun K30 hK30 => ?_
                refine vc_reg ?_
                try simp (disch := omega) only [go_sem, ↓reduceIte, Nat.reduceEqDiff, reduceCtorEq, Nat.reduceAdd, Nat.reduceLeDiff, Nat.reduceMul, Int.reduceNeg, Int.reduceLT, Int.reduceAdd, Int.reduceSub]
                refine vcX_call _ _ (laws_eqStringS gh gw (evs e []) (evs e []) (by omega) (by omega)) (by first | rfl | (simp (disch := omega) only [go_sem, ↓reduceIte, Nat.reduceEqDiff, reduceCtorEq, Nat.reduceAdd, Nat.reduceLeDiff, Nat.reduceMul, Int.reduceNeg, Int.reduceLT, Int.reduceAdd, Int.reduceSub])) (by first | rfl | (simp (disch := omega) only [go_sem, ↓reduceIte, Nat.reduceEqDiff, reduceCtorEq, Nat.reduceAdd, Nat.reduceLeDiff, Nat.reduceMul, Int.reduceNeg, Int.reduceLT, Int.reduceAdd, Int.reduceSub])) (by first | rfl | simp [V.pures, V.pure, V.pures_t]) ?_
                rintro r25_2 h25_2 hh25_2 rfl -
                try simp (disch := omega) only [go_sem, ↓reduceIte, Nat.reduceEqDiff, reduceCtorEq, Nat.reduceAdd, Nat.reduceLeDiff, Nat.reduceMul, Int.reduceNeg, Int.reduceLT, Int.reduceAdd, Int.reduceSub]
                refine hK30 _ ?_
                refine vc_cond (t := _) (by first | rfl | (simp (disch := omega) only [go_sem, ↓reduceIte, Nat.reduceEqDiff, reduceCtorEq, Nat.reduceAdd, Nat.reduceLeDiff, Nat.reduceMul, Int.reduceNeg, Int.reduceLT, Int.reduceAdd, Int.reduceSub]; rfl)) (fun hc7 => ?_) (fun hc7 => ?_)
                · exact absurd hc7 (by simp)
                · (try simp only [go_sem] at hc7)
                  refine vc_skip ?_
                  refine hK29 _ ?_
                  refine vc_seq fun K31 hK31 => ?_
                  refine vc_reg ?_
                  try simp (disch := omega) only [go_sem, ↓reduceIte, Nat.reduceEqDiff, reduceCtorEq, Nat.reduceAdd, Nat.reduceLeDiff, Nat.reduceMul, Int.reduceNeg, Int.reduceLT, Int.reduceAdd, Int.reduceSub]
                  refine hK31 _ ?_
                  refine vc_seq fun K32 hK32 => ?_
                  refine vc_reg ?_
                  try simp (disch := omega) only [go_sem, ↓reduceIte, Nat.reduceEqDiff, reduceCtorEq, Nat.reduceAdd, Nat.reduceLeDiff, Nat.reduceMul, Int.reduceNeg, Int.reduceLT, Int.reduceAdd, Int.reduceSub]
                  refine vcX_callS (caps := []) Sr [.t (.sl gm (Ts (mS 1 (evs e []).length))), .t (.int .i64 ((1 : Nat) : Int))] _ (laws_heldStringS gm (evs e []).length 1 (by omega)) (by first | rfl | simp (disch := omega) only [go_sem, ↓reduceIte, Nat.reduceEqDiff, reduceCtorEq, Nat.reduceAdd, Nat.reduceLeDiff, Nat.reduceMul, Int.reduceNeg, Int.reduceLT, Int.reduceAdd, Int.reduceSub]) ?_ ?_
                  · show Subs [V.loc _ [] _ vr, V.t _] _
                    exact Subs.cons (hTr.lendE hEr (fun r hr => hr)) (Subs.cons (.refl _) (Subs.nil))
                  rintro r28_2 h28_2 hh28_2 rfl -
                  refine ⟨fun q hq o ho hm => by simp [V.ids, T.ids] at hm, ?_⟩
                  try simp (disch := omega) only [go_sem, ↓reduceIte, Nat.reduceEqDiff, reduceCtorEq, Nat.reduceAdd, Nat.reduceLeDiff, Nat.reduceMul, Int.reduceNeg, Int.reduceLT, Int.reduceAdd, Int.reduceSub]
                  refine hK32 _ ?_
                  refine vc_seq fun K33 hK33 => ?_
                  refine vc_seq fun K34 hK34 => ?_
                  refine vc_reg ?_
                  try simp (disch := omega) only [go_sem, ↓reduceIte, Nat.reduceEqDiff, reduceCtorEq, Nat.reduceAdd, Nat.reduceLeDiff, Nat.reduceMul, Int.reduceNeg, Int.reduceLT, Int.reduceAdd, Int.reduceSub]
                  refine hK34 _ ?_
                  refine vc_cond (t := _) (by first | rfl | (simp (disch := omega) only [go_sem, ↓reduceIte, Nat.reduceEqDiff, reduceCtorEq, Nat.reduceAdd, Nat.reduceLeDiff, Nat.reduceMul, Int.reduceNeg, Int.reduceLT, Int.reduceAdd, Int.reduceSub]; rfl)) (fun hc8 => ?_) (fun hc8 => ?_)
                  · exact absurd hc8 (by first | (simp; done) | omega | (simp; omega))
                  · (try simp only [go_sem] at hc8)
                    refine vc_skip ?_
                    refine hK33 _ ?_
                    refine vc_seq fun K35 hK35 => ?_
                    refine vc_seq fun K36 hK36 => ?_
                    refine vc_reg ?_
                    try simp (disch := omega) only [go_sem, ↓reduceIte, Nat.reduceEqDiff, reduceCtorEq, Nat.reduceAdd, Nat.reduceLeDiff, Nat.reduceMul, Int.reduceNeg, Int.reduceLT, Int.reduceAdd, Int.reduceSub]
                    refine hK36 _ ?_
                    refine vc_cond (t := _) (by first | rfl | (simp (disch := omega) only [go_sem, ↓reduceIte, Nat.reduceEqDiff, reduceCtorEq, Nat.reduceAdd, Nat.reduceLeDiff, Nat.reduceMul, Int.reduceNeg, Int.reduceLT, Int.reduceAdd, Int.reduceSub]; rfl)) (fun hc9 => ?_) (fun hc9 => ?_)
                    · exact absurd hc9 (by first | (simp; done) | omega | (simp; omega))
                    · (try simp only [go_sem] at hc9)
                      refine vc_skip ?_
                      refine hK35 _ ?_
                      refine vc_seq fun K37 hK37 => ?_
                      refine vc_reg ?_
                      try simp (disch := omega) only [go_sem, ↓reduceIte, Nat.reduceEqDiff, reduceCtorEq, Nat.reduceAdd, Nat.reduceLeDiff, Nat.reduceMul, Int.reduceNeg, Int.reduceLT, Int.reduceAdd, Int.reduceSub]
                      refine hK37 _ ?_
                      refine vc_ret ?_
                      refine ⟨_, by first | rfl | (simp only [go_sem, resQ, List.mapM_cons, List.mapM_nil, ↓reduceIte, Nat.reduceEqDiff, Nat.reduceAdd, Nat.reduceLeDiff, reduceCtorEq]; rfl), [], [], .nil, by simp, by simp, fun hi_ h1_ => ⟨?_, rfl, rfl⟩, by simp⟩
                      first | rfl | simp_all
end Go.Proofs.Ytlooiifgbiedeaa
