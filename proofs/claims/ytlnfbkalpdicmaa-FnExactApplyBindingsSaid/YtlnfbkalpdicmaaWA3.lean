/- Walks through the code: each function's contract. -/
import Derived.Test.YtlnfbkalpdicmaaWA2
import Derived.Test.YtlnfbkalpdicmaaWX
import Derived.Test.YtlnfbkalpdicmaaWJ
set_option linter.unusedVariables false
set_option linter.unusedSimpArgs false
set_option maxRecDepth 8000
namespace Go.Proofs.Ytlnfbkalpdicmaa
open Go Go.VL

theorem Subs_agg_u (σ : List Ob) (bor : List Nat) (c : List T) : VL.Sub ((V.agg (c.map V.t)).loc σ [] bor) (.agg (c.map V.t)) := by
  rw [V.loc, V.pures_loc _ _ _ _ (V.pures_t c)]; exact .refl _

/-- laws.FnExactApplyBindings -/
theorem laws_FnExactApplyBindings (e : E) (c : List T) (hc : e.rep c) (hs : e.small) (g1 : Nat) (l : List B) (cl : List (List T)) (hl : Rl B.rep l cl) (hl2 : l.length ≤ reachBytes) (hs2 : ∀ b ∈ l, b.small) : FCtr Try.prog 6 [.agg (c.map .t), .t (.sl g1 cl)] (fun r => r = .t (.bool true)) := by
  obtain ⟨g, cs, rfl, hcs⟩ := E.rep_cells hc
  have reach := reach47
  have hlw_ := wl_len B.wt l
  refine Ctr.of_vc (rs := [.tmp 4]) (fn := Try.f6) mixed Try.func6 rfl rfl (by kernel_rfl) (by kernel_rfl) (by simp [Try.ntmps6]) (fun h0 => ?_)
  refine vc_seq fun K1 hK1 => ?_
  refine vc_reg ?_
  try simp (disch := omega) only [go_sem, ↓reduceIte, Nat.reduceEqDiff, reduceCtorEq, Nat.reduceAdd, Nat.reduceLeDiff, Nat.reduceMul, Int.reduceNeg, Int.reduceLT, Int.reduceAdd, Int.reduceSub]
  intro g0_0 hg0_0
  refine hK1 _ ?_
  refine vc_seq fun K2 hK2 => ?_
  refine vc_reg ?_
  try simp (disch := omega) only [go_sem, ↓reduceIte, Nat.reduceEqDiff, reduceCtorEq, Nat.reduceAdd, Nat.reduceLeDiff, Nat.reduceMul, Int.reduceNeg, Int.reduceLT, Int.reduceAdd, Int.reduceSub]
  refine hK2 _ ?_
  refine vc_seq fun K3 hK3 => ?_
  refine vc_reg ?_
  try simp (disch := omega) only [go_sem, ↓reduceIte, Nat.reduceEqDiff, reduceCtorEq, Nat.reduceAdd, Nat.reduceLeDiff, Nat.reduceMul, Int.reduceNeg, Int.reduceLT, Int.reduceAdd, Int.reduceSub]
  refine vcX_call _ _ (laws_szExpr e _ 1048576 hc hs (by omega)) (by first | rfl | (simp (disch := omega) only [go_sem, ↓reduceIte, Nat.reduceEqDiff, reduceCtorEq, Nat.reduceAdd, Nat.reduceLeDiff, Nat.reduceMul, Int.reduceNeg, Int.reduceLT, Int.reduceAdd, Int.reduceSub])) (by first | rfl | (simp (disch := omega) only [go_sem, ↓reduceIte, Nat.reduceEqDiff, reduceCtorEq, Nat.reduceAdd, Nat.reduceLeDiff, Nat.reduceMul, Int.reduceNeg, Int.reduceLT, Int.reduceAdd, Int.reduceSub])) (by first | rfl | simp [V.pures, V.pure, V.pures_t]) ?_
  rintro r2_2 h2_2 hh2_2 ⟨m, rfl, hm⟩ -
  try simp (disch := omega) only [go_sem, ↓reduceIte, Nat.reduceEqDiff, reduceCtorEq, Nat.reduceAdd, Nat.reduceLeDiff, Nat.reduceMul, Int.reduceNeg, Int.reduceLT, Int.reduceAdd, Int.reduceSub]
  refine hK3 _ ?_
  refine vc_seq fun K4 hK4 => ?_
  refine vc_seq fun K5 hK5 => ?_
  refine vc_reg ?_
  try simp (disch := omega) only [go_sem, ↓reduceIte, Nat.reduceEqDiff, reduceCtorEq, Nat.reduceAdd, Nat.reduceLeDiff, Nat.reduceMul, Int.reduceNeg, Int.reduceLT, Int.reduceAdd, Int.reduceSub]
  refine hK5 _ ?_
  refine vc_cond (t := _) (by first | rfl | (simp (disch := omega) only [go_sem, ↓reduceIte, Nat.reduceEqDiff, reduceCtorEq, Nat.reduceAdd, Nat.reduceLeDiff, Nat.reduceMul, Int.reduceNeg, Int.reduceLT, Int.reduceAdd, Int.reduceSub]; rfl)) (fun hc1 => ?_) (fun hc1 => ?_)
  · (try simp only [go_sem] at hc1)
    refine vc_seq fun K6 hK6 => ?_
    refine vc_reg ?_
    try simp (disch := omega) only [go_sem, ↓reduceIte, Nat.reduceEqDiff, reduceCtorEq, Nat.reduceAdd, Nat.reduceLeDiff, Nat.reduceMul, Int.reduceNeg, Int.reduceLT, Int.reduceAdd, Int.reduceSub]
    refine hK6 _ ?_
    refine vc_ret ?_
    refine ⟨_, by first | rfl | (simp only [go_sem, resQ, List.mapM_cons, List.mapM_nil, ↓reduceIte, Nat.reduceEqDiff, Nat.reduceAdd, Nat.reduceLeDiff, reduceCtorEq]; rfl), [], [], .nil, by simp, by simp, fun hi_ h1_ => ⟨?_, rfl, rfl⟩, by simp⟩
    first | rfl | simp_all
  · (try simp only [go_sem] at hc1)
    refine vc_skip ?_
    refine hK4 _ ?_
    refine vc_seq fun K7 hK7 => ?_
    refine vc_reg ?_
    try simp (disch := omega) only [go_sem, ↓reduceIte, Nat.reduceEqDiff, reduceCtorEq, Nat.reduceAdd, Nat.reduceLeDiff, Nat.reduceMul, Int.reduceNeg, Int.reduceLT, Int.reduceAdd, Int.reduceSub]
    refine vcX_call _ _ (laws_szBindingS g1 l cl m hl hl2 (by omega) (fun a ha c N h1 h2 => laws_szBinding a c N h1 (hs2 a ha) h2)) (by first | rfl | (simp (disch := omega) only [go_sem, ↓reduceIte, Nat.reduceEqDiff, reduceCtorEq, Nat.reduceAdd, Nat.reduceLeDiff, Nat.reduceMul, Int.reduceNeg, Int.reduceLT, Int.reduceAdd, Int.reduceSub])) (by first | rfl | (simp (disch := omega) only [go_sem, ↓reduceIte, Nat.reduceEqDiff, reduceCtorEq, Nat.reduceAdd, Nat.reduceLeDiff, Nat.reduceMul, Int.reduceNeg, Int.reduceLT, Int.reduceAdd, Int.reduceSub])) (by first | rfl | simp [V.pures, V.pure, V.pures_t]) ?_
    rintro r5_2 h5_2 hh5_2 ⟨m2, rfl, hm2⟩ -
    try simp (disch := omega) only [go_sem, ↓reduceIte, Nat.reduceEqDiff, reduceCtorEq, Nat.reduceAdd, Nat.reduceLeDiff, Nat.reduceMul, Int.reduceNeg, Int.reduceLT, Int.reduceAdd, Int.reduceSub]
    refine hK7 _ ?_
    refine vc_seq fun K8 hK8 => ?_
    refine vc_seq fun K9 hK9 => ?_
    refine vc_reg ?_
    try simp (disch := omega) only [go_sem, ↓reduceIte, Nat.reduceEqDiff, reduceCtorEq, Nat.reduceAdd, Nat.reduceLeDiff, Nat.reduceMul, Int.reduceNeg, Int.reduceLT, Int.reduceAdd, Int.reduceSub]
    refine hK9 _ ?_
    refine vc_cond (t := _) (by first | rfl | (simp (disch := omega) only [go_sem, ↓reduceIte, Nat.reduceEqDiff, reduceCtorEq, Nat.reduceAdd, Nat.reduceLeDiff, Nat.reduceMul, Int.reduceNeg, Int.reduceLT, Int.reduceAdd, Int.reduceSub]; rfl)) (fun hc2 => ?_) (fun hc2 => ?_)
    · (try simp only [go_sem] at hc2)
      refine vc_seq fun K10 hK10 => ?_
      refine vc_reg ?_
      try simp (disch := omega) only [go_sem, ↓reduceIte, Nat.reduceEqDiff, reduceCtorEq, Nat.reduceAdd, Nat.reduceLeDiff, Nat.reduceMul, Int.reduceNeg, Int.reduceLT, Int.reduceAdd, Int.reduceSub]
      refine hK10 _ ?_
      refine vc_ret ?_
      refine ⟨_, by first | rfl | (simp only [go_sem, resQ, List.mapM_cons, List.mapM_nil, ↓reduceIte, Nat.reduceEqDiff, Nat.reduceAdd, Nat.reduceLeDiff, reduceCtorEq]; rfl), [], [], .nil, by simp, by simp, fun hi_ h1_ => ⟨?_, rfl, rfl⟩, by simp⟩
      first | rfl | simp_all
    · (try simp only [go_sem] at hc2)
      have hw : e.wt ≤ 1048576 := by omega
      have hwl : wl B.wt l ≤ 1048576 := by omega
      have hsz_ := E.sz_wt e
      have hszA := E.sz_args e
      obtain ⟨hW1, hW2⟩ := ap_small (l := l) hw hwl
      have hszW := E.sz_args (ap l e)
      have hpl := wl_pl_wt l
      refine vc_skip ?_
      refine hK8 _ ?_
      refine vc_seq fun K11 hK11 => ?_
      refine vc_reg ?_
      try simp (disch := omega) only [go_sem, ↓reduceIte, Nat.reduceEqDiff, reduceCtorEq, Nat.reduceAdd, Nat.reduceLeDiff, Nat.reduceMul, Int.reduceNeg, Int.reduceLT, Int.reduceAdd, Int.reduceSub]
      refine vcX_call _ _ (laws_toExpr e _ hc (by omega)) (by first | rfl | (simp (disch := omega) only [go_sem, ↓reduceIte, Nat.reduceEqDiff, reduceCtorEq, Nat.reduceAdd, Nat.reduceLeDiff, Nat.reduceMul, Int.reduceNeg, Int.reduceLT, Int.reduceAdd, Int.reduceSub])) (by first | rfl | (simp (disch := omega) only [go_sem, ↓reduceIte, Nat.reduceEqDiff, reduceCtorEq, Nat.reduceAdd, Nat.reduceLeDiff, Nat.reduceMul, Int.reduceNeg, Int.reduceLT, Int.reduceAdd, Int.reduceSub])) (by first | rfl | simp [V.pures, V.pure, V.pures_t]) ?_
      rintro r8_1 h8_1 hh8_1 ⟨c8, rfl, hc8⟩ -
      obtain ⟨g8, cs8, rfl, hcs8⟩ := E.rep_cells hc8
      try simp (disch := omega) only [go_sem, ↓reduceIte, Nat.reduceEqDiff, reduceCtorEq, Nat.reduceAdd, Nat.reduceLeDiff, Nat.reduceMul, Int.reduceNeg, Int.reduceLT, Int.reduceAdd, Int.reduceSub]
      refine vcX_call _ _ (laws_toBindingS g1 l cl hl (by omega) (fun a ha c h1 => laws_toBinding a c h1 (by have := wl_mem (f := B.wt) ha; omega))) (by first | rfl | (simp (disch := omega) only [go_sem, ↓reduceIte, Nat.reduceEqDiff, reduceCtorEq, Nat.reduceAdd, Nat.reduceLeDiff, Nat.reduceMul, Int.reduceNeg, Int.reduceLT, Int.reduceAdd, Int.reduceSub])) (by first | rfl | (simp (disch := omega) only [go_sem, ↓reduceIte, Nat.reduceEqDiff, reduceCtorEq, Nat.reduceAdd, Nat.reduceLeDiff, Nat.reduceMul, Int.reduceNeg, Int.reduceLT, Int.reduceAdd, Int.reduceSub])) (by first | rfl | simp [V.pures, V.pure, V.pures_t]) ?_
      rintro r8_3 h8_3 hh8_3 ⟨g83, d83, rfl, hd83⟩ -
      try simp (disch := omega) only [go_sem, ↓reduceIte, Nat.reduceEqDiff, reduceCtorEq, Nat.reduceAdd, Nat.reduceLeDiff, Nat.reduceMul, Int.reduceNeg, Int.reduceLT, Int.reduceAdd, Int.reduceSub]
      refine x_callN (caps := []) [] [.agg (List.map V.t [.int .i64 e.kind, .str e.name, .sl g8 cs8]), .t (.sl g83 d83)] _ ((spec_ApplyBindings g83 l d83 hd83 hwl e _ hc8 hw).fresh (by rintro s ts ⟨h1, _⟩; exact .inr (.inl h1))) (by first | rfl | simp (disch := omega) only [go_sem, ↓reduceIte, Nat.reduceEqDiff, reduceCtorEq, Nat.reduceAdd, Nat.reduceLeDiff, Nat.reduceMul, Int.reduceNeg, Int.reduceLT, Int.reduceAdd, Int.reduceSub]) ?_ ?_
      · exact Subs.of_eq (by first | rfl | simp (disch := omega) only [go_sem, ↓reduceIte, Nat.reduceEqDiff, reduceCtorEq, Nat.reduceAdd, Nat.reduceLeDiff, Nat.reduceMul, Int.reduceNeg, Int.reduceLT, Int.reduceAdd, Int.reduceSub])
      rintro r8_4 h8_4 hh8_4 ⟨s, ts, rfl, rfl, hW⟩ -
      obtain ⟨gw, cw, rfl, hcw⟩ := E.rep_cells hW
      try simp (disch := omega) only [go_sem, ↓reduceIte, Nat.reduceEqDiff, reduceCtorEq, Nat.reduceAdd, Nat.reduceLeDiff, Nat.reduceMul, Int.reduceNeg, Int.reduceLT, Int.reduceAdd, Int.reduceSub, List.map_cons, List.map_nil, Shp.v, solid_agg, isVal_agg, setV, List.set_cons_zero, List.set_cons_succ]
      intro g8_5 hg8_5
      refine hK11 _ ?_
      refine vc_seq fun K12 hK12 => ?_
      have hbA : ([.row g0_0 0 3 3 [[V.t (.int .i64 e.kind), V.t (.str e.name), V.t (.sl g cs)]], .row g8_5 0 3 3 [[V.t (.int .i64 (ap l e).kind), V.t (.str (ap l e).name), V.t (.sl gw cw)]]] : List Ob)[0]? = some _ := rfl
      have hbW : ([.row g0_0 0 3 3 [[V.t (.int .i64 e.kind), V.t (.str e.name), V.t (.sl g cs)]], .row g8_5 0 3 3 [[V.t (.int .i64 (ap l e).kind), V.t (.str (ap l e).name), V.t (.sl gw cw)]]] : List Ob)[1]? = some _ := rfl
      refine vc_reg ?_
      try simp (disch := omega) only [go_sem, ↓reduceIte, Nat.reduceEqDiff, reduceCtorEq, Nat.reduceAdd, Nat.reduceLeDiff, Nat.reduceMul, Int.reduceNeg, Int.reduceLT, Int.reduceAdd, Int.reduceSub]
      refine x_callO (caps := []) [] [.agg (List.map V.t [.int .i64 e.kind, .str e.name, .sl g cs])] _ (laws_toExpr_o e _ hc (by omega)) (by first | rfl | simp (disch := omega) only [go_sem, ↓reduceIte, Nat.reduceEqDiff, reduceCtorEq, Nat.reduceAdd, Nat.reduceLeDiff, Nat.reduceMul, Int.reduceNeg, Int.reduceLT, Int.reduceAdd, Int.reduceSub]) ?_ ?_
      · exact Subs.of_eq (by first | rfl | simp (disch := omega) only [go_sem, ↓reduceIte, Nat.reduceEqDiff, reduceCtorEq, Nat.reduceAdd, Nat.reduceLeDiff, Nat.reduceMul, Int.reduceNeg, Int.reduceLT, Int.reduceAdd, Int.reduceSub])
      rintro s dsx vsx Sx σ9_1 h9_1 ⟨rfl, hEx⟩ hTx hk9_1 hSx hl9_1 hh9_1
      have nb_hbA_x : 0 ∉ Sx := fun hx => by have h1 := hSx _ hx; have h2 := (List.getElem?_eq_some_iff.1 hbA).1; omega
      have nb_hbW_x : 1 ∉ Sx := fun hx => by have h1 := hSx _ hx; have h2 := (List.getElem?_eq_some_iff.1 hbW).1; omega
      have hbA := (hk9_1 _ (List.getElem?_eq_some_iff.1 hbA).1).trans hbA
      have hbW := (hk9_1 _ (List.getElem?_eq_some_iff.1 hbW).1).trans hbW
      obtain ⟨dxx, vx, gxx, cxx, hdsx, hvsx, hTdx, hEdx, hRdx⟩ := E.own_cells hTx hEx
      subst hvsx
      have hvlx := hTdx.leaf
      try simp (disch := omega) only [go_sem, ↓reduceIte, Nat.reduceEqDiff, reduceCtorEq, Nat.reduceAdd, Nat.reduceLeDiff, Nat.reduceMul, Int.reduceNeg, Int.reduceLT, Int.reduceAdd, Int.reduceSub, get_new, set_new, solid_of hvlx, cells_of hvlx, setV, hvlx, List.all_cons, List.all_nil, Bool.and_true, Bool.and_self]
      intro g9_2 hg9_2
      refine hK12 _ ?_
      refine vc_seq fun K13 hK13 => ?_
      have hTx := hTx.more (.row g9_2 0 3 3 [[V.t (.int .i64 e.kind), V.t (.str e.name), vx]])
      have hbA := (get_old (o := .row g9_2 0 3 3 [[V.t (.int .i64 e.kind), V.t (.str e.name), vx]]) (List.getElem?_eq_some_iff.1 hbA).1).trans hbA
      have hbW := (get_old (o := .row g9_2 0 3 3 [[V.t (.int .i64 e.kind), V.t (.str e.name), vx]]) (List.getElem?_eq_some_iff.1 hbW).1).trans hbW
      have hbX := get_new σ9_1 (.row g9_2 0 3 3 [[V.t (.int .i64 e.kind), V.t (.str e.name), vx]])
      have nb_hbX_x : σ9_1.length ∉ Sx := fun hx => by have := hTdx.lt _ hx; omega
      refine vc_reg ?_
      try simp (disch := omega) only [go_sem, ↓reduceIte, Nat.reduceEqDiff, reduceCtorEq, Nat.reduceAdd, Nat.reduceLeDiff, Nat.reduceMul, Int.reduceNeg, Int.reduceLT, Int.reduceAdd, Int.reduceSub]
      refine x_callO (caps := []) [] [.t (.sl g1 cl)] _ (laws_toBindingS_o g1 l cl hl (by omega) (fun a ha' c' hc' => laws_toBinding_o a c' hc' (by have := wl_mem (f := B.wt) ha'; omega))) (by first | rfl | simp (disch := omega) only [go_sem, ↓reduceIte, Nat.reduceEqDiff, reduceCtorEq, Nat.reduceAdd, Nat.reduceLeDiff, Nat.reduceMul, Int.reduceNeg, Int.reduceLT, Int.reduceAdd, Int.reduceSub]) ?_ ?_
      · exact Subs.of_eq (by first | rfl | simp (disch := omega) only [go_sem, ↓reduceIte, Nat.reduceEqDiff, reduceCtorEq, Nat.reduceAdd, Nat.reduceLeDiff, Nat.reduceMul, Int.reduceNeg, Int.reduceLT, Int.reduceAdd, Int.reduceSub])
      rintro s dsy vsy Sy σ10_1 h10_1 ⟨rfl, gy, cy, hEy, hRy⟩ hTy hk10_1 hSy hl10_1 hh10_1
      obtain ⟨dy, vy, rfl, rfl, hTy, hEy⟩ := hTy.er_one hEy
      have dj_y_x : ∀ r ∈ Sy, r ∉ Sx := fun r hr hx => by have h1 := hSy r hr; have h2 := hTx.lt r hx; omega
      have dj_x_y : ∀ r ∈ Sx, r ∉ Sy := fun r hr hx => dj_y_x r hx hr
      have nb_hbA_y : 0 ∉ Sy := fun hx => by have h1 := hSy _ hx; have h2 := (List.getElem?_eq_some_iff.1 hbA).1; omega
      have nb_hbW_y : 1 ∉ Sy := fun hx => by have h1 := hSy _ hx; have h2 := (List.getElem?_eq_some_iff.1 hbW).1; omega
      have nb_hbX_y : σ9_1.length ∉ Sy := fun hx => by have h1 := hSy _ hx; have h2 := (List.getElem?_eq_some_iff.1 hbX).1; omega
      have hTx := hTx.keep (fun r hr => hk10_1 r (hTx.lt r hr))
      have hbA := (hk10_1 _ (List.getElem?_eq_some_iff.1 hbA).1).trans hbA
      have hbW := (hk10_1 _ (List.getElem?_eq_some_iff.1 hbW).1).trans hbW
      have hbX := (hk10_1 _ (List.getElem?_eq_some_iff.1 hbX).1).trans hbX
      try simp (disch := omega) only [go_sem, ↓reduceIte, Nat.reduceEqDiff, reduceCtorEq, Nat.reduceAdd, Nat.reduceLeDiff, Nat.reduceMul, Int.reduceNeg, Int.reduceLT, Int.reduceAdd, Int.reduceSub, Shp.v, List.headD_cons]
      refine hK13 _ ?_
      refine vc_seq fun K14 hK14 => ?_
      refine vc_reg ?_
      try simp (disch := omega) only [go_sem, ↓reduceIte, Nat.reduceEqDiff, reduceCtorEq, Nat.reduceAdd, Nat.reduceLeDiff, Nat.reduceMul, Int.reduceNeg, Int.reduceLT, Int.reduceAdd, Int.reduceSub, hbX, hbA, hbW]
      refine x_callO (caps := []) (Sx ++ Sy) [.agg ((D.erL dsx).map V.t), .t (.sl gy cy)] _ (impl_ApplyBindings gy l cy hRy hwl e _ hEx hw) (by first | rfl | simp (disch := omega) only [go_sem, ↓reduceIte, Nat.reduceEqDiff, reduceCtorEq, Nat.reduceAdd, Nat.reduceLeDiff, Nat.reduceMul, Int.reduceNeg, Int.reduceLT, Int.reduceAdd, Int.reduceSub, hbX, hbA, hbW]) ?_ ?_
      · show Subs [V.loc _ [] _ (V.agg _), V.loc _ [] _ vy] _
        exact Subs.cons (hTx.lendE rfl (fun r hr => List.mem_append_left _ hr)) (Subs.cons (hTy.lendE hEy (fun r hr => List.mem_append_right _ hr)) (Subs.nil))
      rintro s dsr vsr Sr σ11_2 h11_2 ⟨rfl, hEr⟩ hTr hk11_2 hSr hl11_2 hh11_2
      have dj_r_x : ∀ r ∈ Sr, r ∉ Sx := fun r hr hx => by have h1 := hSr r hr; have h2 := hTx.lt r hx; omega
      have dj_x_r : ∀ r ∈ Sx, r ∉ Sr := fun r hr hx => dj_r_x r hx hr
      have dj_r_y : ∀ r ∈ Sr, r ∉ Sy := fun r hr hx => by have h1 := hSr r hr; have h2 := hTy.lt r hx; omega
      have dj_y_r : ∀ r ∈ Sy, r ∉ Sr := fun r hr hx => dj_r_y r hx hr
      have nb_hbA_r : 0 ∉ Sr := fun hx => by have h1 := hSr _ hx; have h2 := (List.getElem?_eq_some_iff.1 hbA).1; omega
      have nb_hbW_r : 1 ∉ Sr := fun hx => by have h1 := hSr _ hx; have h2 := (List.getElem?_eq_some_iff.1 hbW).1; omega
      have nb_hbX_r : σ9_1.length ∉ Sr := fun hx => by have h1 := hSr _ hx; have h2 := (List.getElem?_eq_some_iff.1 hbX).1; omega
      have hTx := hTx.keep (fun r hr => hk11_2 r (hTx.lt r hr))
      have hTy := hTy.keep (fun r hr => hk11_2 r (hTy.lt r hr))
      have hbA := (hk11_2 _ (List.getElem?_eq_some_iff.1 hbA).1).trans hbA
      have hbW := (hk11_2 _ (List.getElem?_eq_some_iff.1 hbW).1).trans hbW
      have hbX := (hk11_2 _ (List.getElem?_eq_some_iff.1 hbX).1).trans hbX
      obtain ⟨dxr, vr, gxr, cxr, hdsr, hvsr, hTdr, hEdr, hRdr⟩ := E.own_cells hTr hEr
      subst hvsr
      have hvlr := hTdr.leaf
      try simp (disch := omega) only [go_sem, ↓reduceIte, Nat.reduceEqDiff, reduceCtorEq, Nat.reduceAdd, Nat.reduceLeDiff, Nat.reduceMul, Int.reduceNeg, Int.reduceLT, Int.reduceAdd, Int.reduceSub, get_new, set_new, solid_of hvlr, cells_of hvlr, setV, hvlr, List.all_cons, List.all_nil, Bool.and_true, Bool.and_self]
      intro g11_3 hg11_3
      refine hK14 _ ?_
      refine vc_seq fun K15 hK15 => ?_
      refine vc_seq fun K16 hK16 => ?_
      have hTxq := hTx.lt
      have hTyq := hTy.lt
      have hTrq := hTr.lt
      have hTx := hTx.more (.row g11_3 0 3 3 [[V.t (.int .i64 (ap l e).kind), V.t (.str (ap l e).name), vr]])
      have hTy := hTy.keep (σ' := _ ++ [.row g11_3 0 3 3 [[V.t (.int .i64 (ap l e).kind), V.t (.str (ap l e).name), vr]]]) (fun r hr => get_old (hTy.lt r hr))
      have hTr := hTr.more (.row g11_3 0 3 3 [[V.t (.int .i64 (ap l e).kind), V.t (.str (ap l e).name), vr]])
      have hbA := (get_old (o := .row g11_3 0 3 3 [[V.t (.int .i64 (ap l e).kind), V.t (.str (ap l e).name), vr]]) (List.getElem?_eq_some_iff.1 hbA).1).trans hbA
      have hbW := (get_old (o := .row g11_3 0 3 3 [[V.t (.int .i64 (ap l e).kind), V.t (.str (ap l e).name), vr]]) (List.getElem?_eq_some_iff.1 hbW).1).trans hbW
      have hbX := (get_old (o := .row g11_3 0 3 3 [[V.t (.int .i64 (ap l e).kind), V.t (.str (ap l e).name), vr]]) (List.getElem?_eq_some_iff.1 hbX).1).trans hbX
      have hbG := get_new σ11_2 (.row g11_3 0 3 3 [[V.t (.int .i64 (ap l e).kind), V.t (.str (ap l e).name), vr]])
      have nb_hbG_x : σ11_2.length ∉ Sx := fun hx => by have := hTxq _ hx; omega
      have nb_hbG_y : σ11_2.length ∉ Sy := fun hx => by have := hTyq _ hx; omega
      have nb_hbG_r : σ11_2.length ∉ Sr := fun hx => by have := hTrq _ hx; omega
      refine vc_reg ?_
      try simp (disch := omega) only [go_sem, ↓reduceIte, Nat.reduceEqDiff, reduceCtorEq, Nat.reduceAdd, Nat.reduceLeDiff, Nat.reduceMul, Int.reduceNeg, Int.reduceLT, Int.reduceAdd, Int.reduceSub, hbA, hbW, hbX, hbG]
      refine vcX_callS (caps := []) Sr [.agg ((D.erL dsr).map V.t), .agg (List.map V.t [T.int .i64 (ap l e).kind, T.str (ap l e).name, T.sl gw cw])] _ (laws_eqExpr (ap l e) (ap l e) _ _ hEr hW (by omega) (by omega)) (by first | rfl | simp (disch := omega) only [go_sem, ↓reduceIte, Nat.reduceEqDiff, reduceCtorEq, Nat.reduceAdd, Nat.reduceLeDiff, Nat.reduceMul, Int.reduceNeg, Int.reduceLT, Int.reduceAdd, Int.reduceSub, hbA, hbW, hbX, hbG]) ?_ ?_
      · show Subs [V.loc _ [] _ (V.agg _), V.agg _] _
        exact Subs.cons (hTr.lendE rfl (fun r hr => hr)) (Subs.cons (Subs_agg_u _ _ [T.int .i64 (ap l e).kind, T.str (ap l e).name, T.sl gw cw]) (Subs.nil))
      rintro r12_2 h12_2 hh12_2 rfl -
      refine ⟨fun q hq o ho hm => by simp [V.ids, T.ids] at hm, ?_⟩
      try simp (disch := omega) only [go_sem, ↓reduceIte, Nat.reduceEqDiff, reduceCtorEq, Nat.reduceAdd, Nat.reduceLeDiff, Nat.reduceMul, Int.reduceNeg, Int.reduceLT, Int.reduceAdd, Int.reduceSub, E.eqb_self]
      refine hK16 _ ?_
      refine vc_cond (t := _) (by first | rfl | (simp (disch := omega) only [go_sem, ↓reduceIte, Nat.reduceEqDiff, reduceCtorEq, Nat.reduceAdd, Nat.reduceLeDiff, Nat.reduceMul, Int.reduceNeg, Int.reduceLT, Int.reduceAdd, Int.reduceSub]; rfl)) (fun hc3 => ?_) (fun hc3 => ?_)
      · exact absurd hc3 (by simp)
      · (try simp only [go_sem] at hc3)
        refine vc_skip ?_
        refine hK15 _ ?_
        refine vc_seq fun K17 hK17 => ?_
        refine vc_seq fun K18 hK18 => ?_
        refine vc_regD [(0, false), (1, false), (2, false), (3, false), (4, false)] (by kernel_rfl) ?_
        try simp (disch := omega) only [go_sem, ↓reduceIte, Nat.reduceEqDiff, reduceCtorEq, Nat.reduceAdd, Nat.reduceLeDiff, Nat.reduceMul, Int.reduceNeg, Int.reduceLT, Int.reduceAdd, Int.reduceSub, hbA, hbW, hbX, hbG]
        refine vcX_call _ _ (laws_toExpr e _ hc (by omega)) (by first | rfl | (simp (disch := omega) only [go_sem, ↓reduceIte, Nat.reduceEqDiff, reduceCtorEq, Nat.reduceAdd, Nat.reduceLeDiff, Nat.reduceMul, Int.reduceNeg, Int.reduceLT, Int.reduceAdd, Int.reduceSub, hbA, hbW, hbX, hbG])) (by first | rfl | (simp (disch := omega) only [go_sem, ↓reduceIte, Nat.reduceEqDiff, reduceCtorEq, Nat.reduceAdd, Nat.reduceLeDiff, Nat.reduceMul, Int.reduceNeg, Int.reduceLT, Int.reduceAdd, Int.reduceSub, hbA, hbW, hbX, hbG])) (by first | rfl | simp [V.pures, V.pure, V.pures_t]) ?_
        rintro r14_2 h14_2 hh14_2 ⟨c14, rfl, hc14⟩ -
        try simp (disch := omega) only [go_sem, ↓reduceIte, Nat.reduceEqDiff, reduceCtorEq, Nat.reduceAdd, Nat.reduceLeDiff, Nat.reduceMul, Int.reduceNeg, Int.reduceLT, Int.reduceAdd, Int.reduceSub, hbA, hbW, hbX, hbG]
        refine vcX_callS (caps := []) Sx [.agg ((D.erL dsx).map V.t), .agg (c14.map .t)] _ (laws_eqExpr e e _ _ hEx hc14 (by omega) (by omega)) (by first | rfl | simp (disch := omega) only [go_sem, ↓reduceIte, Nat.reduceEqDiff, reduceCtorEq, Nat.reduceAdd, Nat.reduceLeDiff, Nat.reduceMul, Int.reduceNeg, Int.reduceLT, Int.reduceAdd, Int.reduceSub, hbA, hbW, hbX, hbG]) ?_ ?_
        · show Subs [V.loc _ [] _ (V.agg _), V.agg _] _
          exact Subs.cons (hTx.lendE rfl (fun r hr => hr)) (Subs.cons (Subs_agg_u _ _ _) (Subs.nil))
        rintro r14_3 h14_3 hh14_3 rfl -
        refine ⟨fun q hq o ho hm => by simp [V.ids, T.ids] at hm, ?_⟩
        try simp (disch := omega) only [go_sem, ↓reduceIte, Nat.reduceEqDiff, reduceCtorEq, Nat.reduceAdd, Nat.reduceLeDiff, Nat.reduceMul, Int.reduceNeg, Int.reduceLT, Int.reduceAdd, Int.reduceSub, E.eqb_self]
        refine hK18 _ ?_
        refine vc_cond (t := _) (by first | rfl | (simp (disch := omega) only [go_sem, ↓reduceIte, Nat.reduceEqDiff, reduceCtorEq, Nat.reduceAdd, Nat.reduceLeDiff, Nat.reduceMul, Int.reduceNeg, Int.reduceLT, Int.reduceAdd, Int.reduceSub]; rfl)) (fun hc4 => ?_) (fun hc4 => ?_)
        · exact absurd hc4 (by simp)
        · (try simp only [go_sem] at hc4)
          refine vc_skip ?_
          refine hK17 _ ?_
          refine vc_seq fun K19 hK19 => ?_
          refine vc_seq fun K20 hK20 => ?_
          refine vc_reg ?_
          try simp (disch := omega) only [go_sem, ↓reduceIte, Nat.reduceEqDiff, reduceCtorEq, Nat.reduceAdd, Nat.reduceLeDiff, Nat.reduceMul, Int.reduceNeg, Int.reduceLT, Int.reduceAdd, Int.reduceSub]
          refine vcX_call _ _ (laws_toBindingS g1 l cl hl (by omega) (fun a ha c h1 => laws_toBinding a c h1 (by have := wl_mem (f := B.wt) ha; omega))) (by first | rfl | (simp (disch := omega) only [go_sem, ↓reduceIte, Nat.reduceEqDiff, reduceCtorEq, Nat.reduceAdd, Nat.reduceLeDiff, Nat.reduceMul, Int.reduceNeg, Int.reduceLT, Int.reduceAdd, Int.reduceSub])) (by first | rfl | (simp (disch := omega) only [go_sem, ↓reduceIte, Nat.reduceEqDiff, reduceCtorEq, Nat.reduceAdd, Nat.reduceLeDiff, Nat.reduceMul, Int.reduceNeg, Int.reduceLT, Int.reduceAdd, Int.reduceSub])) (by first | rfl | simp [V.pures, V.pure, V.pures_t]) ?_
          rintro r16_2 h16_2 hh16_2 ⟨g16, d16, rfl, hd16⟩ -
          try simp (disch := omega) only [go_sem, ↓reduceIte, Nat.reduceEqDiff, reduceCtorEq, Nat.reduceAdd, Nat.reduceLeDiff, Nat.reduceMul, Int.reduceNeg, Int.reduceLT, Int.reduceAdd, Int.reduceSub]
          refine vcX_callS (caps := []) Sy [.t (.sl gy cy), .t (.sl g16 d16)] _ (laws_eqBindingS gy g16 l l _ _ hRy hd16 (by omega) (by omega) (fun a ha b hb c d h1 h2 => laws_eqBinding a b c d h1 h2 (by have := wl_mem (f := B.wt) ha; omega) (by have := wl_mem (f := B.wt) hb; omega))) (by first | rfl | simp (disch := omega) only [go_sem, ↓reduceIte, Nat.reduceEqDiff, reduceCtorEq, Nat.reduceAdd, Nat.reduceLeDiff, Nat.reduceMul, Int.reduceNeg, Int.reduceLT, Int.reduceAdd, Int.reduceSub]) ?_ ?_
          · show Subs [V.loc _ [] _ vy, V.t _] _
            exact Subs.cons (hTy.lendE hEy (fun r hr => hr)) (Subs.cons (.refl _) (Subs.nil))
          rintro r16_3 h16_3 hh16_3 rfl -
          refine ⟨fun q hq o ho hm => by simp [V.ids, T.ids] at hm, ?_⟩
          try simp (disch := omega) only [go_sem, ↓reduceIte, Nat.reduceEqDiff, reduceCtorEq, Nat.reduceAdd, Nat.reduceLeDiff, Nat.reduceMul, Int.reduceNeg, Int.reduceLT, Int.reduceAdd, Int.reduceSub, eql_self B.eqb_self]
          refine hK20 _ ?_
          refine vc_cond (t := _) (by first | rfl | (simp (disch := omega) only [go_sem, ↓reduceIte, Nat.reduceEqDiff, reduceCtorEq, Nat.reduceAdd, Nat.reduceLeDiff, Nat.reduceMul, Int.reduceNeg, Int.reduceLT, Int.reduceAdd, Int.reduceSub]; rfl)) (fun hc5 => ?_) (fun hc5 => ?_)
          · exact absurd hc5 (by simp)
          · (try simp only [go_sem] at hc5)
            refine vc_skip ?_
            refine hK19 _ ?_
            refine vc_seq fun K21 hK21 => ?_
            refine vc_reg ?_
            try simp (disch := omega) only [go_sem, ↓reduceIte, Nat.reduceEqDiff, reduceCtorEq, Nat.reduceAdd, Nat.reduceLeDiff, Nat.reduceMul, Int.reduceNeg, Int.reduceLT, Int.reduceAdd, Int.reduceSub]
            refine hK21 _ ?_
            refine vc_seq fun K22 hK22 => ?_
            refine vc_reg ?_
            try simp (disch := omega) only [go_sem, ↓reduceIte, Nat.reduceEqDiff, reduceCtorEq, Nat.reduceAdd, Nat.reduceLeDiff, Nat.reduceMul, Int.reduceNeg, Int.reduceLT, Int.reduceAdd, Int.reduceSub, hbA, hbW, hbX, hbG]
            refine x_callM (laws_markExpr_M e _ 1 hEx (by omega)) (hTx) (by first | rfl | simp (disch := omega) only [go_sem, ↓reduceIte, Nat.reduceEqDiff, reduceCtorEq, Nat.reduceAdd, Nat.reduceLeDiff, Nat.reduceMul, Int.reduceNeg, Int.reduceLT, Int.reduceAdd, Int.reduceSub, hbA, hbW, hbX, hbG]) (by first | rfl | simp (disch := omega) only [go_sem, ↓reduceIte, Nat.reduceEqDiff, reduceCtorEq, Nat.reduceAdd, Nat.reduceLeDiff, Nat.reduceMul, Int.reduceNeg, Int.reduceLT, Int.reduceAdd, Int.reduceSub, hbA, hbW, hbX, hbG]) ?_
            rintro dsx σ19_2 h19_2 hTx hEx hk19_2 hl19_2 - hh19_2
            have hTy := hTy.keep (fun r hr => hk19_2 r (dj_y_x r hr))
            have hTr := hTr.keep (fun r hr => hk19_2 r (dj_r_x r hr))
            have hbA := (hk19_2 _ nb_hbA_x).trans hbA
            have hbW := (hk19_2 _ nb_hbW_x).trans hbW
            have hbX := (hk19_2 _ nb_hbX_x).trans hbX
            have hbG := (hk19_2 _ nb_hbG_x).trans hbG
            try simp (disch := omega) only [go_sem, ↓reduceIte, Nat.reduceEqDiff, reduceCtorEq, Nat.reduceAdd, Nat.reduceLeDiff, Nat.reduceMul, Int.reduceNeg, Int.reduceLT, Int.reduceAdd, Int.reduceSub, hbA, hbW, hbX, hbG]
            refine hK22 _ ?_
            refine vc_seq fun K23 hK23 => ?_
            refine vc_reg ?_
            try simp (disch := omega) only [go_sem, ↓reduceIte, Nat.reduceEqDiff, reduceCtorEq, Nat.reduceAdd, Nat.reduceLeDiff, Nat.reduceMul, Int.reduceNeg, Int.reduceLT, Int.reduceAdd, Int.reduceSub]
            refine x_callM (laws_markBindingS_M l dy gy cy (1 + 2 * E.szL e.args) hEy hRy (by omega)) (TrL_one hTy) (by first | rfl | simp (disch := omega) only [go_sem, ↓reduceIte, Nat.reduceEqDiff, reduceCtorEq, Nat.reduceAdd, Nat.reduceLeDiff, Nat.reduceMul, Int.reduceNeg, Int.reduceLT, Int.reduceAdd, Int.reduceSub]) (by first | rfl | simp (disch := omega) only [go_sem, ↓reduceIte, Nat.reduceEqDiff, reduceCtorEq, Nat.reduceAdd, Nat.reduceLeDiff, Nat.reduceMul, Int.reduceNeg, Int.reduceLT, Int.reduceAdd, Int.reduceSub]) ?_
            rintro dsy σ20_2 h20_2 hTy hEy hk20_2 hl20_2 - hh20_2
            have hTx := hTx.keep (fun r hr => hk20_2 r (dj_x_y r hr))
            have hTr := hTr.keep (fun r hr => hk20_2 r (dj_r_y r hr))
            have hbA := (hk20_2 _ nb_hbA_y).trans hbA
            have hbW := (hk20_2 _ nb_hbW_y).trans hbW
            have hbX := (hk20_2 _ nb_hbX_y).trans hbX
            have hbG := (hk20_2 _ nb_hbG_y).trans hbG
            try simp (disch := omega) only [go_sem, ↓reduceIte, Nat.reduceEqDiff, reduceCtorEq, Nat.reduceAdd, Nat.reduceLeDiff, Nat.reduceMul, Int.reduceNeg, Int.reduceLT, Int.reduceAdd, Int.reduceSub]
            refine hK23 _ ?_
            refine vc_seq fun K24 hK24 => ?_
            refine vc_seq fun K25 hK25 => ?_
            refine vc_reg ?_
            refine vcX_cut 3 fun K26 hK26 => ?_
            try simp (disch := omega) only [go_sem, ↓reduceIte, Nat.reduceEqDiff, reduceCtorEq, Nat.reduceAdd, Nat.reduceLeDiff, Nat.reduceMul, Int.reduceNeg, Int.reduceLT, Int.reduceAdd, Int.reduceSub, hbA, hbW, hbX, hbG]
            refine hK26 _ ?_
            refine vcX_bool (fun hb21_2 => ?_) (fun hb21_2 => ?_)
            · (try simp only [go_sem] at hb21_2)
              exact absurd hb21_2 (by omega)
            · (try simp only [go_sem] at hb21_2)
              try simp (disch := omega) only [go_sem, ↓reduceIte, Nat.reduceEqDiff, reduceCtorEq, Nat.reduceAdd, Nat.reduceLeDiff, Nat.reduceMul, Int.reduceNeg, Int.reduceLT, Int.reduceAdd, Int.reduceSub, hbA, hbW, hbX, hbG]
              refine vcX_callS (caps := []) Sr [.agg ((D.erL dsr).map V.t), .agg (List.map V.t [T.int .i64 (ap l e).kind, T.str (ap l e).name, T.sl gw cw])] _ (laws_eqExpr (ap l e) (ap l e) _ _ hEr hW (by omega) (by omega)) (by first | rfl | simp (disch := omega) only [go_sem, ↓reduceIte, Nat.reduceEqDiff, reduceCtorEq, Nat.reduceAdd, Nat.reduceLeDiff, Nat.reduceMul, Int.reduceNeg, Int.reduceLT, Int.reduceAdd, Int.reduceSub, hbA, hbW, hbX, hbG]) ?_ ?_
              · show Subs [V.loc _ [] _ (V.agg _), V.agg _] _
                exact Subs.cons (hTr.lendE rfl (fun r hr => hr)) (Subs.cons (Subs_agg_u _ _ [T.int .i64 (ap l e).kind, T.str (ap l e).name, T.sl gw cw]) (Subs.nil))
              rintro r21_5 h21_5 hh21_5 rfl -
              refine ⟨fun q hq o ho hm => by simp [V.ids, T.ids] at hm, ?_⟩
              try simp (disch := omega) only [go_sem, ↓reduceIte, Nat.reduceEqDiff, reduceCtorEq, Nat.reduceAdd, Nat.reduceLeDiff, Nat.reduceMul, Int.reduceNeg, Int.reduceLT, Int.reduceAdd, Int.reduceSub, E.eqb_self]
              refine hK25 _ ?_
              refine vc_cond (t := _) (by first | rfl | (simp (disch := omega) only [go_sem, ↓reduceIte, Nat.reduceEqDiff, reduceCtorEq, Nat.reduceAdd, Nat.reduceLeDiff, Nat.reduceMul, Int.reduceNeg, Int.reduceLT, Int.reduceAdd, Int.reduceSub]; rfl)) (fun hc6 => ?_) (fun hc6 => ?_)
              · exact absurd hc6 (by simp)
              · (try simp only [go_sem] at hc6)
                refine vc_skip ?_
                refine hK24 _ ?_
                refine vc_seq fun K28 hK28 => ?_
                refine vc_reg ?_
                try simp (disch := omega) only [go_sem, ↓reduceIte, Nat.reduceEqDiff, reduceCtorEq, Nat.reduceAdd, Nat.reduceLeDiff, Nat.reduceMul, Int.reduceNeg, Int.reduceLT, Int.reduceAdd, Int.reduceSub]
                refine hK28 _ ?_
                refine vc_seq fun K29 hK29 => ?_
                refine vc_reg ?_
                try simp (disch := omega) only [go_sem, ↓reduceIte, Nat.reduceEqDiff, reduceCtorEq, Nat.reduceAdd, Nat.reduceLeDiff, Nat.reduceMul, Int.reduceNeg, Int.reduceLT, Int.reduceAdd, Int.reduceSub, hbA, hbW, hbX, hbG]
                refine x_callM (laws_markExpr_M (ap l e) _ 1 hEr (by omega)) (hTr) (by first | rfl | simp (disch := omega) only [go_sem, ↓reduceIte, Nat.reduceEqDiff, reduceCtorEq, Nat.reduceAdd, Nat.reduceLeDiff, Nat.reduceMul, Int.reduceNeg, Int.reduceLT, Int.reduceAdd, Int.reduceSub, hbA, hbW, hbX, hbG]) (by first | rfl | simp (disch := omega) only [go_sem, ↓reduceIte, Nat.reduceEqDiff, reduceCtorEq, Nat.reduceAdd, Nat.reduceLeDiff, Nat.reduceMul, Int.reduceNeg, Int.reduceLT, Int.reduceAdd, Int.reduceSub, hbA, hbW, hbX, hbG]) ?_
                rintro dsr σ24_2 h24_2 hTr hEr hk24_2 hl24_2 - hh24_2
                have hTx := hTx.keep (fun r hr => hk24_2 r (dj_x_r r hr))
                have hTy := hTy.keep (fun r hr => hk24_2 r (dj_y_r r hr))
                have hbA := (hk24_2 _ nb_hbA_r).trans hbA
                have hbW := (hk24_2 _ nb_hbW_r).trans hbW
                have hbX := (hk24_2 _ nb_hbX_r).trans hbX
                have hbG := (hk24_2 _ nb_hbG_r).trans hbG
                try simp (disch := omega) only [go_sem, ↓reduceIte, Nat.reduceEqDiff, reduceCtorEq, Nat.reduceAdd, Nat.reduceLeDiff, Nat.reduceMul, Int.reduceNeg, Int.reduceLT, Int.reduceAdd, Int.reduceSub, hbA, hbW, hbX, hbG]
                refine hK29 _ ?_
                refine vc_seq fun K30 hK30 => ?_
                refine vc_reg ?_
                try simp (disch := omega) only [go_sem, ↓reduceIte, Nat.reduceEqDiff, reduceCtorEq, Nat.reduceAdd, Nat.reduceLeDiff, Nat.reduceMul, Int.reduceNeg, Int.reduceLT, Int.reduceAdd, Int.reduceSub]
                refine hK30 _ ?_
                refine vc_seq fun K31 hK31 => ?_
                refine vc_reg ?_
                try simp (disch := omega) only [go_sem, ↓reduceIte, Nat.reduceEqDiff, reduceCtorEq, Nat.reduceAdd, Nat.reduceLeDiff, Nat.reduceMul, Int.reduceNeg, Int.reduceLT, Int.reduceAdd, Int.reduceSub, hbA, hbW, hbX, hbG]
                refine vcX_callS (caps := []) Sr [.agg ((D.erL dsr).map V.t), .t (.int .i64 ((1 : Nat) : Int))] _ (laws_heldExpr (ap l e) _ 1 hEr (by omega)) (by first | rfl | simp (disch := omega) only [go_sem, ↓reduceIte, Nat.reduceEqDiff, reduceCtorEq, Nat.reduceAdd, Nat.reduceLeDiff, Nat.reduceMul, Int.reduceNeg, Int.reduceLT, Int.reduceAdd, Int.reduceSub, hbA, hbW, hbX, hbG]) ?_ ?_
                · show Subs [V.loc _ [] _ (V.agg _), V.t _] _
                  exact Subs.cons (hTr.lendE rfl (fun r hr => hr)) (Subs.cons (.refl _) (Subs.nil))
                rintro r26_2 h26_2 hh26_2 rfl -
                refine ⟨fun q hq o ho hm => by simp [V.ids, T.ids] at hm, ?_⟩
                try simp (disch := omega) only [go_sem, ↓reduceIte, Nat.reduceEqDiff, reduceCtorEq, Nat.reduceAdd, Nat.reduceLeDiff, Nat.reduceMul, Int.reduceNeg, Int.reduceLT, Int.reduceAdd, Int.reduceSub, hbA, hbW, hbX, hbG]
                refine hK31 _ ?_
                refine vc_seq fun K32 hK32 => ?_
                refine vc_seq fun K33 hK33 => ?_
                refine vc_reg ?_
                try simp (disch := omega) only [go_sem, ↓reduceIte, Nat.reduceEqDiff, reduceCtorEq, Nat.reduceAdd, Nat.reduceLeDiff, Nat.reduceMul, Int.reduceNeg, Int.reduceLT, Int.reduceAdd, Int.reduceSub]
                refine hK33 _ ?_
                refine vc_cond (t := _) (by first | rfl | (simp (disch := omega) only [go_sem, ↓reduceIte, Nat.reduceEqDiff, reduceCtorEq, Nat.reduceAdd, Nat.reduceLeDiff, Nat.reduceMul, Int.reduceNeg, Int.reduceLT, Int.reduceAdd, Int.reduceSub]; rfl)) (fun hc7 => ?_) (fun hc7 => ?_)
                · exact absurd hc7 (by first | (simp; done) | omega | (simp; omega))
                · (try simp only [go_sem] at hc7)
                  refine vc_skip ?_
                  refine hK32 _ ?_
                  refine vc_seq fun K34 hK34 => ?_
                  refine vc_seq fun K35 hK35 => ?_
                  refine vc_reg ?_
                  try simp (disch := omega) only [go_sem, ↓reduceIte, Nat.reduceEqDiff, reduceCtorEq, Nat.reduceAdd, Nat.reduceLeDiff, Nat.reduceMul, Int.reduceNeg, Int.reduceLT, Int.reduceAdd, Int.reduceSub]
                  refine hK35 _ ?_
                  refine vc_cond (t := _) (by first | rfl | (simp (disch := omega) only [go_sem, ↓reduceIte, Nat.reduceEqDiff, reduceCtorEq, Nat.reduceAdd, Nat.reduceLeDiff, Nat.reduceMul, Int.reduceNeg, Int.reduceLT, Int.reduceAdd, Int.reduceSub]; rfl)) (fun hc8 => ?_) (fun hc8 => ?_)
                  · exact absurd hc8 (by first | (simp; done) | omega | (simp; omega))
                  · (try simp only [go_sem] at hc8)
                    refine vc_skip ?_
                    refine hK34 _ ?_
                    refine vc_seq fun K36 hK36 => ?_
                    refine vc_reg ?_
                    try simp (disch := omega) only [go_sem, ↓reduceIte, Nat.reduceEqDiff, reduceCtorEq, Nat.reduceAdd, Nat.reduceLeDiff, Nat.reduceMul, Int.reduceNeg, Int.reduceLT, Int.reduceAdd, Int.reduceSub, hbA, hbW, hbX, hbG]
                    refine vcX_call _ _ (laws_toExpr e _ hc (by omega)) (by first | rfl | (simp (disch := omega) only [go_sem, ↓reduceIte, Nat.reduceEqDiff, reduceCtorEq, Nat.reduceAdd, Nat.reduceLeDiff, Nat.reduceMul, Int.reduceNeg, Int.reduceLT, Int.reduceAdd, Int.reduceSub, hbA, hbW, hbX, hbG])) (by first | rfl | (simp (disch := omega) only [go_sem, ↓reduceIte, Nat.reduceEqDiff, reduceCtorEq, Nat.reduceAdd, Nat.reduceLeDiff, Nat.reduceMul, Int.reduceNeg, Int.reduceLT, Int.reduceAdd, Int.reduceSub, hbA, hbW, hbX, hbG])) (by first | rfl | simp [V.pures, V.pure, V.pures_t]) ?_
                    rintro r31_1 h31_1 hh31_1 ⟨c31, rfl, hc31⟩ -
                    obtain ⟨g31, cs31, rfl, hcs31⟩ := E.rep_cells hc31
                    try simp (disch := omega) only [go_sem, ↓reduceIte, Nat.reduceEqDiff, reduceCtorEq, Nat.reduceAdd, Nat.reduceLeDiff, Nat.reduceMul, Int.reduceNeg, Int.reduceLT, Int.reduceAdd, Int.reduceSub, hbA, hbW, hbX, hbG]
                    refine vcX_call _ _ (laws_toBindingS g1 l cl hl (by omega) (fun a ha c h1 => laws_toBinding a c h1 (by have := wl_mem (f := B.wt) ha; omega))) (by first | rfl | (simp (disch := omega) only [go_sem, ↓reduceIte, Nat.reduceEqDiff, reduceCtorEq, Nat.reduceAdd, Nat.reduceLeDiff, Nat.reduceMul, Int.reduceNeg, Int.reduceLT, Int.reduceAdd, Int.reduceSub, hbA, hbW, hbX, hbG])) (by first | rfl | (simp (disch := omega) only [go_sem, ↓reduceIte, Nat.reduceEqDiff, reduceCtorEq, Nat.reduceAdd, Nat.reduceLeDiff, Nat.reduceMul, Int.reduceNeg, Int.reduceLT, Int.reduceAdd, Int.reduceSub, hbA, hbW, hbX, hbG])) (by first | rfl | simp [V.pures, V.pure, V.pures_t]) ?_
                    rintro r31_3 h31_3 hh31_3 ⟨g313, d313, rfl, hd313⟩ -
                    try simp (disch := omega) only [go_sem, ↓reduceIte, Nat.reduceEqDiff, reduceCtorEq, Nat.reduceAdd, Nat.reduceLeDiff, Nat.reduceMul, Int.reduceNeg, Int.reduceLT, Int.reduceAdd, Int.reduceSub, hbA, hbW, hbX, hbG]
                    refine x_callN (caps := []) [] [.agg (List.map V.t [.int .i64 e.kind, .str e.name, .sl g31 cs31]), .t (.sl g313 d313)] _ ((impl_ApplyBindings g313 l d313 hd313 hwl e _ hc31 hw).fresh (by rintro s ts ⟨h1, _⟩; exact .inr (.inl h1))) (by first | rfl | simp (disch := omega) only [go_sem, ↓reduceIte, Nat.reduceEqDiff, reduceCtorEq, Nat.reduceAdd, Nat.reduceLeDiff, Nat.reduceMul, Int.reduceNeg, Int.reduceLT, Int.reduceAdd, Int.reduceSub, hbA, hbW, hbX, hbG]) ?_ ?_
                    · exact Subs.of_eq (by first | rfl | simp (disch := omega) only [go_sem, ↓reduceIte, Nat.reduceEqDiff, reduceCtorEq, Nat.reduceAdd, Nat.reduceLeDiff, Nat.reduceMul, Int.reduceNeg, Int.reduceLT, Int.reduceAdd, Int.reduceSub, hbA, hbW, hbX, hbG])
                    rintro r31_4 h31_4 hh31_4 ⟨s, ts, rfl, rfl, hH⟩ -
                    obtain ⟨gh, ch, rfl, hch⟩ := E.rep_cells hH
                    try simp (disch := omega) only [go_sem, ↓reduceIte, Nat.reduceEqDiff, reduceCtorEq, Nat.reduceAdd, Nat.reduceLeDiff, Nat.reduceMul, Int.reduceNeg, Int.reduceLT, Int.reduceAdd, Int.reduceSub, List.map_cons, List.map_nil, Shp.v, solid_agg, isVal_agg, setV, get_new, set_new]
                    intro g31_5 hg31_5
                    refine hK36 _ ?_
                    refine vc_seq fun K37 hK37 => ?_
                    refine vc_seq fun K38 hK38 => ?_
                    have hTx := hTx.more (.row g31_5 0 3 3 [[V.t (.int .i64 (ap l e).kind), V.t (.str (ap l e).name), V.t (.sl gh ch)]])
                    have hTy := hTy.keep (σ' := _ ++ [.row g31_5 0 3 3 [[V.t (.int .i64 (ap l e).kind), V.t (.str (ap l e).name), V.t (.sl gh ch)]]]) (fun r hr => get_old (hTy.lt r hr))
                    have hTr := hTr.more (.row g31_5 0 3 3 [[V.t (.int .i64 (ap l e).kind), V.t (.str (ap l e).name), V.t (.sl gh ch)]])
                    have hbA := (get_old (o := .row g31_5 0 3 3 [[V.t (.int .i64 (ap l e).kind), V.t (.str (ap l e).name), V.t (.sl gh ch)]]) (List.getElem?_eq_some_iff.1 hbA).1).trans hbA
                    have hbW := (get_old (o := .row g31_5 0 3 3 [[V.t (.int .i64 (ap l e).kind), V.t (.str (ap l e).name), V.t (.sl gh ch)]]) (List.getElem?_eq_some_iff.1 hbW).1).trans hbW
                    have hbX := (get_old (o := .row g31_5 0 3 3 [[V.t (.int .i64 (ap l e).kind), V.t (.str (ap l e).name), V.t (.sl gh ch)]]) (List.getElem?_eq_some_iff.1 hbX).1).trans hbX
                    have hbG := (get_old (o := .row g31_5 0 3 3 [[V.t (.int .i64 (ap l e).kind), V.t (.str (ap l e).name), V.t (.sl gh ch)]]) (List.getElem?_eq_some_iff.1 hbG).1).trans hbG
                    have hbH := get_new σ24_2 (.row g31_5 0 3 3 [[V.t (.int .i64 (ap l e).kind), V.t (.str (ap l e).name), V.t (.sl gh ch)]])
                    refine vc_reg ?_
                    try simp (disch := omega) only [go_sem, ↓reduceIte, Nat.reduceEqDiff, reduceCtorEq, Nat.reduceAdd, Nat.reduceLeDiff, Nat.reduceMul, Int.reduceNeg, Int.reduceLT, Int.reduceAdd, Int.reduceSub, hbH, hbA, hbW, hbX, hbG]
                    refine vcX_call _ _ (laws_eqExpr (ap l e) (ap l e) _ _ hH hW (by omega) (by omega)) (by first | rfl | (simp (disch := omega) only [go_sem, ↓reduceIte, Nat.reduceEqDiff, reduceCtorEq, Nat.reduceAdd, Nat.reduceLeDiff, Nat.reduceMul, Int.reduceNeg, Int.reduceLT, Int.reduceAdd, Int.reduceSub, hbH, hbA, hbW, hbX, hbG])) (by first | rfl | (simp (disch := omega) only [go_sem, ↓reduceIte, Nat.reduceEqDiff, reduceCtorEq, Nat.reduceAdd, Nat.reduceLeDiff, Nat.reduceMul, Int.reduceNeg, Int.reduceLT, Int.reduceAdd, Int.reduceSub, hbH, hbA, hbW, hbX, hbG])) (by first | rfl | simp [V.pures, V.pure, V.pures_t]) ?_
                    rintro r32_2 h32_2 hh32_2 rfl -
                    try simp (disch := omega) only [go_sem, ↓reduceIte, Nat.reduceEqDiff, reduceCtorEq, Nat.reduceAdd, Nat.reduceLeDiff, Nat.reduceMul, Int.reduceNeg, Int.reduceLT, Int.reduceAdd, Int.reduceSub, E.eqb_self]
                    refine hK38 _ ?_
                    refine vc_cond (t := _) (by first | rfl | (simp (disch := omega) only [go_sem, ↓reduceIte, Nat.reduceEqDiff, reduceCtorEq, Nat.reduceAdd, Nat.reduceLeDiff, Nat.reduceMul, Int.reduceNeg, Int.reduceLT, Int.reduceAdd, Int.reduceSub]; rfl)) (fun hc9 => ?_) (fun hc9 => ?_)
                    · exact absurd hc9 (by simp)
                    · (try simp only [go_sem] at hc9)
                      refine vc_skip ?_
                      refine hK37 _ ?_
                      refine vc_seq fun K39 hK39 => ?_
                      refine vc_reg ?_
                      try simp (disch := omega) only [go_sem, ↓reduceIte, Nat.reduceEqDiff, reduceCtorEq, Nat.reduceAdd, Nat.reduceLeDiff, Nat.reduceMul, Int.reduceNeg, Int.reduceLT, Int.reduceAdd, Int.reduceSub]
                      refine hK39 _ ?_
                      refine vc_seq fun K40 hK40 => ?_
                      refine vc_reg ?_
                      try simp (disch := omega) only [go_sem, ↓reduceIte, Nat.reduceEqDiff, reduceCtorEq, Nat.reduceAdd, Nat.reduceLeDiff, Nat.reduceMul, Int.reduceNeg, Int.reduceLT, Int.reduceAdd, Int.reduceSub, hbA, hbW, hbX, hbG]
                      refine vcX_callS (caps := []) Sr [.agg ((D.erL dsr).map V.t), .t (.int .i64 ((1 : Nat) : Int))] _ (laws_heldExpr (ap l e) _ 1 hEr (by omega)) (by first | rfl | simp (disch := omega) only [go_sem, ↓reduceIte, Nat.reduceEqDiff, reduceCtorEq, Nat.reduceAdd, Nat.reduceLeDiff, Nat.reduceMul, Int.reduceNeg, Int.reduceLT, Int.reduceAdd, Int.reduceSub, hbA, hbW, hbX, hbG]) ?_ ?_
                      · show Subs [V.loc _ [] _ (V.agg _), V.t _] _
                        exact Subs.cons (hTr.lendE rfl (fun r hr => hr)) (Subs.cons (.refl _) (Subs.nil))
                      rintro r35_2 h35_2 hh35_2 rfl -
                      refine ⟨fun q hq o ho hm => by simp [V.ids, T.ids] at hm, ?_⟩
                      try simp (disch := omega) only [go_sem, ↓reduceIte, Nat.reduceEqDiff, reduceCtorEq, Nat.reduceAdd, Nat.reduceLeDiff, Nat.reduceMul, Int.reduceNeg, Int.reduceLT, Int.reduceAdd, Int.reduceSub, hbA, hbW, hbX, hbG]
                      refine hK40 _ ?_
                      refine vc_seq fun K41 hK41 => ?_
                      refine vc_seq fun K42 hK42 => ?_
                      refine vc_reg ?_
                      try simp (disch := omega) only [go_sem, ↓reduceIte, Nat.reduceEqDiff, reduceCtorEq, Nat.reduceAdd, Nat.reduceLeDiff, Nat.reduceMul, Int.reduceNeg, Int.reduceLT, Int.reduceAdd, Int.reduceSub]
                      refine hK42 _ ?_
                      refine vc_cond (t := _) (by first | rfl | (simp (disch := omega) only [go_sem, ↓reduceIte, Nat.reduceEqDiff, reduceCtorEq, Nat.reduceAdd, Nat.reduceLeDiff, Nat.reduceMul, Int.reduceNeg, Int.reduceLT, Int.reduceAdd, Int.reduceSub]; rfl)) (fun hc10 => ?_) (fun hc10 => ?_)
                      · exact absurd hc10 (by first | (simp; done) | omega | (simp; omega))
                      · (try simp only [go_sem] at hc10)
                        refine vc_skip ?_
                        refine hK41 _ ?_
                        refine vc_seq fun K43 hK43 => ?_
                        refine vc_seq fun K44 hK44 => ?_
                        refine vc_reg ?_
                        try simp (disch := omega) only [go_sem, ↓reduceIte, Nat.reduceEqDiff, reduceCtorEq, Nat.reduceAdd, Nat.reduceLeDiff, Nat.reduceMul, Int.reduceNeg, Int.reduceLT, Int.reduceAdd, Int.reduceSub]
                        refine hK44 _ ?_
                        refine vc_cond (t := _) (by first | rfl | (simp (disch := omega) only [go_sem, ↓reduceIte, Nat.reduceEqDiff, reduceCtorEq, Nat.reduceAdd, Nat.reduceLeDiff, Nat.reduceMul, Int.reduceNeg, Int.reduceLT, Int.reduceAdd, Int.reduceSub]; rfl)) (fun hc11 => ?_) (fun hc11 => ?_)
                        · exact absurd hc11 (by first | (simp; done) | omega | (simp; omega))
                        · (try simp only [go_sem] at hc11)
                          refine vc_skip ?_
                          refine hK43 _ ?_
                          refine vc_seq fun K45 hK45 => ?_
                          refine vc_reg ?_
                          try simp (disch := omega) only [go_sem, ↓reduceIte, Nat.reduceEqDiff, reduceCtorEq, Nat.reduceAdd, Nat.reduceLeDiff, Nat.reduceMul, Int.reduceNeg, Int.reduceLT, Int.reduceAdd, Int.reduceSub]
                          refine hK45 _ ?_
                          refine vc_ret ?_
                          refine ⟨_, by first | rfl | (simp only [go_sem, resQ, List.mapM_cons, List.mapM_nil, ↓reduceIte, Nat.reduceEqDiff, Nat.reduceAdd, Nat.reduceLeDiff, reduceCtorEq]; rfl), [], [], .nil, by simp, by simp, fun hi_ h1_ => ⟨?_, rfl, rfl⟩, by simp⟩
                          first | rfl | simp_all
end Go.Proofs.Ytlnfbkalpdicmaa
