/- Walks through the code: each function's contract. -/
import Derived.Test.YtlooiifgbiedeaaWA2
import Derived.Test.YtlooiifgbiedeaaWA3
import Derived.Test.YtlooiifgbiedeaaWX
import Derived.Test.YtlooiifgbiedeaaWJ
set_option linter.unusedVariables false
set_option linter.unusedSimpArgs false
set_option maxRecDepth 8000
namespace Go.Proofs.Ytlooiifgbiedeaa
open Go Go.VL

end Go.Proofs.Ytlooiifgbiedeaa
namespace Go.VL
theorem fb_small {l : List B} (s : ByteArray) (h : wl B.wt l ≤ 1048576) : ((fb s l).getD Ez).wt < 2^60 ∧ 1 + 2 * ((fb s l).getD Ez).sz ≤ 2^60 := by
  have h3 := E.sz_wt ((fb s l).getD Ez)
  have h4 : ((fb s l).getD Ez).wt ≤ 1048576 := by
    cases hf : fb s l with
    | none => rw [Option.getD_none, Ez, E.wt, E.wtL]; decide
    | some v =>
      obtain ⟨b, hb, rfl⟩ := fb_mem hf
      have h1 := wl_mem (f := B.wt) hb
      rw [B.wt] at h1
      rw [Option.getD_some]; omega
  omega
end Go.VL
namespace Go.Proofs.Ytlooiifgbiedeaa
open Go Go.VL

/-- laws.FnExactFindBinding -/
theorem laws_FnExactFindBinding (g1 : Nat) (l : List B) (cl : List (List T)) (hl : Rl B.rep l cl) (hl2 : l.length ≤ reachBytes) (hs2 : ∀ b ∈ l, b.small) (s1 : ByteArray) (hz1 : s1.size < 2^62) : FCtr Try.prog 9 [.t (.sl g1 cl), .t (.str s1)] (fun r => r = .t (.bool true)) := by
  have reach := reach47
  have hlw_ := wl_len B.wt l
  refine Ctr.of_vc (rs := [.tmp 4]) (fn := Try.f9) mixed Try.func9 rfl rfl (by kernel_rfl) (by kernel_rfl) (by simp [Try.ntmps9]) (fun h0 => ?_)
  refine vc_seq fun K1 hK1 => ?_
  refine vc_reg ?_
  try simp (disch := omega) only [go_sem, ↓reduceIte, Nat.reduceEqDiff, reduceCtorEq, Nat.reduceAdd, Nat.reduceLeDiff, Nat.reduceMul, Int.reduceNeg, Int.reduceLT, Int.reduceAdd, Int.reduceSub]
  refine hK1 _ ?_
  refine vc_seq fun K2 hK2 => ?_
  refine vc_seq fun K3 hK3 => ?_
  refine vc_reg ?_
  try simp (disch := omega) only [go_sem, ↓reduceIte, Nat.reduceEqDiff, reduceCtorEq, Nat.reduceAdd, Nat.reduceLeDiff, Nat.reduceMul, Int.reduceNeg, Int.reduceLT, Int.reduceAdd, Int.reduceSub]
  refine hK3 _ ?_
  refine vc_cond (t := _) (by first | rfl | (simp (disch := omega) only [go_sem, ↓reduceIte, Nat.reduceEqDiff, reduceCtorEq, Nat.reduceAdd, Nat.reduceLeDiff, Nat.reduceMul, Int.reduceNeg, Int.reduceLT, Int.reduceAdd, Int.reduceSub]; rfl)) (fun hc1 => ?_) (fun hc1 => ?_)
  · (try simp only [go_sem] at hc1)
    refine vc_seq fun K4 hK4 => ?_
    refine vc_reg ?_
    try simp (disch := omega) only [go_sem, ↓reduceIte, Nat.reduceEqDiff, reduceCtorEq, Nat.reduceAdd, Nat.reduceLeDiff, Nat.reduceMul, Int.reduceNeg, Int.reduceLT, Int.reduceAdd, Int.reduceSub]
    refine hK4 _ ?_
    refine vc_ret ?_
    refine ⟨_, by first | rfl | (simp only [go_sem, resQ, List.mapM_cons, List.mapM_nil, ↓reduceIte, Nat.reduceEqDiff, Nat.reduceAdd, Nat.reduceLeDiff, reduceCtorEq]; rfl), [], [], .nil, by simp, by simp, fun hi_ h1_ => ⟨?_, rfl, rfl⟩, by simp⟩
    first | rfl | simp_all
  · (try simp only [go_sem] at hc1)
    refine vc_skip ?_
    refine hK2 _ ?_
    refine vc_seq fun K5 hK5 => ?_
    refine vc_reg ?_
    try simp (disch := omega) only [go_sem, ↓reduceIte, Nat.reduceEqDiff, reduceCtorEq, Nat.reduceAdd, Nat.reduceLeDiff, Nat.reduceMul, Int.reduceNeg, Int.reduceLT, Int.reduceAdd, Int.reduceSub]
    refine hK5 _ ?_
    refine vc_seq fun K6 hK6 => ?_
    refine vc_reg ?_
    try simp (disch := omega) only [go_sem, ↓reduceIte, Nat.reduceEqDiff, reduceCtorEq, Nat.reduceAdd, Nat.reduceLeDiff, Nat.reduceMul, Int.reduceNeg, Int.reduceLT, Int.reduceAdd, Int.reduceSub]
    refine vcX_call _ _ (laws_szBindingS g1 l cl 1048576 hl hl2 (by omega) (fun a ha c N h1 h2 => laws_szBinding a c N h1 (hs2 a ha) h2)) (by first | rfl | (simp (disch := omega) only [go_sem, ↓reduceIte, Nat.reduceEqDiff, reduceCtorEq, Nat.reduceAdd, Nat.reduceLeDiff, Nat.reduceMul, Int.reduceNeg, Int.reduceLT, Int.reduceAdd, Int.reduceSub])) (by first | rfl | (simp (disch := omega) only [go_sem, ↓reduceIte, Nat.reduceEqDiff, reduceCtorEq, Nat.reduceAdd, Nat.reduceLeDiff, Nat.reduceMul, Int.reduceNeg, Int.reduceLT, Int.reduceAdd, Int.reduceSub])) (by first | rfl | simp [V.pures, V.pure, V.pures_t]) ?_
    rintro r4_2 h4_2 hh4_2 ⟨m2, rfl, hm2⟩ -
    try simp (disch := omega) only [go_sem, ↓reduceIte, Nat.reduceEqDiff, reduceCtorEq, Nat.reduceAdd, Nat.reduceLeDiff, Nat.reduceMul, Int.reduceNeg, Int.reduceLT, Int.reduceAdd, Int.reduceSub]
    refine hK6 _ ?_
    refine vc_seq fun K7 hK7 => ?_
    refine vc_seq fun K8 hK8 => ?_
    refine vc_reg ?_
    try simp (disch := omega) only [go_sem, ↓reduceIte, Nat.reduceEqDiff, reduceCtorEq, Nat.reduceAdd, Nat.reduceLeDiff, Nat.reduceMul, Int.reduceNeg, Int.reduceLT, Int.reduceAdd, Int.reduceSub]
    refine hK8 _ ?_
    refine vc_cond (t := _) (by first | rfl | (simp (disch := omega) only [go_sem, ↓reduceIte, Nat.reduceEqDiff, reduceCtorEq, Nat.reduceAdd, Nat.reduceLeDiff, Nat.reduceMul, Int.reduceNeg, Int.reduceLT, Int.reduceAdd, Int.reduceSub]; rfl)) (fun hc2 => ?_) (fun hc2 => ?_)
    · (try simp only [go_sem] at hc2)
      refine vc_seq fun K9 hK9 => ?_
      refine vc_reg ?_
      try simp (disch := omega) only [go_sem, ↓reduceIte, Nat.reduceEqDiff, reduceCtorEq, Nat.reduceAdd, Nat.reduceLeDiff, Nat.reduceMul, Int.reduceNeg, Int.reduceLT, Int.reduceAdd, Int.reduceSub]
      refine hK9 _ ?_
      refine vc_ret ?_
      refine ⟨_, by first | rfl | (simp only [go_sem, resQ, List.mapM_cons, List.mapM_nil, ↓reduceIte, Nat.reduceEqDiff, Nat.reduceAdd, Nat.reduceLeDiff, reduceCtorEq]; rfl), [], [], .nil, by simp, by simp, fun hi_ h1_ => ⟨?_, rfl, rfl⟩, by simp⟩
      first | rfl | simp_all
    · (try simp only [go_sem] at hc2)
      have hwl : wl B.wt l ≤ 1048576 := by omega
      obtain ⟨hW1, hW2⟩ := fb_small s1 hwl
      have hszW := E.sz_args ((fb s1 l).getD Ez)
      have hpl := wl_pl_wt l
      refine vc_skip ?_
      refine hK7 _ ?_
      refine vc_seq fun K10 hK10 => ?_
      refine vc_reg ?_
      try simp (disch := omega) only [go_sem, ↓reduceIte, Nat.reduceEqDiff, reduceCtorEq, Nat.reduceAdd, Nat.reduceLeDiff, Nat.reduceMul, Int.reduceNeg, Int.reduceLT, Int.reduceAdd, Int.reduceSub]
      refine vcX_call _ _ (laws_toBindingS g1 l cl hl (by omega) (fun a ha c h1 => laws_toBinding a c h1 (by have := wl_mem (f := B.wt) ha; omega))) (by first | rfl | (simp (disch := omega) only [go_sem, ↓reduceIte, Nat.reduceEqDiff, reduceCtorEq, Nat.reduceAdd, Nat.reduceLeDiff, Nat.reduceMul, Int.reduceNeg, Int.reduceLT, Int.reduceAdd, Int.reduceSub])) (by first | rfl | (simp (disch := omega) only [go_sem, ↓reduceIte, Nat.reduceEqDiff, reduceCtorEq, Nat.reduceAdd, Nat.reduceLeDiff, Nat.reduceMul, Int.reduceNeg, Int.reduceLT, Int.reduceAdd, Int.reduceSub])) (by first | rfl | simp [V.pures, V.pure, V.pures_t]) ?_
      rintro r7_1 h7_1 hh7_1 ⟨g71, d71, rfl, hd71⟩ -
      try simp (disch := omega) only [go_sem, ↓reduceIte, Nat.reduceEqDiff, reduceCtorEq, Nat.reduceAdd, Nat.reduceLeDiff, Nat.reduceMul, Int.reduceNeg, Int.reduceLT, Int.reduceAdd, Int.reduceSub]
      refine x_callN (caps := []) [] [.t (.sl g71 d71), .t (.str s1)] _ ((spec_FindBinding g71 l d71 hd71 hwl s1).fresh (by rintro s ts ⟨h1, _⟩; exact .inr (.inr ⟨_, h1⟩))) (by first | rfl | simp (disch := omega) only [go_sem, ↓reduceIte, Nat.reduceEqDiff, reduceCtorEq, Nat.reduceAdd, Nat.reduceLeDiff, Nat.reduceMul, Int.reduceNeg, Int.reduceLT, Int.reduceAdd, Int.reduceSub]) ?_ ?_
      · exact Subs.of_eq (by first | rfl | simp (disch := omega) only [go_sem, ↓reduceIte, Nat.reduceEqDiff, reduceCtorEq, Nat.reduceAdd, Nat.reduceLeDiff, Nat.reduceMul, Int.reduceNeg, Int.reduceLT, Int.reduceAdd, Int.reduceSub])
      rintro r7_3 h7_3 hh7_3 ⟨s, ts, rfl, rfl, hW⟩ -
      obtain ⟨gw, cw, rfl, hcw⟩ := E.rep_cells hW
      try simp (disch := omega) only [go_sem, ↓reduceIte, Nat.reduceEqDiff, reduceCtorEq, Nat.reduceAdd, Nat.reduceLeDiff, Nat.reduceMul, Int.reduceNeg, Int.reduceLT, Int.reduceAdd, Int.reduceSub, List.map_cons, List.map_nil, Shp.v, solid_agg, isVal_agg, setV, List.set_cons_zero, List.set_cons_succ]
      intro g7_7 hg7_7
      refine hK10 _ ?_
      refine vc_seq fun K11 hK11 => ?_
      have hbW : ([.row g7_7 0 3 3 [[V.t (.int .i64 ((fb s1 l).getD Ez).kind), V.t (.str ((fb s1 l).getD Ez).name), V.t (.sl gw cw)]]] : List Ob)[0]? = some _ := rfl
      refine vc_reg ?_
      try simp (disch := omega) only [go_sem, ↓reduceIte, Nat.reduceEqDiff, reduceCtorEq, Nat.reduceAdd, Nat.reduceLeDiff, Nat.reduceMul, Int.reduceNeg, Int.reduceLT, Int.reduceAdd, Int.reduceSub]
      refine x_callO (caps := []) [] [.t (.sl g1 cl)] _ (laws_toBindingS_o g1 l cl hl (by omega) (fun a ha' c' hc' => laws_toBinding_o a c' hc' (by have := wl_mem (f := B.wt) ha'; omega))) (by first | rfl | simp (disch := omega) only [go_sem, ↓reduceIte, Nat.reduceEqDiff, reduceCtorEq, Nat.reduceAdd, Nat.reduceLeDiff, Nat.reduceMul, Int.reduceNeg, Int.reduceLT, Int.reduceAdd, Int.reduceSub]) ?_ ?_
      · exact Subs.of_eq (by first | rfl | simp (disch := omega) only [go_sem, ↓reduceIte, Nat.reduceEqDiff, reduceCtorEq, Nat.reduceAdd, Nat.reduceLeDiff, Nat.reduceMul, Int.reduceNeg, Int.reduceLT, Int.reduceAdd, Int.reduceSub])
      rintro s dsy vsy Sy σ8_1 h8_1 ⟨rfl, gy, cy, hEy, hRy⟩ hTy hk8_1 hSy hl8_1 hh8_1
      obtain ⟨dy, vy, rfl, rfl, hTy, hEy⟩ := hTy.er_one hEy
      have nb_hbW_y : 0 ∉ Sy := fun hx => by have h1 := hSy _ hx; have h2 := (List.getElem?_eq_some_iff.1 hbW).1; omega
      have hbW := (hk8_1 _ (List.getElem?_eq_some_iff.1 hbW).1).trans hbW
      try simp (disch := omega) only [go_sem, ↓reduceIte, Nat.reduceEqDiff, reduceCtorEq, Nat.reduceAdd, Nat.reduceLeDiff, Nat.reduceMul, Int.reduceNeg, Int.reduceLT, Int.reduceAdd, Int.reduceSub, Shp.v, List.headD_cons]
      refine hK11 _ ?_
      refine vc_seq fun K12 hK12 => ?_
      refine vc_reg ?_
      try simp (disch := omega) only [go_sem, ↓reduceIte, Nat.reduceEqDiff, reduceCtorEq, Nat.reduceAdd, Nat.reduceLeDiff, Nat.reduceMul, Int.reduceNeg, Int.reduceLT, Int.reduceAdd, Int.reduceSub, hbW]
      refine x_callO (caps := []) Sy [.t (.sl gy cy), .t (.str s1)] _ (impl_FindBinding gy l cy hRy hwl s1) (by first | rfl | simp (disch := omega) only [go_sem, ↓reduceIte, Nat.reduceEqDiff, reduceCtorEq, Nat.reduceAdd, Nat.reduceLeDiff, Nat.reduceMul, Int.reduceNeg, Int.reduceLT, Int.reduceAdd, Int.reduceSub, hbW]) ?_ ?_
      · show Subs [V.loc _ [] _ vy, V.t _] _
        exact Subs.cons (hTy.lendE hEy (fun r hr => hr)) (Subs.cons (.refl _) (Subs.nil))
      rintro s dsr vsr Sr σ9_2 h9_2 ⟨rfl, hEr⟩ hTr hk9_2 hSr hl9_2 hh9_2
      have dj_r_y : ∀ r ∈ Sr, r ∉ Sy := fun r hr hx => by have h1 := hSr r hr; have h2 := hTy.lt r hx; omega
      have dj_y_r : ∀ r ∈ Sy, r ∉ Sr := fun r hr hx => dj_r_y r hx hr
      have nb_hbW_r : 0 ∉ Sr := fun hx => by have h1 := hSr _ hx; have h2 := (List.getElem?_eq_some_iff.1 hbW).1; omega
      have hTy := hTy.keep (fun r hr => hk9_2 r (hTy.lt r hr))
      have hbW := (hk9_2 _ (List.getElem?_eq_some_iff.1 hbW).1).trans hbW
      obtain ⟨dxr, vr, gxr, cxr, hdsr, hvsr, hTdr, hEdr, hRdr⟩ := E.own_cells hTr hEr
      subst hvsr
      have hvlr := hTdr.leaf
      try simp (disch := omega) only [go_sem, ↓reduceIte, Nat.reduceEqDiff, reduceCtorEq, Nat.reduceAdd, Nat.reduceLeDiff, Nat.reduceMul, Int.reduceNeg, Int.reduceLT, Int.reduceAdd, Int.reduceSub, get_new, set_new, solid_of hvlr, cells_of hvlr, setV, hvlr, List.all_cons, List.all_nil, Bool.and_true, Bool.and_self]
      intro g9_6 hg9_6
      refine hK12 _ ?_
      refine vc_seq fun K13 hK13 => ?_
      refine vc_seq fun K14 hK14 => ?_
      have hTyq := hTy.lt
      have hTrq := hTr.lt
      have hTy := hTy.keep (σ' := _ ++ [.row g9_6 0 3 3 [[V.t (.int .i64 ((fb s1 l).getD Ez).kind), V.t (.str ((fb s1 l).getD Ez).name), vr]]]) (fun r hr => get_old (hTy.lt r hr))
      have hTr := hTr.more (.row g9_6 0 3 3 [[V.t (.int .i64 ((fb s1 l).getD Ez).kind), V.t (.str ((fb s1 l).getD Ez).name), vr]])
      have hbW := (get_old (o := .row g9_6 0 3 3 [[V.t (.int .i64 ((fb s1 l).getD Ez).kind), V.t (.str ((fb s1 l).getD Ez).name), vr]]) (List.getElem?_eq_some_iff.1 hbW).1).trans hbW
      have hbG := get_new σ9_2 (.row g9_6 0 3 3 [[V.t (.int .i64 ((fb s1 l).getD Ez).kind), V.t (.str ((fb s1 l).getD Ez).name), vr]])
      have nb_hbG_y : σ9_2.length ∉ Sy := fun hx => by have := hTyq _ hx; omega
      have nb_hbG_r : σ9_2.length ∉ Sr := fun hx => by have := hTrq _ hx; omega
      refine vc_reg ?_
      refine vcX_cut 5 fun K15 hK15 => ?_
      try simp (disch := omega) only [go_sem, ↓reduceIte, Nat.reduceEqDiff, reduceCtorEq, Nat.reduceAdd, Nat.reduceLeDiff, Nat.reduceMul, Int.reduceNeg, Int.reduceLT, Int.reduceAdd, Int.reduceSub, hbW, hbG]
      refine vcX_callS (caps := []) Sr [.agg ((D.erL dsr).map V.t), .agg (List.map V.t [T.int .i64 ((fb s1 l).getD Ez).kind, T.str ((fb s1 l).getD Ez).name, T.sl gw cw])] _ (laws_eqExpr ((fb s1 l).getD Ez) ((fb s1 l).getD Ez) _ _ hEr hW (by omega) (by omega)) (by first | rfl | simp (disch := omega) only [go_sem, ↓reduceIte, Nat.reduceEqDiff, reduceCtorEq, Nat.reduceAdd, Nat.reduceLeDiff, Nat.reduceMul, Int.reduceNeg, Int.reduceLT, Int.reduceAdd, Int.reduceSub, hbW, hbG]) ?_ ?_
      · show Subs [V.loc _ [] _ (V.agg _), V.agg _] _
        exact Subs.cons (hTr.lendE rfl (fun r hr => hr)) (Subs.cons (Subs_agg_u _ _ [T.int .i64 ((fb s1 l).getD Ez).kind, T.str ((fb s1 l).getD Ez).name, T.sl gw cw]) (Subs.nil))
      rintro r10_2 h10_2 hh10_2 rfl -
      refine ⟨fun q hq o ho hm => by simp [V.ids, T.ids] at hm, ?_⟩
      try simp (disch := omega) only [go_sem, ↓reduceIte, Nat.reduceEqDiff, reduceCtorEq, Nat.reduceAdd, Nat.reduceLeDiff, Nat.reduceMul, Int.reduceNeg, Int.reduceLT, Int.reduceAdd, Int.reduceSub, E.eqb_self]
      refine hK15 _ ?_
      refine vcX_bool (fun hb10_4 => ?_) (fun hb10_4 => ?_)
      · (try simp only [go_sem] at hb10_4)
        all_goals exact absurd hb10_4 (by simp)
      · (try simp only [go_sem] at hb10_4)
        try simp (disch := omega) only [go_sem, ↓reduceIte, Nat.reduceEqDiff, reduceCtorEq, Nat.reduceAdd, Nat.reduceLeDiff, Nat.reduceMul, Int.reduceNeg, Int.reduceLT, Int.reduceAdd, Int.reduceSub, hbW, hbG]
        refine hK14 _ ?_
        refine vc_cond (t := _) (by first | rfl | (simp (disch := omega) only [go_sem, ↓reduceIte, Nat.reduceEqDiff, reduceCtorEq, Nat.reduceAdd, Nat.reduceLeDiff, Nat.reduceMul, Int.reduceNeg, Int.reduceLT, Int.reduceAdd, Int.reduceSub]; rfl)) (fun hc3 => ?_) (fun hc3 => ?_)
        · exact absurd hc3 (by simp)
        · (try simp only [go_sem] at hc3)
          refine vc_skip ?_
          refine hK13 _ ?_
          refine vc_seq fun K17 hK17 => ?_
          refine vc_seq fun K18 hK18 => ?_
          refine vc_reg ?_
          try simp (disch := omega) only [go_sem, ↓reduceIte, Nat.reduceEqDiff, reduceCtorEq, Nat.reduceAdd, Nat.reduceLeDiff, Nat.reduceMul, Int.reduceNeg, Int.reduceLT, Int.reduceAdd, Int.reduceSub]
          refine vcX_call _ _ (laws_toBindingS g1 l cl hl (by omega) (fun a ha c h1 => laws_toBinding a c h1 (by have := wl_mem (f := B.wt) ha; omega))) (by first | rfl | (simp (disch := omega) only [go_sem, ↓reduceIte, Nat.reduceEqDiff, reduceCtorEq, Nat.reduceAdd, Nat.reduceLeDiff, Nat.reduceMul, Int.reduceNeg, Int.reduceLT, Int.reduceAdd, Int.reduceSub])) (by first | rfl | (simp (disch := omega) only [go_sem, ↓reduceIte, Nat.reduceEqDiff, reduceCtorEq, Nat.reduceAdd, Nat.reduceLeDiff, Nat.reduceMul, Int.reduceNeg, Int.reduceLT, Int.reduceAdd, Int.reduceSub])) (by first | rfl | simp [V.pures, V.pure, V.pures_t]) ?_
          rintro r12_2 h12_2 hh12_2 ⟨g12, d12, rfl, hd12⟩ -
          try simp (disch := omega) only [go_sem, ↓reduceIte, Nat.reduceEqDiff, reduceCtorEq, Nat.reduceAdd, Nat.reduceLeDiff, Nat.reduceMul, Int.reduceNeg, Int.reduceLT, Int.reduceAdd, Int.reduceSub]
          refine vcX_callS (caps := []) Sy [.t (.sl gy cy), .t (.sl g12 d12)] _ (laws_eqBindingS gy g12 l l _ _ hRy hd12 (by omega) (by omega) (fun a ha b hb c d h1 h2 => laws_eqBinding a b c d h1 h2 (by have := wl_mem (f := B.wt) ha; omega) (by have := wl_mem (f := B.wt) hb; omega))) (by first | rfl | simp (disch := omega) only [go_sem, ↓reduceIte, Nat.reduceEqDiff, reduceCtorEq, Nat.reduceAdd, Nat.reduceLeDiff, Nat.reduceMul, Int.reduceNeg, Int.reduceLT, Int.reduceAdd, Int.reduceSub]) ?_ ?_
          · show Subs [V.loc _ [] _ vy, V.t _] _
            exact Subs.cons (hTy.lendE hEy (fun r hr => hr)) (Subs.cons (.refl _) (Subs.nil))
          rintro r12_3 h12_3 hh12_3 rfl -
          refine ⟨fun q hq o ho hm => by simp [V.ids, T.ids] at hm, ?_⟩
          try simp (disch := omega) only [go_sem, ↓reduceIte, Nat.reduceEqDiff, reduceCtorEq, Nat.reduceAdd, Nat.reduceLeDiff, Nat.reduceMul, Int.reduceNeg, Int.reduceLT, Int.reduceAdd, Int.reduceSub, eql_self B.eqb_self]
          refine hK18 _ ?_
          refine vc_cond (t := _) (by first | rfl | (simp (disch := omega) only [go_sem, ↓reduceIte, Nat.reduceEqDiff, reduceCtorEq, Nat.reduceAdd, Nat.reduceLeDiff, Nat.reduceMul, Int.reduceNeg, Int.reduceLT, Int.reduceAdd, Int.reduceSub]; rfl)) (fun hc4 => ?_) (fun hc4 => ?_)
          · exact absurd hc4 (by simp)
          · (try simp only [go_sem] at hc4)
            refine vc_skip ?_
            refine hK17 _ ?_
            refine vc_seq fun K19 hK19 => ?_
            refine vc_reg ?_
            try simp (disch := omega) only [go_sem, ↓reduceIte, Nat.reduceEqDiff, reduceCtorEq, Nat.reduceAdd, Nat.reduceLeDiff, Nat.reduceMul, Int.reduceNeg, Int.reduceLT, Int.reduceAdd, Int.reduceSub]
            refine hK19 _ ?_
            refine vc_seq fun K20 hK20 => ?_
            refine vc_reg ?_
            try simp (disch := omega) only [go_sem, ↓reduceIte, Nat.reduceEqDiff, reduceCtorEq, Nat.reduceAdd, Nat.reduceLeDiff, Nat.reduceMul, Int.reduceNeg, Int.reduceLT, Int.reduceAdd, Int.reduceSub]
            refine x_callM (laws_markBindingS_M l dy gy cy 1 hEy hRy (by omega)) (TrL_one hTy) (by first | rfl | simp (disch := omega) only [go_sem, ↓reduceIte, Nat.reduceEqDiff, reduceCtorEq, Nat.reduceAdd, Nat.reduceLeDiff, Nat.reduceMul, Int.reduceNeg, Int.reduceLT, Int.reduceAdd, Int.reduceSub]) (by first | rfl | simp (disch := omega) only [go_sem, ↓reduceIte, Nat.reduceEqDiff, reduceCtorEq, Nat.reduceAdd, Nat.reduceLeDiff, Nat.reduceMul, Int.reduceNeg, Int.reduceLT, Int.reduceAdd, Int.reduceSub]) ?_
            rintro dsy σ15_2 h15_2 hTy hEy hk15_2 hl15_2 - hh15_2
            have hTr := hTr.keep (fun r hr => hk15_2 r (dj_r_y r hr))
            have hbW := (hk15_2 _ nb_hbW_y).trans hbW
            have hbG := (hk15_2 _ nb_hbG_y).trans hbG
            try simp (disch := omega) only [go_sem, ↓reduceIte, Nat.reduceEqDiff, reduceCtorEq, Nat.reduceAdd, Nat.reduceLeDiff, Nat.reduceMul, Int.reduceNeg, Int.reduceLT, Int.reduceAdd, Int.reduceSub]
            refine hK20 _ ?_
            refine vc_seq fun K21 hK21 => ?_
            refine vc_seq fun K22 hK22 => ?_
            refine vc_reg ?_
            refine vcX_cut 3 fun K23 hK23 => ?_
            try simp (disch := omega) only [go_sem, ↓reduceIte, Nat.reduceEqDiff, reduceCtorEq, Nat.reduceAdd, Nat.reduceLeDiff, Nat.reduceMul, Int.reduceNeg, Int.reduceLT, Int.reduceAdd, Int.reduceSub, hbW, hbG]
            refine hK23 _ ?_
            refine vcX_bool (fun hb16_2 => ?_) (fun hb16_2 => ?_)
            · (try simp only [go_sem] at hb16_2)
              exact absurd hb16_2 (by omega)
            · (try simp only [go_sem] at hb16_2)
              refine vcX_cut 6 fun K25 hK25 => ?_
              try simp (disch := omega) only [go_sem, ↓reduceIte, Nat.reduceEqDiff, reduceCtorEq, Nat.reduceAdd, Nat.reduceLeDiff, Nat.reduceMul, Int.reduceNeg, Int.reduceLT, Int.reduceAdd, Int.reduceSub, hbW, hbG]
              refine vcX_callS (caps := []) Sr [.agg ((D.erL dsr).map V.t), .agg (List.map V.t [T.int .i64 ((fb s1 l).getD Ez).kind, T.str ((fb s1 l).getD Ez).name, T.sl gw cw])] _ (laws_eqExpr ((fb s1 l).getD Ez) ((fb s1 l).getD Ez) _ _ hEr hW (by omega) (by omega)) (by first | rfl | simp (disch := omega) only [go_sem, ↓reduceIte, Nat.reduceEqDiff, reduceCtorEq, Nat.reduceAdd, Nat.reduceLeDiff, Nat.reduceMul, Int.reduceNeg, Int.reduceLT, Int.reduceAdd, Int.reduceSub, hbW, hbG]) ?_ ?_
              · show Subs [V.loc _ [] _ (V.agg _), V.agg _] _
                exact Subs.cons (hTr.lendE rfl (fun r hr => hr)) (Subs.cons (Subs_agg_u _ _ [T.int .i64 ((fb s1 l).getD Ez).kind, T.str ((fb s1 l).getD Ez).name, T.sl gw cw]) (Subs.nil))
              rintro r16_5 h16_5 hh16_5 rfl -
              refine ⟨fun q hq o ho hm => by simp [V.ids, T.ids] at hm, ?_⟩
              try simp (disch := omega) only [go_sem, ↓reduceIte, Nat.reduceEqDiff, reduceCtorEq, Nat.reduceAdd, Nat.reduceLeDiff, Nat.reduceMul, Int.reduceNeg, Int.reduceLT, Int.reduceAdd, Int.reduceSub, E.eqb_self]
              refine hK25 _ ?_
              refine vcX_bool (fun hb16_8 => ?_) (fun hb16_8 => ?_)
              · (try simp only [go_sem] at hb16_8)
                all_goals exact absurd hb16_8 (by simp)
              · (try simp only [go_sem] at hb16_8)
                try simp (disch := omega) only [go_sem, ↓reduceIte, Nat.reduceEqDiff, reduceCtorEq, Nat.reduceAdd, Nat.reduceLeDiff, Nat.reduceMul, Int.reduceNeg, Int.reduceLT, Int.reduceAdd, Int.reduceSub, hbW, hbG]
                refine hK22 _ ?_
                refine vc_cond (t := _) (by first | rfl | (simp (disch := omega) only [go_sem, ↓reduceIte, Nat.reduceEqDiff, reduceCtorEq, Nat.reduceAdd, Nat.reduceLeDiff, Nat.reduceMul, Int.reduceNeg, Int.reduceLT, Int.reduceAdd, Int.reduceSub]; rfl)) (fun hc5 => ?_) (fun hc5 => ?_)
                · exact absurd hc5 (by simp)
                · (try simp only [go_sem] at hc5)
                  refine vc_skip ?_
                  refine hK21 _ ?_
                  refine vc_seq fun K27 hK27 => ?_
                  refine vc_reg ?_
                  try simp (disch := omega) only [go_sem, ↓reduceIte, Nat.reduceEqDiff, reduceCtorEq, Nat.reduceAdd, Nat.reduceLeDiff, Nat.reduceMul, Int.reduceNeg, Int.reduceLT, Int.reduceAdd, Int.reduceSub]
                  refine hK27 _ ?_
                  refine vc_seq fun K28 hK28 => ?_
                  refine vc_reg ?_
                  try simp (disch := omega) only [go_sem, ↓reduceIte, Nat.reduceEqDiff, reduceCtorEq, Nat.reduceAdd, Nat.reduceLeDiff, Nat.reduceMul, Int.reduceNeg, Int.reduceLT, Int.reduceAdd, Int.reduceSub, hbW, hbG]
                  refine x_callM (laws_markExpr_M ((fb s1 l).getD Ez) _ 1 hEr (by omega)) (hTr) (by first | rfl | simp (disch := omega) only [go_sem, ↓reduceIte, Nat.reduceEqDiff, reduceCtorEq, Nat.reduceAdd, Nat.reduceLeDiff, Nat.reduceMul, Int.reduceNeg, Int.reduceLT, Int.reduceAdd, Int.reduceSub, hbW, hbG]) (by first | rfl | simp (disch := omega) only [go_sem, ↓reduceIte, Nat.reduceEqDiff, reduceCtorEq, Nat.reduceAdd, Nat.reduceLeDiff, Nat.reduceMul, Int.reduceNeg, Int.reduceLT, Int.reduceAdd, Int.reduceSub, hbW, hbG]) ?_
                  rintro dsr σ19_2 h19_2 hTr hEr hk19_2 hl19_2 - hh19_2
                  have hTy := hTy.keep (fun r hr => hk19_2 r (dj_y_r r hr))
                  have hbW := (hk19_2 _ nb_hbW_r).trans hbW
                  have hbG := (hk19_2 _ nb_hbG_r).trans hbG
                  try simp (disch := omega) only [go_sem, ↓reduceIte, Nat.reduceEqDiff, reduceCtorEq, Nat.reduceAdd, Nat.reduceLeDiff, Nat.reduceMul, Int.reduceNeg, Int.reduceLT, Int.reduceAdd, Int.reduceSub, hbW, hbG]
                  refine hK28 _ ?_
                  refine vc_seq fun K29 hK29 => ?_
                  refine vc_reg ?_
                  try simp (disch := omega) only [go_sem, ↓reduceIte, Nat.reduceEqDiff, reduceCtorEq, Nat.reduceAdd, Nat.reduceLeDiff, Nat.reduceMul, Int.reduceNeg, Int.reduceLT, Int.reduceAdd, Int.reduceSub]
                  refine hK29 _ ?_
                  refine vc_seq fun K30 hK30 => ?_
                  refine vc_reg ?_
                  try simp (disch := omega) only [go_sem, ↓reduceIte, Nat.reduceEqDiff, reduceCtorEq, Nat.reduceAdd, Nat.reduceLeDiff, Nat.reduceMul, Int.reduceNeg, Int.reduceLT, Int.reduceAdd, Int.reduceSub, hbW, hbG]
                  refine vcX_callS (caps := []) Sr [.agg ((D.erL dsr).map V.t), .t (.int .i64 ((1 : Nat) : Int))] _ (laws_heldExpr ((fb s1 l).getD Ez) _ 1 hEr (by omega)) (by first | rfl | simp (disch := omega) only [go_sem, ↓reduceIte, Nat.reduceEqDiff, reduceCtorEq, Nat.reduceAdd, Nat.reduceLeDiff, Nat.reduceMul, Int.reduceNeg, Int.reduceLT, Int.reduceAdd, Int.reduceSub, hbW, hbG]) ?_ ?_
                  · show Subs [V.loc _ [] _ (V.agg _), V.t _] _
                    exact Subs.cons (hTr.lendE rfl (fun r hr => hr)) (Subs.cons (.refl _) (Subs.nil))
                  rintro r21_2 h21_2 hh21_2 rfl -
                  refine ⟨fun q hq o ho hm => by simp [V.ids, T.ids] at hm, ?_⟩
                  try simp (disch := omega) only [go_sem, ↓reduceIte, Nat.reduceEqDiff, reduceCtorEq, Nat.reduceAdd, Nat.reduceLeDiff, Nat.reduceMul, Int.reduceNeg, Int.reduceLT, Int.reduceAdd, Int.reduceSub, hbW, hbG]
                  refine hK30 _ ?_
                  refine vc_seq fun K31 hK31 => ?_
                  refine vc_seq fun K32 hK32 => ?_
                  refine vc_reg ?_
                  try simp (disch := omega) only [go_sem, ↓reduceIte, Nat.reduceEqDiff, reduceCtorEq, Nat.reduceAdd, Nat.reduceLeDiff, Nat.reduceMul, Int.reduceNeg, Int.reduceLT, Int.reduceAdd, Int.reduceSub]
                  refine hK32 _ ?_
                  refine vc_cond (t := _) (by first | rfl | (simp (disch := omega) only [go_sem, ↓reduceIte, Nat.reduceEqDiff, reduceCtorEq, Nat.reduceAdd, Nat.reduceLeDiff, Nat.reduceMul, Int.reduceNeg, Int.reduceLT, Int.reduceAdd, Int.reduceSub]; rfl)) (fun hc6 => ?_) (fun hc6 => ?_)
                  · exact absurd hc6 (by first | (simp; done) | omega | (simp; omega))
                  · (try simp only [go_sem] at hc6)
                    refine vc_skip ?_
                    refine hK31 _ ?_
                    refine vc_seq fun K33 hK33 => ?_
                    refine vc_seq fun K34 hK34 => ?_
                    refine vc_reg ?_
                    try simp (disch := omega) only [go_sem, ↓reduceIte, Nat.reduceEqDiff, reduceCtorEq, Nat.reduceAdd, Nat.reduceLeDiff, Nat.reduceMul, Int.reduceNeg, Int.reduceLT, Int.reduceAdd, Int.reduceSub]
                    refine hK34 _ ?_
                    refine vc_cond (t := _) (by first | rfl | (simp (disch := omega) only [go_sem, ↓reduceIte, Nat.reduceEqDiff, reduceCtorEq, Nat.reduceAdd, Nat.reduceLeDiff, Nat.reduceMul, Int.reduceNeg, Int.reduceLT, Int.reduceAdd, Int.reduceSub]; rfl)) (fun hc7 => ?_) (fun hc7 => ?_)
                    · exact absurd hc7 (by first | (simp; done) | omega | (simp; omega))
                    · (try simp only [go_sem] at hc7)
                      refine vc_skip ?_
                      refine hK33 _ ?_
                      refine vc_seq fun K35 hK35 => ?_
                      refine vc_reg ?_
                      try simp (disch := omega) only [go_sem, ↓reduceIte, Nat.reduceEqDiff, reduceCtorEq, Nat.reduceAdd, Nat.reduceLeDiff, Nat.reduceMul, Int.reduceNeg, Int.reduceLT, Int.reduceAdd, Int.reduceSub]
                      refine vcX_call _ _ (laws_toBindingS g1 l cl hl (by omega) (fun a ha c h1 => laws_toBinding a c h1 (by have := wl_mem (f := B.wt) ha; omega))) (by first | rfl | (simp (disch := omega) only [go_sem, ↓reduceIte, Nat.reduceEqDiff, reduceCtorEq, Nat.reduceAdd, Nat.reduceLeDiff, Nat.reduceMul, Int.reduceNeg, Int.reduceLT, Int.reduceAdd, Int.reduceSub])) (by first | rfl | (simp (disch := omega) only [go_sem, ↓reduceIte, Nat.reduceEqDiff, reduceCtorEq, Nat.reduceAdd, Nat.reduceLeDiff, Nat.reduceMul, Int.reduceNeg, Int.reduceLT, Int.reduceAdd, Int.reduceSub])) (by first | rfl | simp [V.pures, V.pure, V.pures_t]) ?_
                      rintro r26_1 h26_1 hh26_1 ⟨g261, d261, rfl, hd261⟩ -
                      try simp (disch := omega) only [go_sem, ↓reduceIte, Nat.reduceEqDiff, reduceCtorEq, Nat.reduceAdd, Nat.reduceLeDiff, Nat.reduceMul, Int.reduceNeg, Int.reduceLT, Int.reduceAdd, Int.reduceSub]
                      refine x_callN (caps := []) [] [.t (.sl g261 d261), .t (.str s1)] _ ((impl_FindBinding g261 l d261 hd261 hwl s1).fresh (by rintro s ts ⟨h1, _⟩; exact .inr (.inr ⟨_, h1⟩))) (by first | rfl | simp (disch := omega) only [go_sem, ↓reduceIte, Nat.reduceEqDiff, reduceCtorEq, Nat.reduceAdd, Nat.reduceLeDiff, Nat.reduceMul, Int.reduceNeg, Int.reduceLT, Int.reduceAdd, Int.reduceSub]) ?_ ?_
                      · exact Subs.of_eq (by first | rfl | simp (disch := omega) only [go_sem, ↓reduceIte, Nat.reduceEqDiff, reduceCtorEq, Nat.reduceAdd, Nat.reduceLeDiff, Nat.reduceMul, Int.reduceNeg, Int.reduceLT, Int.reduceAdd, Int.reduceSub])
                      rintro r26_3 h26_3 hh26_3 ⟨s, ts, rfl, rfl, hH⟩ -
                      obtain ⟨gh, ch, rfl, hch⟩ := E.rep_cells hH
                      try simp (disch := omega) only [go_sem, ↓reduceIte, Nat.reduceEqDiff, reduceCtorEq, Nat.reduceAdd, Nat.reduceLeDiff, Nat.reduceMul, Int.reduceNeg, Int.reduceLT, Int.reduceAdd, Int.reduceSub, List.map_cons, List.map_nil, Shp.v, solid_agg, isVal_agg, setV, get_new, set_new]
                      intro g26_7 hg26_7
                      refine hK35 _ ?_
                      refine vc_seq fun K36 hK36 => ?_
                      refine vc_seq fun K37 hK37 => ?_
                      have hTy := hTy.keep (σ' := _ ++ [.row g26_7 0 3 3 [[V.t (.int .i64 ((fb s1 l).getD Ez).kind), V.t (.str ((fb s1 l).getD Ez).name), V.t (.sl gh ch)]]]) (fun r hr => get_old (hTy.lt r hr))
                      have hTr := hTr.more (.row g26_7 0 3 3 [[V.t (.int .i64 ((fb s1 l).getD Ez).kind), V.t (.str ((fb s1 l).getD Ez).name), V.t (.sl gh ch)]])
                      have hbW := (get_old (o := .row g26_7 0 3 3 [[V.t (.int .i64 ((fb s1 l).getD Ez).kind), V.t (.str ((fb s1 l).getD Ez).name), V.t (.sl gh ch)]]) (List.getElem?_eq_some_iff.1 hbW).1).trans hbW
                      have hbG := (get_old (o := .row g26_7 0 3 3 [[V.t (.int .i64 ((fb s1 l).getD Ez).kind), V.t (.str ((fb s1 l).getD Ez).name), V.t (.sl gh ch)]]) (List.getElem?_eq_some_iff.1 hbG).1).trans hbG
                      have hbH := get_new σ19_2 (.row g26_7 0 3 3 [[V.t (.int .i64 ((fb s1 l).getD Ez).kind), V.t (.str ((fb s1 l).getD Ez).name), V.t (.sl gh ch)]])
                      refine vc_reg ?_
                      refine vcX_cut 5 fun K38 hK38 => ?_
                      try simp (disch := omega) only [go_sem, ↓reduceIte, Nat.reduceEqDiff, reduceCtorEq, Nat.reduceAdd, Nat.reduceLeDiff, Nat.reduceMul, Int.reduceNeg, Int.reduceLT, Int.reduceAdd, Int.reduceSub, hbH, hbW, hbG]
                      refine vcX_call _ _ (laws_eqExpr ((fb s1 l).getD Ez) ((fb s1 l).getD Ez) _ _ hH hW (by omega) (by omega)) (by first | rfl | (simp (disch := omega) only [go_sem, ↓reduceIte, Nat.reduceEqDiff, reduceCtorEq, Nat.reduceAdd, Nat.reduceLeDiff, Nat.reduceMul, Int.reduceNeg, Int.reduceLT, Int.reduceAdd, Int.reduceSub, hbH, hbW, hbG])) (by first | rfl | (simp (disch := omega) only [go_sem, ↓reduceIte, Nat.reduceEqDiff, reduceCtorEq, Nat.reduceAdd, Nat.reduceLeDiff, Nat.reduceMul, Int.reduceNeg, Int.reduceLT, Int.reduceAdd, Int.reduceSub, hbH, hbW, hbG])) (by first | rfl | simp [V.pures, V.pure, V.pures_t]) ?_
                      rintro r27_2 h27_2 hh27_2 rfl -
                      try simp (disch := omega) only [go_sem, ↓reduceIte, Nat.reduceEqDiff, reduceCtorEq, Nat.reduceAdd, Nat.reduceLeDiff, Nat.reduceMul, Int.reduceNeg, Int.reduceLT, Int.reduceAdd, Int.reduceSub, E.eqb_self]
                      refine hK38 _ ?_
                      refine vcX_bool (fun hb27_4 => ?_) (fun hb27_4 => ?_)
                      · (try simp only [go_sem] at hb27_4)
                        all_goals exact absurd hb27_4 (by simp)
                      · (try simp only [go_sem] at hb27_4)
                        try simp (disch := omega) only [go_sem, ↓reduceIte, Nat.reduceEqDiff, reduceCtorEq, Nat.reduceAdd, Nat.reduceLeDiff, Nat.reduceMul, Int.reduceNeg, Int.reduceLT, Int.reduceAdd, Int.reduceSub, hbH, hbW, hbG]
                        refine hK37 _ ?_
                        refine vc_cond (t := _) (by first | rfl | (simp (disch := omega) only [go_sem, ↓reduceIte, Nat.reduceEqDiff, reduceCtorEq, Nat.reduceAdd, Nat.reduceLeDiff, Nat.reduceMul, Int.reduceNeg, Int.reduceLT, Int.reduceAdd, Int.reduceSub]; rfl)) (fun hc8 => ?_) (fun hc8 => ?_)
                        · exact absurd hc8 (by simp)
                        · (try simp only [go_sem] at hc8)
                          refine vc_skip ?_
                          refine hK36 _ ?_
                          refine vc_seq fun K40 hK40 => ?_
                          refine vc_reg ?_
                          try simp (disch := omega) only [go_sem, ↓reduceIte, Nat.reduceEqDiff, reduceCtorEq, Nat.reduceAdd, Nat.reduceLeDiff, Nat.reduceMul, Int.reduceNeg, Int.reduceLT, Int.reduceAdd, Int.reduceSub]
                          refine hK40 _ ?_
                          refine vc_seq fun K41 hK41 => ?_
                          refine vc_reg ?_
                          try simp (disch := omega) only [go_sem, ↓reduceIte, Nat.reduceEqDiff, reduceCtorEq, Nat.reduceAdd, Nat.reduceLeDiff, Nat.reduceMul, Int.reduceNeg, Int.reduceLT, Int.reduceAdd, Int.reduceSub, hbW, hbG]
                          refine vcX_callS (caps := []) Sr [.agg ((D.erL dsr).map V.t), .t (.int .i64 ((1 : Nat) : Int))] _ (laws_heldExpr ((fb s1 l).getD Ez) _ 1 hEr (by omega)) (by first | rfl | simp (disch := omega) only [go_sem, ↓reduceIte, Nat.reduceEqDiff, reduceCtorEq, Nat.reduceAdd, Nat.reduceLeDiff, Nat.reduceMul, Int.reduceNeg, Int.reduceLT, Int.reduceAdd, Int.reduceSub, hbW, hbG]) ?_ ?_
                          · show Subs [V.loc _ [] _ (V.agg _), V.t _] _
                            exact Subs.cons (hTr.lendE rfl (fun r hr => hr)) (Subs.cons (.refl _) (Subs.nil))
                          rintro r30_2 h30_2 hh30_2 rfl -
                          refine ⟨fun q hq o ho hm => by simp [V.ids, T.ids] at hm, ?_⟩
                          try simp (disch := omega) only [go_sem, ↓reduceIte, Nat.reduceEqDiff, reduceCtorEq, Nat.reduceAdd, Nat.reduceLeDiff, Nat.reduceMul, Int.reduceNeg, Int.reduceLT, Int.reduceAdd, Int.reduceSub, hbW, hbG]
                          refine hK41 _ ?_
                          refine vc_seq fun K42 hK42 => ?_
                          refine vc_seq fun K43 hK43 => ?_
                          refine vc_reg ?_
                          try simp (disch := omega) only [go_sem, ↓reduceIte, Nat.reduceEqDiff, reduceCtorEq, Nat.reduceAdd, Nat.reduceLeDiff, Nat.reduceMul, Int.reduceNeg, Int.reduceLT, Int.reduceAdd, Int.reduceSub]
                          refine hK43 _ ?_
                          refine vc_cond (t := _) (by first | rfl | (simp (disch := omega) only [go_sem, ↓reduceIte, Nat.reduceEqDiff, reduceCtorEq, Nat.reduceAdd, Nat.reduceLeDiff, Nat.reduceMul, Int.reduceNeg, Int.reduceLT, Int.reduceAdd, Int.reduceSub]; rfl)) (fun hc9 => ?_) (fun hc9 => ?_)
                          · exact absurd hc9 (by first | (simp; done) | omega | (simp; omega))
                          · (try simp only [go_sem] at hc9)
                            refine vc_skip ?_
                            refine hK42 _ ?_
                            refine vc_seq fun K44 hK44 => ?_
                            refine vc_seq fun K45 hK45 => ?_
                            refine vc_reg ?_
                            try simp (disch := omega) only [go_sem, ↓reduceIte, Nat.reduceEqDiff, reduceCtorEq, Nat.reduceAdd, Nat.reduceLeDiff, Nat.reduceMul, Int.reduceNeg, Int.reduceLT, Int.reduceAdd, Int.reduceSub]
                            refine hK45 _ ?_
                            refine vc_cond (t := _) (by first | rfl | (simp (disch := omega) only [go_sem, ↓reduceIte, Nat.reduceEqDiff, reduceCtorEq, Nat.reduceAdd, Nat.reduceLeDiff, Nat.reduceMul, Int.reduceNeg, Int.reduceLT, Int.reduceAdd, Int.reduceSub]; rfl)) (fun hc10 => ?_) (fun hc10 => ?_)
                            · exact absurd hc10 (by first | (simp; done) | omega | (simp; omega))
                            · (try simp only [go_sem] at hc10)
                              refine vc_skip ?_
                              refine hK44 _ ?_
                              refine vc_seq fun K46 hK46 => ?_
                              refine vc_reg ?_
                              try simp (disch := omega) only [go_sem, ↓reduceIte, Nat.reduceEqDiff, reduceCtorEq, Nat.reduceAdd, Nat.reduceLeDiff, Nat.reduceMul, Int.reduceNeg, Int.reduceLT, Int.reduceAdd, Int.reduceSub]
                              refine hK46 _ ?_
                              refine vc_ret ?_
                              refine ⟨_, by first | rfl | (simp only [go_sem, resQ, List.mapM_cons, List.mapM_nil, ↓reduceIte, Nat.reduceEqDiff, Nat.reduceAdd, Nat.reduceLeDiff, reduceCtorEq]; rfl), [], [], .nil, by simp, by simp, fun hi_ h1_ => ⟨?_, rfl, rfl⟩, by simp⟩
                              first | rfl | simp_all
end Go.Proofs.Ytlooiifgbiedeaa
