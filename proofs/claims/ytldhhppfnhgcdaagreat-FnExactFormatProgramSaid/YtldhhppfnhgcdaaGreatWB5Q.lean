/- Walks through the code: each function's contract. -/
import Derived.Test.YtldhhppfnhgcdaaGreatWB4Q
set_option linter.unusedVariables false
set_option linter.unusedSimpArgs false
set_option maxRecDepth 8000
namespace Go.Proofs.YtldhhppfnhgcdaaGreat
open Go Go.VL

set_option maxHeartbeats 4000000 in
/-- spec.l5Head -/
theorem spec_l5Head (x : Ru) (c : List T) (hc : x.rep c) (hw : x.wt ≤ 1048576) : FCtr Tryz.prog 37 [.agg (c.map .t)] (fun r => r = .t (.bool (headOk x))) := by
  have hx0 := hc
  obtain ⟨gax_, gbx_, kx_, nx_, gx_, csx_, rfl, hvx_⟩ := Ru.cells hc
  have hsz := Ru.names_size hw
  have hw1 := hw
  rw [Ru.wt] at hw1
  refine Ctr.of_vc (rs := [.tmp 2]) (fn := Tryz.f37) mixed Tryz.func37 rfl rfl (by kernel_rfl) (by kernel_rfl) (by simp [Tryz.ntmps37]) (fun h0 => ?_)
  refine vc_seq fun K1 hK1 => ?_
  refine vc_reg ?_
  try simp (disch := omega) only [go_sem, ↓reduceIte, Nat.reduceEqDiff, reduceCtorEq, Nat.reduceAdd, Nat.reduceLeDiff, Nat.reduceMul, Int.reduceNeg, Int.reduceLT, Int.reduceAdd, Int.reduceSub, List.length_map]
  intro g0_0 hg0_0
  refine hK1 _ ?_
  refine vc_seq fun K2 hK2 => ?_
  refine vc_regD [(1, false), (2, false), (4, false), (5, false), (0, false), (3, false), (6, true), (7, false)] (by kernel_rfl) ?_
  try simp (disch := omega) only [go_sem, ↓reduceIte, Nat.reduceEqDiff, reduceCtorEq, Nat.reduceAdd, Nat.reduceLeDiff, Nat.reduceMul, Int.reduceNeg, Int.reduceLT, Int.reduceAdd, Int.reduceSub, List.length_map, Vs_of]
  refine .inr (vcXB0_mk (by simp [bsOk]) fun h1_0 hh1_0 => ?_)
  try simp (disch := omega) only [go_sem, ↓reduceIte, Nat.reduceEqDiff, reduceCtorEq, Nat.reduceAdd, Nat.reduceLeDiff, Nat.reduceMul, Int.reduceNeg, Int.reduceLT, Int.reduceAdd, Int.reduceSub, List.length_map, Vs_of]
  refine x_appS0 x.vs (show tElem Tryz.prog 36 = some 9 by kernel_rfl) (show tSize Tryz.prog 9 = some 1 by kernel_rfl) (show tZero Tryz.prog 9 = some [.t (.str ⟨#[]⟩)] by kernel_rfl) (show tBytes Tryz.prog 9 = some 16 by kernel_rfl) rfl (by first | rfl | (simp (disch := omega) only [go_sem, ↓reduceIte, Nat.reduceEqDiff, reduceCtorEq, Nat.reduceAdd, Nat.reduceLeDiff, Nat.reduceMul, Int.reduceNeg, Int.reduceLT, Int.reduceAdd, Int.reduceSub, List.length_map, Vs_of, appElems, St.elems])) (by simp) (by omega) ?_
  rintro v1_3 S1_3 σ1_3 h1_3 hT1_3 hk1_3 hS1_3 hh1_3
  have hhb6a : σ1_3[0]? = some (.row g0_0 0 7 7 [[V.t (.str x.nm), V.t (.str x.cn), V.t (.sl gax_ (x.vs.map fun s => [T.str s])), V.t (.sl gbx_ (x.ps.map fun s => [T.str s])), V.t (.int .i64 kx_), V.t (.str nx_), V.t (.sl gx_ csx_)]]) := (hk1_3 0 (by simp)).trans rfl
  try simp (disch := omega) only [go_sem, ↓reduceIte, Nat.reduceEqDiff, reduceCtorEq, Nat.reduceAdd, Nat.reduceLeDiff, Nat.reduceMul, Int.reduceNeg, Int.reduceLT, Int.reduceAdd, Int.reduceSub, List.length_map, Vs_of]
  refine x_appS x.ps (show tElem Tryz.prog 36 = some 9 by kernel_rfl) (show tSize Tryz.prog 9 = some 1 by kernel_rfl) (show tZero Tryz.prog 9 = some [.t (.str ⟨#[]⟩)] by kernel_rfl) (show tBytes Tryz.prog 9 = some 16 by kernel_rfl) rfl hT1_3 (by first | rfl | (simp (disch := omega) only [go_sem, ↓reduceIte, Nat.reduceEqDiff, reduceCtorEq, Nat.reduceAdd, Nat.reduceLeDiff, Nat.reduceMul, Int.reduceNeg, Int.reduceLT, Int.reduceAdd, Int.reduceSub, List.length_map, Vs_of, appElems, St.elems])) (by simp) (by omega) ?_
  rintro v1_6 S1_6 σ1_6 h1_6 hT1_6 hk1_6 hS1_6 hh1_6
  have hb6 : σ1_6[0]? = some (.row g0_0 0 7 7 [[V.t (.str x.nm), V.t (.str x.cn), V.t (.sl gax_ (x.vs.map fun s => [T.str s])), V.t (.sl gbx_ (x.ps.map fun s => [T.str s])), V.t (.int .i64 kx_), V.t (.str nx_), V.t (.sl gx_ csx_)]]) := (hk1_6 0 (List.getElem?_eq_some_iff.1 hhb6a).1 (fun h => by have := hS1_3 0 h; simp at this)).trans hhb6a
  obtain ⟨gl, hlend⟩ := hT1_6.lend
  rw [Ds_er] at hlend
  try simp (disch := omega) only [go_sem, ↓reduceIte, Nat.reduceEqDiff, reduceCtorEq, Nat.reduceAdd, Nat.reduceLeDiff, Nat.reduceMul, Int.reduceNeg, Int.reduceLT, Int.reduceAdd, Int.reduceSub, List.length_map, Vs_of]
  refine hK2 _ ?_
  refine vc_seq fun K3 hK3 => ?_
  refine vc_seq fun K4 hK4 => ?_
  refine vc_reg ?_
  refine vcX_cut 4 fun K5 hK5 => ?_
  try simp (disch := omega) only [go_sem, ↓reduceIte, Nat.reduceEqDiff, reduceCtorEq, Nat.reduceAdd, Nat.reduceLeDiff, Nat.reduceMul, Int.reduceNeg, Int.reduceLT, Int.reduceAdd, Int.reduceSub, List.length_map, hb6]
  refine hK5 _ ?_
  refine vcX_bool (fun hb2_3 => ?_) (fun hb2_3 => ?_)
  · (try simp only [go_sem] at hb2_3)
    refine vcX_cut 6 fun K7 hK7 => ?_
    try simp (disch := omega) only [go_sem, ↓reduceIte, Nat.reduceEqDiff, reduceCtorEq, Nat.reduceAdd, Nat.reduceLeDiff, Nat.reduceMul, Int.reduceNeg, Int.reduceLT, Int.reduceAdd, Int.reduceSub, List.length_map, hb6]
    refine hK7 _ ?_
    refine vcX_bool (fun hb2_9 => ?_) (fun hb2_9 => ?_)
    · (try simp only [go_sem] at hb2_9)
      try simp (disch := omega) only [go_sem, ↓reduceIte, Nat.reduceEqDiff, reduceCtorEq, Nat.reduceAdd, Nat.reduceLeDiff, Nat.reduceMul, Int.reduceNeg, Int.reduceLT, Int.reduceAdd, Int.reduceSub, List.length_map, hb6]
      refine hK4 _ ?_
      refine vc_cond (t := _) rfl (fun hc1 => ?_) (fun hc1 => ?_)
      · (try simp only [go_sem] at hc1)
        refine vc_seq fun K9 hK9 => ?_
        refine vc_reg ?_
        try simp (disch := omega) only [go_sem, ↓reduceIte, Nat.reduceEqDiff, reduceCtorEq, Nat.reduceAdd, Nat.reduceLeDiff, Nat.reduceMul, Int.reduceNeg, Int.reduceLT, Int.reduceAdd, Int.reduceSub, List.length_map]
        refine hK9 _ ?_
        refine vc_ret ?_
        refine ⟨_, by first | rfl | (simp only [go_sem, resQ, List.mapM_cons, List.mapM_nil, ↓reduceIte, Nat.reduceEqDiff, Nat.reduceAdd, Nat.reduceLeDiff, reduceCtorEq]; rfl), [], [], .nil, by simp, by simp, fun hi_ h1_ => ⟨?_, rfl, rfl⟩, by simp⟩
        first
        | (have h_ : headOk x = false := by
             rw [headOk]; first | (simp_all; done) | (simp_all; intros; omega)
           rw [h_]; rfl)
        | (have h_ : headOk x = true := by
             rw [headOk]; first | (simp_all; done) | (simp_all; intros; omega)
           rw [h_]; rfl)
        | (have h_ : headOk x = (x.vs ++ x.ps).all nameOk := by
             rw [headOk]; simp_all
           rw [h_]; rfl)
      · exact absurd hc1 (by simp)
    · (try simp only [go_sem] at hb2_9)
      refine vcX_cut 4 fun K10 hK10 => ?_
      try simp (disch := omega) only [go_sem, ↓reduceIte, Nat.reduceEqDiff, reduceCtorEq, Nat.reduceAdd, Nat.reduceLeDiff, Nat.reduceMul, Int.reduceNeg, Int.reduceLT, Int.reduceAdd, Int.reduceSub, List.length_map, hb6]
      refine hK10 _ ?_
      refine vcX_bool (fun hb2_13 => ?_) (fun hb2_13 => ?_)
      · (try simp only [go_sem] at hb2_13)
        try simp (disch := omega) only [go_sem, ↓reduceIte, Nat.reduceEqDiff, reduceCtorEq, Nat.reduceAdd, Nat.reduceLeDiff, Nat.reduceMul, Int.reduceNeg, Int.reduceLT, Int.reduceAdd, Int.reduceSub, List.length_map, hb6]
        refine vcX_call _ _ (spec_IsConName x.cn (by omega)) rfl rfl (by first | rfl | simp [V.pures, V.pure, V.pures_t]) ?_
        rintro r2_16 h2_16 hh2_16 rfl -
        try simp (disch := omega) only [go_sem, ↓reduceIte, Nat.reduceEqDiff, reduceCtorEq, Nat.reduceAdd, Nat.reduceLeDiff, Nat.reduceMul, Int.reduceNeg, Int.reduceLT, Int.reduceAdd, Int.reduceSub, List.length_map, hb6]
        refine hK4 _ ?_
        refine vc_cond (t := _) rfl (fun hc2 => ?_) (fun hc2 => ?_)
        · (try simp only [go_sem] at hc2)
          refine vc_seq fun K12 hK12 => ?_
          refine vc_reg ?_
          try simp (disch := omega) only [go_sem, ↓reduceIte, Nat.reduceEqDiff, reduceCtorEq, Nat.reduceAdd, Nat.reduceLeDiff, Nat.reduceMul, Int.reduceNeg, Int.reduceLT, Int.reduceAdd, Int.reduceSub, List.length_map]
          refine hK12 _ ?_
          refine vc_ret ?_
          refine ⟨_, by first | rfl | (simp only [go_sem, resQ, List.mapM_cons, List.mapM_nil, ↓reduceIte, Nat.reduceEqDiff, Nat.reduceAdd, Nat.reduceLeDiff, reduceCtorEq]; rfl), [], [], .nil, by simp, by simp, fun hi_ h1_ => ⟨?_, rfl, rfl⟩, by simp⟩
          first
          | (have h_ : headOk x = false := by
               rw [headOk]; first | (simp_all; done) | (simp_all; intros; omega)
             rw [h_]; rfl)
          | (have h_ : headOk x = true := by
               rw [headOk]; first | (simp_all; done) | (simp_all; intros; omega)
             rw [h_]; rfl)
          | (have h_ : headOk x = (x.vs ++ x.ps).all nameOk := by
               rw [headOk]; simp_all
             rw [h_]; rfl)
        · (try simp only [go_sem] at hc2)
          refine vc_skip ?_
          refine hK3 _ ?_
          refine vc_seq fun K13 hK13 => ?_
          refine vc_reg ?_
          refine vcX_cut 4 fun K14 hK14 => ?_
          try simp (disch := omega) only [go_sem, ↓reduceIte, Nat.reduceEqDiff, reduceCtorEq, Nat.reduceAdd, Nat.reduceLeDiff, Nat.reduceMul, Int.reduceNeg, Int.reduceLT, Int.reduceAdd, Int.reduceSub, List.length_map, hb6]
          refine vcX_call _ _ (spec_IsName x.nm (by omega)) rfl rfl (by first | rfl | simp [V.pures, V.pure, V.pures_t]) ?_
          rintro r4_2 h4_2 hh4_2 rfl -
          try simp (disch := omega) only [go_sem, ↓reduceIte, Nat.reduceEqDiff, reduceCtorEq, Nat.reduceAdd, Nat.reduceLeDiff, Nat.reduceMul, Int.reduceNeg, Int.reduceLT, Int.reduceAdd, Int.reduceSub, List.length_map, hb6]
          refine hK14 _ ?_
          refine vcX_bool (fun hb4_3 => ?_) (fun hb4_3 => ?_)
          · (try simp only [go_sem] at hb4_3)
            refine vcX_cut 6 fun K16 hK16 => ?_
            try simp (disch := omega) only [go_sem, ↓reduceIte, Nat.reduceEqDiff, reduceCtorEq, Nat.reduceAdd, Nat.reduceLeDiff, Nat.reduceMul, Int.reduceNeg, Int.reduceLT, Int.reduceAdd, Int.reduceSub, List.length_map, hb6]
            refine hK16 _ ?_
            refine vcX_bool (fun hb4_9 => ?_) (fun hb4_9 => ?_)
            · (try simp only [go_sem] at hb4_9)
              refine vcX_cut 6 fun K18 hK18 => ?_
              try simp (disch := omega) only [go_sem, ↓reduceIte, Nat.reduceEqDiff, reduceCtorEq, Nat.reduceAdd, Nat.reduceLeDiff, Nat.reduceMul, Int.reduceNeg, Int.reduceLT, Int.reduceAdd, Int.reduceSub, List.length_map, hb6]
              refine hK18 _ ?_
              refine vcX_bool (fun hb4_15 => ?_) (fun hb4_15 => ?_)
              · (try simp only [go_sem] at hb4_15)
                refine vcX_cut 4 fun K20 hK20 => ?_
                try simp (disch := omega) only [go_sem, ↓reduceIte, Nat.reduceEqDiff, reduceCtorEq, Nat.reduceAdd, Nat.reduceLeDiff, Nat.reduceMul, Int.reduceNeg, Int.reduceLT, Int.reduceAdd, Int.reduceSub, List.length_map, hb6]
                refine vcX_callS (caps := []) S1_6 [.t (.sl gl (Ts (x.vs ++ x.ps)))] _ (spec_AllDistinct gl (x.vs ++ x.ps) (by rw [List.length_append]; omega)) (by first | rfl | simp (disch := omega) only [go_sem, ↓reduceIte, Nat.reduceEqDiff, reduceCtorEq, Nat.reduceAdd, Nat.reduceLeDiff, Nat.reduceMul, Int.reduceNeg, Int.reduceLT, Int.reduceAdd, Int.reduceSub, List.length_map, hb6]) ?_ ?_
                · show Subs [V.loc _ [] S1_6 v1_6] _
                  exact Subs.cons hlend (Subs.nil)
                rintro r4_17 h4_17 hh4_17 rfl -
                refine ⟨fun q hq o ho hm => by simp [V.ids, T.ids] at hm, ?_⟩
                try simp (disch := omega) only [go_sem, ↓reduceIte, Nat.reduceEqDiff, reduceCtorEq, Nat.reduceAdd, Nat.reduceLeDiff, Nat.reduceMul, Int.reduceNeg, Int.reduceLT, Int.reduceAdd, Int.reduceSub, List.length_map, hb6]
                refine hK20 _ ?_
                refine vcX_bool (fun hb4_19 => ?_) (fun hb4_19 => ?_)
                · (try simp only [go_sem] at hb4_19)
                  try simp (disch := omega) only [go_sem, ↓reduceIte, Nat.reduceEqDiff, reduceCtorEq, Nat.reduceAdd, Nat.reduceLeDiff, Nat.reduceMul, Int.reduceNeg, Int.reduceLT, Int.reduceAdd, Int.reduceSub, List.length_map, hb6]
                  refine vcX_callS (caps := []) S1_6 [.t (.sl gl (Ts (x.vs ++ x.ps)))] _ (spec_l5Names gl (x.vs ++ x.ps) (by rw [List.length_append]; omega) hsz) (by first | rfl | simp (disch := omega) only [go_sem, ↓reduceIte, Nat.reduceEqDiff, reduceCtorEq, Nat.reduceAdd, Nat.reduceLeDiff, Nat.reduceMul, Int.reduceNeg, Int.reduceLT, Int.reduceAdd, Int.reduceSub, List.length_map, hb6]) ?_ ?_
                  · show Subs [V.loc _ [] S1_6 v1_6] _
                    exact Subs.cons hlend (Subs.nil)
                  rintro r4_21 h4_21 hh4_21 rfl -
                  refine ⟨fun q hq o ho hm => by simp [V.ids, T.ids] at hm, ?_⟩
                  try simp (disch := omega) only [go_sem, ↓reduceIte, Nat.reduceEqDiff, reduceCtorEq, Nat.reduceAdd, Nat.reduceLeDiff, Nat.reduceMul, Int.reduceNeg, Int.reduceLT, Int.reduceAdd, Int.reduceSub, List.length_map, hb6]
                  refine hK13 _ ?_
                  refine vc_ret ?_
                  refine ⟨_, by first | rfl | (simp only [go_sem, resQ, List.mapM_cons, List.mapM_nil, ↓reduceIte, Nat.reduceEqDiff, Nat.reduceAdd, Nat.reduceLeDiff, reduceCtorEq]; rfl), [], [], .nil, by simp, by simp, fun hi_ h1_ => ⟨?_, rfl, rfl⟩, by simp⟩
                  first
                  | (have h_ : headOk x = false := by
                       rw [headOk]; first | (simp_all; done) | (simp_all; intros; omega)
                     rw [h_]; rfl)
                  | (have h_ : headOk x = true := by
                       rw [headOk]; first | (simp_all; done) | (simp_all; intros; omega)
                     rw [h_]; rfl)
                  | (have h_ : headOk x = (x.vs ++ x.ps).all nameOk := by
                       rw [headOk]; simp_all
                     rw [h_]; rfl)
                · (try simp only [go_sem] at hb4_19)
                  try simp (disch := omega) only [go_sem, ↓reduceIte, Nat.reduceEqDiff, reduceCtorEq, Nat.reduceAdd, Nat.reduceLeDiff, Nat.reduceMul, Int.reduceNeg, Int.reduceLT, Int.reduceAdd, Int.reduceSub, List.length_map, hb6]
                  refine hK13 _ ?_
                  refine vc_ret ?_
                  refine ⟨_, by first | rfl | (simp only [go_sem, resQ, List.mapM_cons, List.mapM_nil, ↓reduceIte, Nat.reduceEqDiff, Nat.reduceAdd, Nat.reduceLeDiff, reduceCtorEq]; rfl), [], [], .nil, by simp, by simp, fun hi_ h1_ => ⟨?_, rfl, rfl⟩, by simp⟩
                  first
                  | (have h_ : headOk x = false := by
                       rw [headOk]; first | (simp_all; done) | (simp_all; intros; omega)
                     rw [h_]; rfl)
                  | (have h_ : headOk x = true := by
                       rw [headOk]; first | (simp_all; done) | (simp_all; intros; omega)
                     rw [h_]; rfl)
                  | (have h_ : headOk x = (x.vs ++ x.ps).all nameOk := by
                       rw [headOk]; simp_all
                     rw [h_]; rfl)
              · (try simp only [go_sem] at hb4_15)
                try simp (disch := omega) only [go_sem, ↓reduceIte, Nat.reduceEqDiff, reduceCtorEq, Nat.reduceAdd, Nat.reduceLeDiff, Nat.reduceMul, Int.reduceNeg, Int.reduceLT, Int.reduceAdd, Int.reduceSub, List.length_map, hb6]
                refine hK13 _ ?_
                refine vc_ret ?_
                refine ⟨_, by first | rfl | (simp only [go_sem, resQ, List.mapM_cons, List.mapM_nil, ↓reduceIte, Nat.reduceEqDiff, Nat.reduceAdd, Nat.reduceLeDiff, reduceCtorEq]; rfl), [], [], .nil, by simp, by simp, fun hi_ h1_ => ⟨?_, rfl, rfl⟩, by simp⟩
                first
                | (have h_ : headOk x = false := by
                     rw [headOk]; first | (simp_all; done) | (simp_all; intros; omega)
                   rw [h_]; rfl)
                | (have h_ : headOk x = true := by
                     rw [headOk]; first | (simp_all; done) | (simp_all; intros; omega)
                   rw [h_]; rfl)
                | (have h_ : headOk x = (x.vs ++ x.ps).all nameOk := by
                     rw [headOk]; simp_all
                   rw [h_]; rfl)
            · (try simp only [go_sem] at hb4_9)
              try simp (disch := omega) only [go_sem, ↓reduceIte, Nat.reduceEqDiff, reduceCtorEq, Nat.reduceAdd, Nat.reduceLeDiff, Nat.reduceMul, Int.reduceNeg, Int.reduceLT, Int.reduceAdd, Int.reduceSub, List.length_map, hb6]
              refine hK13 _ ?_
              refine vc_ret ?_
              refine ⟨_, by first | rfl | (simp only [go_sem, resQ, List.mapM_cons, List.mapM_nil, ↓reduceIte, Nat.reduceEqDiff, Nat.reduceAdd, Nat.reduceLeDiff, reduceCtorEq]; rfl), [], [], .nil, by simp, by simp, fun hi_ h1_ => ⟨?_, rfl, rfl⟩, by simp⟩
              first
              | (have h_ : headOk x = false := by
                   rw [headOk]; first | (simp_all; done) | (simp_all; intros; omega)
                 rw [h_]; rfl)
              | (have h_ : headOk x = true := by
                   rw [headOk]; first | (simp_all; done) | (simp_all; intros; omega)
                 rw [h_]; rfl)
              | (have h_ : headOk x = (x.vs ++ x.ps).all nameOk := by
                   rw [headOk]; simp_all
                 rw [h_]; rfl)
          · (try simp only [go_sem] at hb4_3)
            try simp (disch := omega) only [go_sem, ↓reduceIte, Nat.reduceEqDiff, reduceCtorEq, Nat.reduceAdd, Nat.reduceLeDiff, Nat.reduceMul, Int.reduceNeg, Int.reduceLT, Int.reduceAdd, Int.reduceSub, List.length_map, hb6]
            refine hK13 _ ?_
            refine vc_ret ?_
            refine ⟨_, by first | rfl | (simp only [go_sem, resQ, List.mapM_cons, List.mapM_nil, ↓reduceIte, Nat.reduceEqDiff, Nat.reduceAdd, Nat.reduceLeDiff, reduceCtorEq]; rfl), [], [], .nil, by simp, by simp, fun hi_ h1_ => ⟨?_, rfl, rfl⟩, by simp⟩
            first
            | (have h_ : headOk x = false := by
                 rw [headOk]; first | (simp_all; done) | (simp_all; intros; omega)
               rw [h_]; rfl)
            | (have h_ : headOk x = true := by
                 rw [headOk]; first | (simp_all; done) | (simp_all; intros; omega)
               rw [h_]; rfl)
            | (have h_ : headOk x = (x.vs ++ x.ps).all nameOk := by
                 rw [headOk]; simp_all
               rw [h_]; rfl)
      · (try simp only [go_sem] at hb2_13)
        try simp (disch := omega) only [go_sem, ↓reduceIte, Nat.reduceEqDiff, reduceCtorEq, Nat.reduceAdd, Nat.reduceLeDiff, Nat.reduceMul, Int.reduceNeg, Int.reduceLT, Int.reduceAdd, Int.reduceSub, List.length_map, hb6]
        refine hK4 _ ?_
        refine vc_cond (t := _) rfl (fun hc3 => ?_) (fun hc3 => ?_)
        · exact absurd hc3 (by simp)
        · (try simp only [go_sem] at hc3)
          refine vc_skip ?_
          refine hK3 _ ?_
          refine vc_seq fun K22 hK22 => ?_
          refine vc_reg ?_
          refine vcX_cut 4 fun K23 hK23 => ?_
          try simp (disch := omega) only [go_sem, ↓reduceIte, Nat.reduceEqDiff, reduceCtorEq, Nat.reduceAdd, Nat.reduceLeDiff, Nat.reduceMul, Int.reduceNeg, Int.reduceLT, Int.reduceAdd, Int.reduceSub, List.length_map, hb6]
          refine vcX_call _ _ (spec_IsName x.nm (by omega)) rfl rfl (by first | rfl | simp [V.pures, V.pure, V.pures_t]) ?_
          rintro r4_2 h4_2 hh4_2 rfl -
          try simp (disch := omega) only [go_sem, ↓reduceIte, Nat.reduceEqDiff, reduceCtorEq, Nat.reduceAdd, Nat.reduceLeDiff, Nat.reduceMul, Int.reduceNeg, Int.reduceLT, Int.reduceAdd, Int.reduceSub, List.length_map, hb6]
          refine hK23 _ ?_
          refine vcX_bool (fun hb4_3 => ?_) (fun hb4_3 => ?_)
          · (try simp only [go_sem] at hb4_3)
            refine vcX_cut 6 fun K25 hK25 => ?_
            try simp (disch := omega) only [go_sem, ↓reduceIte, Nat.reduceEqDiff, reduceCtorEq, Nat.reduceAdd, Nat.reduceLeDiff, Nat.reduceMul, Int.reduceNeg, Int.reduceLT, Int.reduceAdd, Int.reduceSub, List.length_map, hb6]
            refine hK25 _ ?_
            refine vcX_bool (fun hb4_9 => ?_) (fun hb4_9 => ?_)
            · (try simp only [go_sem] at hb4_9)
              refine vcX_cut 6 fun K27 hK27 => ?_
              try simp (disch := omega) only [go_sem, ↓reduceIte, Nat.reduceEqDiff, reduceCtorEq, Nat.reduceAdd, Nat.reduceLeDiff, Nat.reduceMul, Int.reduceNeg, Int.reduceLT, Int.reduceAdd, Int.reduceSub, List.length_map, hb6]
              refine hK27 _ ?_
              refine vcX_bool (fun hb4_15 => ?_) (fun hb4_15 => ?_)
              · (try simp only [go_sem] at hb4_15)
                refine vcX_cut 4 fun K29 hK29 => ?_
                try simp (disch := omega) only [go_sem, ↓reduceIte, Nat.reduceEqDiff, reduceCtorEq, Nat.reduceAdd, Nat.reduceLeDiff, Nat.reduceMul, Int.reduceNeg, Int.reduceLT, Int.reduceAdd, Int.reduceSub, List.length_map, hb6]
                refine vcX_callS (caps := []) S1_6 [.t (.sl gl (Ts (x.vs ++ x.ps)))] _ (spec_AllDistinct gl (x.vs ++ x.ps) (by rw [List.length_append]; omega)) (by first | rfl | simp (disch := omega) only [go_sem, ↓reduceIte, Nat.reduceEqDiff, reduceCtorEq, Nat.reduceAdd, Nat.reduceLeDiff, Nat.reduceMul, Int.reduceNeg, Int.reduceLT, Int.reduceAdd, Int.reduceSub, List.length_map, hb6]) ?_ ?_
                · show Subs [V.loc _ [] S1_6 v1_6] _
                  exact Subs.cons hlend (Subs.nil)
                rintro r4_17 h4_17 hh4_17 rfl -
                refine ⟨fun q hq o ho hm => by simp [V.ids, T.ids] at hm, ?_⟩
                try simp (disch := omega) only [go_sem, ↓reduceIte, Nat.reduceEqDiff, reduceCtorEq, Nat.reduceAdd, Nat.reduceLeDiff, Nat.reduceMul, Int.reduceNeg, Int.reduceLT, Int.reduceAdd, Int.reduceSub, List.length_map, hb6]
                refine hK29 _ ?_
                refine vcX_bool (fun hb4_19 => ?_) (fun hb4_19 => ?_)
                · (try simp only [go_sem] at hb4_19)
                  try simp (disch := omega) only [go_sem, ↓reduceIte, Nat.reduceEqDiff, reduceCtorEq, Nat.reduceAdd, Nat.reduceLeDiff, Nat.reduceMul, Int.reduceNeg, Int.reduceLT, Int.reduceAdd, Int.reduceSub, List.length_map, hb6]
                  refine vcX_callS (caps := []) S1_6 [.t (.sl gl (Ts (x.vs ++ x.ps)))] _ (spec_l5Names gl (x.vs ++ x.ps) (by rw [List.length_append]; omega) hsz) (by first | rfl | simp (disch := omega) only [go_sem, ↓reduceIte, Nat.reduceEqDiff, reduceCtorEq, Nat.reduceAdd, Nat.reduceLeDiff, Nat.reduceMul, Int.reduceNeg, Int.reduceLT, Int.reduceAdd, Int.reduceSub, List.length_map, hb6]) ?_ ?_
                  · show Subs [V.loc _ [] S1_6 v1_6] _
                    exact Subs.cons hlend (Subs.nil)
                  rintro r4_21 h4_21 hh4_21 rfl -
                  refine ⟨fun q hq o ho hm => by simp [V.ids, T.ids] at hm, ?_⟩
                  try simp (disch := omega) only [go_sem, ↓reduceIte, Nat.reduceEqDiff, reduceCtorEq, Nat.reduceAdd, Nat.reduceLeDiff, Nat.reduceMul, Int.reduceNeg, Int.reduceLT, Int.reduceAdd, Int.reduceSub, List.length_map, hb6]
                  refine hK22 _ ?_
                  refine vc_ret ?_
                  refine ⟨_, by first | rfl | (simp only [go_sem, resQ, List.mapM_cons, List.mapM_nil, ↓reduceIte, Nat.reduceEqDiff, Nat.reduceAdd, Nat.reduceLeDiff, reduceCtorEq]; rfl), [], [], .nil, by simp, by simp, fun hi_ h1_ => ⟨?_, rfl, rfl⟩, by simp⟩
                  first
                  | (have h_ : headOk x = false := by
                       rw [headOk]; first | (simp_all; done) | (simp_all; intros; omega)
                     rw [h_]; rfl)
                  | (have h_ : headOk x = true := by
                       rw [headOk]; first | (simp_all; done) | (simp_all; intros; omega)
                     rw [h_]; rfl)
                  | (have h_ : headOk x = (x.vs ++ x.ps).all nameOk := by
                       rw [headOk]; simp_all
                     rw [h_]; rfl)
                · (try simp only [go_sem] at hb4_19)
                  try simp (disch := omega) only [go_sem, ↓reduceIte, Nat.reduceEqDiff, reduceCtorEq, Nat.reduceAdd, Nat.reduceLeDiff, Nat.reduceMul, Int.reduceNeg, Int.reduceLT, Int.reduceAdd, Int.reduceSub, List.length_map, hb6]
                  refine hK22 _ ?_
                  refine vc_ret ?_
                  refine ⟨_, by first | rfl | (simp only [go_sem, resQ, List.mapM_cons, List.mapM_nil, ↓reduceIte, Nat.reduceEqDiff, Nat.reduceAdd, Nat.reduceLeDiff, reduceCtorEq]; rfl), [], [], .nil, by simp, by simp, fun hi_ h1_ => ⟨?_, rfl, rfl⟩, by simp⟩
                  first
                  | (have h_ : headOk x = false := by
                       rw [headOk]; first | (simp_all; done) | (simp_all; intros; omega)
                     rw [h_]; rfl)
                  | (have h_ : headOk x = true := by
                       rw [headOk]; first | (simp_all; done) | (simp_all; intros; omega)
                     rw [h_]; rfl)
                  | (have h_ : headOk x = (x.vs ++ x.ps).all nameOk := by
                       rw [headOk]; simp_all
                     rw [h_]; rfl)
              · (try simp only [go_sem] at hb4_15)
                try simp (disch := omega) only [go_sem, ↓reduceIte, Nat.reduceEqDiff, reduceCtorEq, Nat.reduceAdd, Nat.reduceLeDiff, Nat.reduceMul, Int.reduceNeg, Int.reduceLT, Int.reduceAdd, Int.reduceSub, List.length_map, hb6]
                refine hK22 _ ?_
                refine vc_ret ?_
                refine ⟨_, by first | rfl | (simp only [go_sem, resQ, List.mapM_cons, List.mapM_nil, ↓reduceIte, Nat.reduceEqDiff, Nat.reduceAdd, Nat.reduceLeDiff, reduceCtorEq]; rfl), [], [], .nil, by simp, by simp, fun hi_ h1_ => ⟨?_, rfl, rfl⟩, by simp⟩
                first
                | (have h_ : headOk x = false := by
                     rw [headOk]; first | (simp_all; done) | (simp_all; intros; omega)
                   rw [h_]; rfl)
                | (have h_ : headOk x = true := by
                     rw [headOk]; first | (simp_all; done) | (simp_all; intros; omega)
                   rw [h_]; rfl)
                | (have h_ : headOk x = (x.vs ++ x.ps).all nameOk := by
                     rw [headOk]; simp_all
                   rw [h_]; rfl)
            · (try simp only [go_sem] at hb4_9)
              try simp (disch := omega) only [go_sem, ↓reduceIte, Nat.reduceEqDiff, reduceCtorEq, Nat.reduceAdd, Nat.reduceLeDiff, Nat.reduceMul, Int.reduceNeg, Int.reduceLT, Int.reduceAdd, Int.reduceSub, List.length_map, hb6]
              refine hK22 _ ?_
              refine vc_ret ?_
              refine ⟨_, by first | rfl | (simp only [go_sem, resQ, List.mapM_cons, List.mapM_nil, ↓reduceIte, Nat.reduceEqDiff, Nat.reduceAdd, Nat.reduceLeDiff, reduceCtorEq]; rfl), [], [], .nil, by simp, by simp, fun hi_ h1_ => ⟨?_, rfl, rfl⟩, by simp⟩
              first
              | (have h_ : headOk x = false := by
                   rw [headOk]; first | (simp_all; done) | (simp_all; intros; omega)
                 rw [h_]; rfl)
              | (have h_ : headOk x = true := by
                   rw [headOk]; first | (simp_all; done) | (simp_all; intros; omega)
                 rw [h_]; rfl)
              | (have h_ : headOk x = (x.vs ++ x.ps).all nameOk := by
                   rw [headOk]; simp_all
                 rw [h_]; rfl)
          · (try simp only [go_sem] at hb4_3)
            try simp (disch := omega) only [go_sem, ↓reduceIte, Nat.reduceEqDiff, reduceCtorEq, Nat.reduceAdd, Nat.reduceLeDiff, Nat.reduceMul, Int.reduceNeg, Int.reduceLT, Int.reduceAdd, Int.reduceSub, List.length_map, hb6]
            refine hK22 _ ?_
            refine vc_ret ?_
            refine ⟨_, by first | rfl | (simp only [go_sem, resQ, List.mapM_cons, List.mapM_nil, ↓reduceIte, Nat.reduceEqDiff, Nat.reduceAdd, Nat.reduceLeDiff, reduceCtorEq]; rfl), [], [], .nil, by simp, by simp, fun hi_ h1_ => ⟨?_, rfl, rfl⟩, by simp⟩
            first
            | (have h_ : headOk x = false := by
                 rw [headOk]; first | (simp_all; done) | (simp_all; intros; omega)
               rw [h_]; rfl)
            | (have h_ : headOk x = true := by
                 rw [headOk]; first | (simp_all; done) | (simp_all; intros; omega)
               rw [h_]; rfl)
            | (have h_ : headOk x = (x.vs ++ x.ps).all nameOk := by
                 rw [headOk]; simp_all
               rw [h_]; rfl)
  · (try simp only [go_sem] at hb2_3)
    refine vcX_cut 10 fun K31 hK31 => ?_
    try simp (disch := omega) only [go_sem, ↓reduceIte, Nat.reduceEqDiff, reduceCtorEq, Nat.reduceAdd, Nat.reduceLeDiff, Nat.reduceMul, Int.reduceNeg, Int.reduceLT, Int.reduceAdd, Int.reduceSub, List.length_map, hb6]
    refine hK31 _ ?_
    refine vcX_bool (fun hb2_13 => ?_) (fun hb2_13 => ?_)
    · (try simp only [go_sem] at hb2_13)
      try simp (disch := omega) only [go_sem, ↓reduceIte, Nat.reduceEqDiff, reduceCtorEq, Nat.reduceAdd, Nat.reduceLeDiff, Nat.reduceMul, Int.reduceNeg, Int.reduceLT, Int.reduceAdd, Int.reduceSub, List.length_map, hb6]
      refine vcX_call _ _ (spec_IsConName x.cn (by omega)) rfl rfl (by first | rfl | simp [V.pures, V.pure, V.pures_t]) ?_
      rintro r2_16 h2_16 hh2_16 rfl -
      try simp (disch := omega) only [go_sem, ↓reduceIte, Nat.reduceEqDiff, reduceCtorEq, Nat.reduceAdd, Nat.reduceLeDiff, Nat.reduceMul, Int.reduceNeg, Int.reduceLT, Int.reduceAdd, Int.reduceSub, List.length_map, hb6]
      refine hK4 _ ?_
      refine vc_cond (t := _) rfl (fun hc4 => ?_) (fun hc4 => ?_)
      · (try simp only [go_sem] at hc4)
        refine vc_seq fun K33 hK33 => ?_
        refine vc_reg ?_
        try simp (disch := omega) only [go_sem, ↓reduceIte, Nat.reduceEqDiff, reduceCtorEq, Nat.reduceAdd, Nat.reduceLeDiff, Nat.reduceMul, Int.reduceNeg, Int.reduceLT, Int.reduceAdd, Int.reduceSub, List.length_map]
        refine hK33 _ ?_
        refine vc_ret ?_
        refine ⟨_, by first | rfl | (simp only [go_sem, resQ, List.mapM_cons, List.mapM_nil, ↓reduceIte, Nat.reduceEqDiff, Nat.reduceAdd, Nat.reduceLeDiff, reduceCtorEq]; rfl), [], [], .nil, by simp, by simp, fun hi_ h1_ => ⟨?_, rfl, rfl⟩, by simp⟩
        first
        | (have h_ : headOk x = false := by
             rw [headOk]; first | (simp_all; done) | (simp_all; intros; omega)
           rw [h_]; rfl)
        | (have h_ : headOk x = true := by
             rw [headOk]; first | (simp_all; done) | (simp_all; intros; omega)
           rw [h_]; rfl)
        | (have h_ : headOk x = (x.vs ++ x.ps).all nameOk := by
             rw [headOk]; simp_all
           rw [h_]; rfl)
      · (try simp only [go_sem] at hc4)
        refine vc_skip ?_
        refine hK3 _ ?_
        refine vc_seq fun K34 hK34 => ?_
        refine vc_reg ?_
        refine vcX_cut 4 fun K35 hK35 => ?_
        try simp (disch := omega) only [go_sem, ↓reduceIte, Nat.reduceEqDiff, reduceCtorEq, Nat.reduceAdd, Nat.reduceLeDiff, Nat.reduceMul, Int.reduceNeg, Int.reduceLT, Int.reduceAdd, Int.reduceSub, List.length_map, hb6]
        refine vcX_call _ _ (spec_IsName x.nm (by omega)) rfl rfl (by first | rfl | simp [V.pures, V.pure, V.pures_t]) ?_
        rintro r4_2 h4_2 hh4_2 rfl -
        try simp (disch := omega) only [go_sem, ↓reduceIte, Nat.reduceEqDiff, reduceCtorEq, Nat.reduceAdd, Nat.reduceLeDiff, Nat.reduceMul, Int.reduceNeg, Int.reduceLT, Int.reduceAdd, Int.reduceSub, List.length_map, hb6]
        refine hK35 _ ?_
        refine vcX_bool (fun hb4_3 => ?_) (fun hb4_3 => ?_)
        · (try simp only [go_sem] at hb4_3)
          refine vcX_cut 6 fun K37 hK37 => ?_
          try simp (disch := omega) only [go_sem, ↓reduceIte, Nat.reduceEqDiff, reduceCtorEq, Nat.reduceAdd, Nat.reduceLeDiff, Nat.reduceMul, Int.reduceNeg, Int.reduceLT, Int.reduceAdd, Int.reduceSub, List.length_map, hb6]
          refine hK37 _ ?_
          refine vcX_bool (fun hb4_9 => ?_) (fun hb4_9 => ?_)
          · (try simp only [go_sem] at hb4_9)
            refine vcX_cut 6 fun K39 hK39 => ?_
            try simp (disch := omega) only [go_sem, ↓reduceIte, Nat.reduceEqDiff, reduceCtorEq, Nat.reduceAdd, Nat.reduceLeDiff, Nat.reduceMul, Int.reduceNeg, Int.reduceLT, Int.reduceAdd, Int.reduceSub, List.length_map, hb6]
            refine hK39 _ ?_
            refine vcX_bool (fun hb4_15 => ?_) (fun hb4_15 => ?_)
            · (try simp only [go_sem] at hb4_15)
              refine vcX_cut 4 fun K41 hK41 => ?_
              try simp (disch := omega) only [go_sem, ↓reduceIte, Nat.reduceEqDiff, reduceCtorEq, Nat.reduceAdd, Nat.reduceLeDiff, Nat.reduceMul, Int.reduceNeg, Int.reduceLT, Int.reduceAdd, Int.reduceSub, List.length_map, hb6]
              refine vcX_callS (caps := []) S1_6 [.t (.sl gl (Ts (x.vs ++ x.ps)))] _ (spec_AllDistinct gl (x.vs ++ x.ps) (by rw [List.length_append]; omega)) (by first | rfl | simp (disch := omega) only [go_sem, ↓reduceIte, Nat.reduceEqDiff, reduceCtorEq, Nat.reduceAdd, Nat.reduceLeDiff, Nat.reduceMul, Int.reduceNeg, Int.reduceLT, Int.reduceAdd, Int.reduceSub, List.length_map, hb6]) ?_ ?_
              · show Subs [V.loc _ [] S1_6 v1_6] _
                exact Subs.cons hlend (Subs.nil)
              rintro r4_17 h4_17 hh4_17 rfl -
              refine ⟨fun q hq o ho hm => by simp [V.ids, T.ids] at hm, ?_⟩
              try simp (disch := omega) only [go_sem, ↓reduceIte, Nat.reduceEqDiff, reduceCtorEq, Nat.reduceAdd, Nat.reduceLeDiff, Nat.reduceMul, Int.reduceNeg, Int.reduceLT, Int.reduceAdd, Int.reduceSub, List.length_map, hb6]
              refine hK41 _ ?_
              refine vcX_bool (fun hb4_19 => ?_) (fun hb4_19 => ?_)
              · (try simp only [go_sem] at hb4_19)
                try simp (disch := omega) only [go_sem, ↓reduceIte, Nat.reduceEqDiff, reduceCtorEq, Nat.reduceAdd, Nat.reduceLeDiff, Nat.reduceMul, Int.reduceNeg, Int.reduceLT, Int.reduceAdd, Int.reduceSub, List.length_map, hb6]
                refine vcX_callS (caps := []) S1_6 [.t (.sl gl (Ts (x.vs ++ x.ps)))] _ (spec_l5Names gl (x.vs ++ x.ps) (by rw [List.length_append]; omega) hsz) (by first | rfl | simp (disch := omega) only [go_sem, ↓reduceIte, Nat.reduceEqDiff, reduceCtorEq, Nat.reduceAdd, Nat.reduceLeDiff, Nat.reduceMul, Int.reduceNeg, Int.reduceLT, Int.reduceAdd, Int.reduceSub, List.length_map, hb6]) ?_ ?_
                · show Subs [V.loc _ [] S1_6 v1_6] _
                  exact Subs.cons hlend (Subs.nil)
                rintro r4_21 h4_21 hh4_21 rfl -
                refine ⟨fun q hq o ho hm => by simp [V.ids, T.ids] at hm, ?_⟩
                try simp (disch := omega) only [go_sem, ↓reduceIte, Nat.reduceEqDiff, reduceCtorEq, Nat.reduceAdd, Nat.reduceLeDiff, Nat.reduceMul, Int.reduceNeg, Int.reduceLT, Int.reduceAdd, Int.reduceSub, List.length_map, hb6]
                refine hK34 _ ?_
                refine vc_ret ?_
                refine ⟨_, by first | rfl | (simp only [go_sem, resQ, List.mapM_cons, List.mapM_nil, ↓reduceIte, Nat.reduceEqDiff, Nat.reduceAdd, Nat.reduceLeDiff, reduceCtorEq]; rfl), [], [], .nil, by simp, by simp, fun hi_ h1_ => ⟨?_, rfl, rfl⟩, by simp⟩
                first
                | (have h_ : headOk x = false := by
                     rw [headOk]; first | (simp_all; done) | (simp_all; intros; omega)
                   rw [h_]; rfl)
                | (have h_ : headOk x = true := by
                     rw [headOk]; first | (simp_all; done) | (simp_all; intros; omega)
                   rw [h_]; rfl)
                | (have h_ : headOk x = (x.vs ++ x.ps).all nameOk := by
                     rw [headOk]; simp_all
                   rw [h_]; rfl)
              · (try simp only [go_sem] at hb4_19)
                try simp (disch := omega) only [go_sem, ↓reduceIte, Nat.reduceEqDiff, reduceCtorEq, Nat.reduceAdd, Nat.reduceLeDiff, Nat.reduceMul, Int.reduceNeg, Int.reduceLT, Int.reduceAdd, Int.reduceSub, List.length_map, hb6]
                refine hK34 _ ?_
                refine vc_ret ?_
                refine ⟨_, by first | rfl | (simp only [go_sem, resQ, List.mapM_cons, List.mapM_nil, ↓reduceIte, Nat.reduceEqDiff, Nat.reduceAdd, Nat.reduceLeDiff, reduceCtorEq]; rfl), [], [], .nil, by simp, by simp, fun hi_ h1_ => ⟨?_, rfl, rfl⟩, by simp⟩
                first
                | (have h_ : headOk x = false := by
                     rw [headOk]; first | (simp_all; done) | (simp_all; intros; omega)
                   rw [h_]; rfl)
                | (have h_ : headOk x = true := by
                     rw [headOk]; first | (simp_all; done) | (simp_all; intros; omega)
                   rw [h_]; rfl)
                | (have h_ : headOk x = (x.vs ++ x.ps).all nameOk := by
                     rw [headOk]; simp_all
                   rw [h_]; rfl)
            · (try simp only [go_sem] at hb4_15)
              try simp (disch := omega) only [go_sem, ↓reduceIte, Nat.reduceEqDiff, reduceCtorEq, Nat.reduceAdd, Nat.reduceLeDiff, Nat.reduceMul, Int.reduceNeg, Int.reduceLT, Int.reduceAdd, Int.reduceSub, List.length_map, hb6]
              refine hK34 _ ?_
              refine vc_ret ?_
              refine ⟨_, by first | rfl | (simp only [go_sem, resQ, List.mapM_cons, List.mapM_nil, ↓reduceIte, Nat.reduceEqDiff, Nat.reduceAdd, Nat.reduceLeDiff, reduceCtorEq]; rfl), [], [], .nil, by simp, by simp, fun hi_ h1_ => ⟨?_, rfl, rfl⟩, by simp⟩
              first
              | (have h_ : headOk x = false := by
                   rw [headOk]; first | (simp_all; done) | (simp_all; intros; omega)
                 rw [h_]; rfl)
              | (have h_ : headOk x = true := by
                   rw [headOk]; first | (simp_all; done) | (simp_all; intros; omega)
                 rw [h_]; rfl)
              | (have h_ : headOk x = (x.vs ++ x.ps).all nameOk := by
                   rw [headOk]; simp_all
                 rw [h_]; rfl)
          · (try simp only [go_sem] at hb4_9)
            try simp (disch := omega) only [go_sem, ↓reduceIte, Nat.reduceEqDiff, reduceCtorEq, Nat.reduceAdd, Nat.reduceLeDiff, Nat.reduceMul, Int.reduceNeg, Int.reduceLT, Int.reduceAdd, Int.reduceSub, List.length_map, hb6]
            refine hK34 _ ?_
            refine vc_ret ?_
            refine ⟨_, by first | rfl | (simp only [go_sem, resQ, List.mapM_cons, List.mapM_nil, ↓reduceIte, Nat.reduceEqDiff, Nat.reduceAdd, Nat.reduceLeDiff, reduceCtorEq]; rfl), [], [], .nil, by simp, by simp, fun hi_ h1_ => ⟨?_, rfl, rfl⟩, by simp⟩
            first
            | (have h_ : headOk x = false := by
                 rw [headOk]; first | (simp_all; done) | (simp_all; intros; omega)
               rw [h_]; rfl)
            | (have h_ : headOk x = true := by
                 rw [headOk]; first | (simp_all; done) | (simp_all; intros; omega)
               rw [h_]; rfl)
            | (have h_ : headOk x = (x.vs ++ x.ps).all nameOk := by
                 rw [headOk]; simp_all
               rw [h_]; rfl)
        · (try simp only [go_sem] at hb4_3)
          try simp (disch := omega) only [go_sem, ↓reduceIte, Nat.reduceEqDiff, reduceCtorEq, Nat.reduceAdd, Nat.reduceLeDiff, Nat.reduceMul, Int.reduceNeg, Int.reduceLT, Int.reduceAdd, Int.reduceSub, List.length_map, hb6]
          refine hK34 _ ?_
          refine vc_ret ?_
          refine ⟨_, by first | rfl | (simp only [go_sem, resQ, List.mapM_cons, List.mapM_nil, ↓reduceIte, Nat.reduceEqDiff, Nat.reduceAdd, Nat.reduceLeDiff, reduceCtorEq]; rfl), [], [], .nil, by simp, by simp, fun hi_ h1_ => ⟨?_, rfl, rfl⟩, by simp⟩
          first
          | (have h_ : headOk x = false := by
               rw [headOk]; first | (simp_all; done) | (simp_all; intros; omega)
             rw [h_]; rfl)
          | (have h_ : headOk x = true := by
               rw [headOk]; first | (simp_all; done) | (simp_all; intros; omega)
             rw [h_]; rfl)
          | (have h_ : headOk x = (x.vs ++ x.ps).all nameOk := by
               rw [headOk]; simp_all
             rw [h_]; rfl)
    · (try simp only [go_sem] at hb2_13)
      try simp (disch := omega) only [go_sem, ↓reduceIte, Nat.reduceEqDiff, reduceCtorEq, Nat.reduceAdd, Nat.reduceLeDiff, Nat.reduceMul, Int.reduceNeg, Int.reduceLT, Int.reduceAdd, Int.reduceSub, List.length_map, hb6]
      refine hK4 _ ?_
      refine vc_cond (t := _) rfl (fun hc5 => ?_) (fun hc5 => ?_)
      · exact absurd hc5 (by simp)
      · (try simp only [go_sem] at hc5)
        refine vc_skip ?_
        refine hK3 _ ?_
        refine vc_seq fun K43 hK43 => ?_
        refine vc_reg ?_
        refine vcX_cut 4 fun K44 hK44 => ?_
        try simp (disch := omega) only [go_sem, ↓reduceIte, Nat.reduceEqDiff, reduceCtorEq, Nat.reduceAdd, Nat.reduceLeDiff, Nat.reduceMul, Int.reduceNeg, Int.reduceLT, Int.reduceAdd, Int.reduceSub, List.length_map, hb6]
        refine vcX_call _ _ (spec_IsName x.nm (by omega)) rfl rfl (by first | rfl | simp [V.pures, V.pure, V.pures_t]) ?_
        rintro r4_2 h4_2 hh4_2 rfl -
        try simp (disch := omega) only [go_sem, ↓reduceIte, Nat.reduceEqDiff, reduceCtorEq, Nat.reduceAdd, Nat.reduceLeDiff, Nat.reduceMul, Int.reduceNeg, Int.reduceLT, Int.reduceAdd, Int.reduceSub, List.length_map, hb6]
        refine hK44 _ ?_
        refine vcX_bool (fun hb4_3 => ?_) (fun hb4_3 => ?_)
        · (try simp only [go_sem] at hb4_3)
          refine vcX_cut 6 fun K46 hK46 => ?_
          try simp (disch := omega) only [go_sem, ↓reduceIte, Nat.reduceEqDiff, reduceCtorEq, Nat.reduceAdd, Nat.reduceLeDiff, Nat.reduceMul, Int.reduceNeg, Int.reduceLT, Int.reduceAdd, Int.reduceSub, List.length_map, hb6]
          refine hK46 _ ?_
          refine vcX_bool (fun hb4_9 => ?_) (fun hb4_9 => ?_)
          · (try simp only [go_sem] at hb4_9)
            refine vcX_cut 6 fun K48 hK48 => ?_
            try simp (disch := omega) only [go_sem, ↓reduceIte, Nat.reduceEqDiff, reduceCtorEq, Nat.reduceAdd, Nat.reduceLeDiff, Nat.reduceMul, Int.reduceNeg, Int.reduceLT, Int.reduceAdd, Int.reduceSub, List.length_map, hb6]
            refine hK48 _ ?_
            refine vcX_bool (fun hb4_15 => ?_) (fun hb4_15 => ?_)
            · (try simp only [go_sem] at hb4_15)
              refine vcX_cut 4 fun K50 hK50 => ?_
              try simp (disch := omega) only [go_sem, ↓reduceIte, Nat.reduceEqDiff, reduceCtorEq, Nat.reduceAdd, Nat.reduceLeDiff, Nat.reduceMul, Int.reduceNeg, Int.reduceLT, Int.reduceAdd, Int.reduceSub, List.length_map, hb6]
              refine vcX_callS (caps := []) S1_6 [.t (.sl gl (Ts (x.vs ++ x.ps)))] _ (spec_AllDistinct gl (x.vs ++ x.ps) (by rw [List.length_append]; omega)) (by first | rfl | simp (disch := omega) only [go_sem, ↓reduceIte, Nat.reduceEqDiff, reduceCtorEq, Nat.reduceAdd, Nat.reduceLeDiff, Nat.reduceMul, Int.reduceNeg, Int.reduceLT, Int.reduceAdd, Int.reduceSub, List.length_map, hb6]) ?_ ?_
              · show Subs [V.loc _ [] S1_6 v1_6] _
                exact Subs.cons hlend (Subs.nil)
              rintro r4_17 h4_17 hh4_17 rfl -
              refine ⟨fun q hq o ho hm => by simp [V.ids, T.ids] at hm, ?_⟩
              try simp (disch := omega) only [go_sem, ↓reduceIte, Nat.reduceEqDiff, reduceCtorEq, Nat.reduceAdd, Nat.reduceLeDiff, Nat.reduceMul, Int.reduceNeg, Int.reduceLT, Int.reduceAdd, Int.reduceSub, List.length_map, hb6]
              refine hK50 _ ?_
              refine vcX_bool (fun hb4_19 => ?_) (fun hb4_19 => ?_)
              · (try simp only [go_sem] at hb4_19)
                try simp (disch := omega) only [go_sem, ↓reduceIte, Nat.reduceEqDiff, reduceCtorEq, Nat.reduceAdd, Nat.reduceLeDiff, Nat.reduceMul, Int.reduceNeg, Int.reduceLT, Int.reduceAdd, Int.reduceSub, List.length_map, hb6]
                refine vcX_callS (caps := []) S1_6 [.t (.sl gl (Ts (x.vs ++ x.ps)))] _ (spec_l5Names gl (x.vs ++ x.ps) (by rw [List.length_append]; omega) hsz) (by first | rfl | simp (disch := omega) only [go_sem, ↓reduceIte, Nat.reduceEqDiff, reduceCtorEq, Nat.reduceAdd, Nat.reduceLeDiff, Nat.reduceMul, Int.reduceNeg, Int.reduceLT, Int.reduceAdd, Int.reduceSub, List.length_map, hb6]) ?_ ?_
                · show Subs [V.loc _ [] S1_6 v1_6] _
                  exact Subs.cons hlend (Subs.nil)
                rintro r4_21 h4_21 hh4_21 rfl -
                refine ⟨fun q hq o ho hm => by simp [V.ids, T.ids] at hm, ?_⟩
                try simp (disch := omega) only [go_sem, ↓reduceIte, Nat.reduceEqDiff, reduceCtorEq, Nat.reduceAdd, Nat.reduceLeDiff, Nat.reduceMul, Int.reduceNeg, Int.reduceLT, Int.reduceAdd, Int.reduceSub, List.length_map, hb6]
                refine hK43 _ ?_
                refine vc_ret ?_
                refine ⟨_, by first | rfl | (simp only [go_sem, resQ, List.mapM_cons, List.mapM_nil, ↓reduceIte, Nat.reduceEqDiff, Nat.reduceAdd, Nat.reduceLeDiff, reduceCtorEq]; rfl), [], [], .nil, by simp, by simp, fun hi_ h1_ => ⟨?_, rfl, rfl⟩, by simp⟩
                first
                | (have h_ : headOk x = false := by
                     rw [headOk]; first | (simp_all; done) | (simp_all; intros; omega)
                   rw [h_]; rfl)
                | (have h_ : headOk x = true := by
                     rw [headOk]; first | (simp_all; done) | (simp_all; intros; omega)
                   rw [h_]; rfl)
                | (have h_ : headOk x = (x.vs ++ x.ps).all nameOk := by
                     rw [headOk]; simp_all
                   rw [h_]; rfl)
              · (try simp only [go_sem] at hb4_19)
                try simp (disch := omega) only [go_sem, ↓reduceIte, Nat.reduceEqDiff, reduceCtorEq, Nat.reduceAdd, Nat.reduceLeDiff, Nat.reduceMul, Int.reduceNeg, Int.reduceLT, Int.reduceAdd, Int.reduceSub, List.length_map, hb6]
                refine hK43 _ ?_
                refine vc_ret ?_
                refine ⟨_, by first | rfl | (simp only [go_sem, resQ, List.mapM_cons, List.mapM_nil, ↓reduceIte, Nat.reduceEqDiff, Nat.reduceAdd, Nat.reduceLeDiff, reduceCtorEq]; rfl), [], [], .nil, by simp, by simp, fun hi_ h1_ => ⟨?_, rfl, rfl⟩, by simp⟩
                first
                | (have h_ : headOk x = false := by
                     rw [headOk]; first | (simp_all; done) | (simp_all; intros; omega)
                   rw [h_]; rfl)
                | (have h_ : headOk x = true := by
                     rw [headOk]; first | (simp_all; done) | (simp_all; intros; omega)
                   rw [h_]; rfl)
                | (have h_ : headOk x = (x.vs ++ x.ps).all nameOk := by
                     rw [headOk]; simp_all
                   rw [h_]; rfl)
            · (try simp only [go_sem] at hb4_15)
              try simp (disch := omega) only [go_sem, ↓reduceIte, Nat.reduceEqDiff, reduceCtorEq, Nat.reduceAdd, Nat.reduceLeDiff, Nat.reduceMul, Int.reduceNeg, Int.reduceLT, Int.reduceAdd, Int.reduceSub, List.length_map, hb6]
              refine hK43 _ ?_
              refine vc_ret ?_
              refine ⟨_, by first | rfl | (simp only [go_sem, resQ, List.mapM_cons, List.mapM_nil, ↓reduceIte, Nat.reduceEqDiff, Nat.reduceAdd, Nat.reduceLeDiff, reduceCtorEq]; rfl), [], [], .nil, by simp, by simp, fun hi_ h1_ => ⟨?_, rfl, rfl⟩, by simp⟩
              first
              | (have h_ : headOk x = false := by
                   rw [headOk]; first | (simp_all; done) | (simp_all; intros; omega)
                 rw [h_]; rfl)
              | (have h_ : headOk x = true := by
                   rw [headOk]; first | (simp_all; done) | (simp_all; intros; omega)
                 rw [h_]; rfl)
              | (have h_ : headOk x = (x.vs ++ x.ps).all nameOk := by
                   rw [headOk]; simp_all
                 rw [h_]; rfl)
          · (try simp only [go_sem] at hb4_9)
            try simp (disch := omega) only [go_sem, ↓reduceIte, Nat.reduceEqDiff, reduceCtorEq, Nat.reduceAdd, Nat.reduceLeDiff, Nat.reduceMul, Int.reduceNeg, Int.reduceLT, Int.reduceAdd, Int.reduceSub, List.length_map, hb6]
            refine hK43 _ ?_
            refine vc_ret ?_
            refine ⟨_, by first | rfl | (simp only [go_sem, resQ, List.mapM_cons, List.mapM_nil, ↓reduceIte, Nat.reduceEqDiff, Nat.reduceAdd, Nat.reduceLeDiff, reduceCtorEq]; rfl), [], [], .nil, by simp, by simp, fun hi_ h1_ => ⟨?_, rfl, rfl⟩, by simp⟩
            first
            | (have h_ : headOk x = false := by
                 rw [headOk]; first | (simp_all; done) | (simp_all; intros; omega)
               rw [h_]; rfl)
            | (have h_ : headOk x = true := by
                 rw [headOk]; first | (simp_all; done) | (simp_all; intros; omega)
               rw [h_]; rfl)
            | (have h_ : headOk x = (x.vs ++ x.ps).all nameOk := by
                 rw [headOk]; simp_all
               rw [h_]; rfl)
        · (try simp only [go_sem] at hb4_3)
          try simp (disch := omega) only [go_sem, ↓reduceIte, Nat.reduceEqDiff, reduceCtorEq, Nat.reduceAdd, Nat.reduceLeDiff, Nat.reduceMul, Int.reduceNeg, Int.reduceLT, Int.reduceAdd, Int.reduceSub, List.length_map, hb6]
          refine hK43 _ ?_
          refine vc_ret ?_
          refine ⟨_, by first | rfl | (simp only [go_sem, resQ, List.mapM_cons, List.mapM_nil, ↓reduceIte, Nat.reduceEqDiff, Nat.reduceAdd, Nat.reduceLeDiff, reduceCtorEq]; rfl), [], [], .nil, by simp, by simp, fun hi_ h1_ => ⟨?_, rfl, rfl⟩, by simp⟩
          first
          | (have h_ : headOk x = false := by
               rw [headOk]; first | (simp_all; done) | (simp_all; intros; omega)
             rw [h_]; rfl)
          | (have h_ : headOk x = true := by
               rw [headOk]; first | (simp_all; done) | (simp_all; intros; omega)
             rw [h_]; rfl)
          | (have h_ : headOk x = (x.vs ++ x.ps).all nameOk := by
               rw [headOk]; simp_all
             rw [h_]; rfl)
end Go.Proofs.YtldhhppfnhgcdaaGreat
