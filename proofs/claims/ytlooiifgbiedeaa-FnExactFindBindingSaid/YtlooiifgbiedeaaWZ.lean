/- Walks through the code: each function's contract. -/
import Derived.Test.YtlooiifgbiedeaaWX
set_option linter.unusedVariables false
set_option linter.unusedSimpArgs false
set_option maxRecDepth 8000
namespace Go.Proofs.Ytlooiifgbiedeaa
open Go Go.VL

/-- impl.copyExprs -/
theorem impl_copyExprs (g : Nat) (us : List E) (cs : List (List T)) (ha : E.repL us cs) (hl : us.length ≤ 1048576) (ih : ∀ a ∈ us, ∀ (c : List T), a.rep c → OCtr Try.prog 69 [.agg (c.map .t)] (fun s ts => s = .agg ∧ a.rep ts)) : OCtr Try.prog 93 [.t (.sl g cs)] (fun s ts => s = .one ∧ ∃ g' cs', ts = [.sl g' cs'] ∧ E.repL us cs') := by
  have hcl := E.repL_len ha
  unfold OCtr
  refine Ctr.of_vc (rs := [.tmp 2]) (fn := Try.f93) mixed Try.func93 rfl rfl (by kernel_rfl) (by kernel_rfl) (by simp [Try.ntmps93]) (fun h0 => ?_)
  refine vc_seq fun K1 hK1 => ?_
  refine vc_reg ?_
  try simp (disch := omega) only [go_sem, ↓reduceIte, Nat.reduceEqDiff, reduceCtorEq, Nat.reduceAdd, Nat.reduceLeDiff, Nat.reduceMul, Int.reduceNeg, Int.reduceLT, Int.reduceAdd, Int.reduceSub, hcl]
  refine hK1 _ ?_
  refine vc_seq fun K2 hK2 => ?_
  refine vc_reg ?_
  try simp (disch := omega) only [go_sem, ↓reduceIte, Nat.reduceEqDiff, reduceCtorEq, Nat.reduceAdd, Nat.reduceLeDiff, Nat.reduceMul, Int.reduceNeg, Int.reduceLT, Int.reduceAdd, Int.reduceSub, hcl]
  refine hK2 _ ?_
  refine vc_seq fun K3 hK3 => ?_
  refine vc_seq fun K4 hK4 => ?_
  refine vc_reg ?_
  try simp (disch := omega) only [go_sem, ↓reduceIte, Nat.reduceEqDiff, reduceCtorEq, Nat.reduceAdd, Nat.reduceLeDiff, Nat.reduceMul, Int.reduceNeg, Int.reduceLT, Int.reduceAdd, Int.reduceSub, hcl]
  refine hK4 _ ?_
  refine vc_block ?_
  refine vc_loop (fun m s => ∃ (n : Nat) (ds : List (List D)) (S : List Nat) (v : V) (σ1 : List Ob), (m = us.length - n) ∧ (s.σ = σ1) ∧ (s.env 6 = .t (.sl g cs)) ∧ (s.env 7 = .t (.int .i64 us.length)) ∧ (s.env 8 = .t (.int .i64 n)) ∧ (s.env 3 = v) ∧ (n ≤ us.length) ∧ (Tb σ1 3 ds S v) ∧ (E.repL (us.take n) (D.erLL ds))) (us.length - 0) ⟨0, [], [], .nil0, _, rfl, (by first | rfl | simp), (by first | rfl | assumption | (simp (disch := omega) only [go_sem, ↓reduceIte, Nat.reduceEqDiff, reduceCtorEq, Nat.reduceAdd, Nat.reduceLeDiff, Nat.reduceMul, Int.reduceNeg, Int.reduceLT, Int.reduceAdd, Int.reduceSub, hcl])), (by first | rfl | assumption | (simp (disch := omega) only [go_sem, ↓reduceIte, Nat.reduceEqDiff, reduceCtorEq, Nat.reduceAdd, Nat.reduceLeDiff, Nat.reduceMul, Int.reduceNeg, Int.reduceLT, Int.reduceAdd, Int.reduceSub, hcl])), (by first | rfl | assumption | (simp (disch := omega) only [go_sem, ↓reduceIte, Nat.reduceEqDiff, reduceCtorEq, Nat.reduceAdd, Nat.reduceLeDiff, Nat.reduceMul, Int.reduceNeg, Int.reduceLT, Int.reduceAdd, Int.reduceSub, hcl])), (by first | rfl | assumption | (simp (disch := omega) only [go_sem, ↓reduceIte, Nat.reduceEqDiff, reduceCtorEq, Nat.reduceAdd, Nat.reduceLeDiff, Nat.reduceMul, Int.reduceNeg, Int.reduceLT, Int.reduceAdd, Int.reduceSub, hcl])), (by first | rfl | omega | simp), (by exact Tb_nil), (by exact E.repL_nil)⟩ ?_
  rintro m ⟨e, σ, h⟩ ⟨n, ds, S, v, σ1, hm, hσ, e6, e7, e8, e3, hn, hT, hrep⟩ K5 hK5
  simp only at hσ e6 e7 e8 e3
  subst hσ
  refine vc_seq fun K6 hK6 => ?_
  refine vc_reg ?_
  try simp (disch := omega) only [go_sem, ↓reduceIte, Nat.reduceEqDiff, reduceCtorEq, Nat.reduceAdd, Nat.reduceLeDiff, Nat.reduceMul, Int.reduceNeg, Int.reduceLT, Int.reduceAdd, Int.reduceSub, e6, e7, e8, e3, hcl]
  refine hK6 _ ?_
  refine vc_seq fun K7 hK7 => ?_
  refine vc_cond (t := _) (by first | rfl | (simp (disch := omega) only [go_sem, ↓reduceIte, Nat.reduceEqDiff, reduceCtorEq, Nat.reduceAdd, Nat.reduceLeDiff, Nat.reduceMul, Int.reduceNeg, Int.reduceLT, Int.reduceAdd, Int.reduceSub, e6, e7, e8, e3, hcl]; rfl)) (fun hc1 => ?_) (fun hc1 => ?_)
  · (try simp only [go_sem] at hc1)
    refine vc_skip ?_
    refine hK7 _ ?_
    refine vc_seq fun K8 hK8 => ?_
    refine vc_block ?_
    refine vc_seq fun K9 hK9 => ?_
    obtain ⟨c, hc, hrc⟩ := E.repL_get ha (n := n) (by omega)
    obtain ⟨gc, cc, rfl, hcc⟩ := E.rep_cells hrc
    have hal : ds.length = n := by have h2 := E.repL_len hrep; rw [D.erLL_len] at h2; simp at h2; omega
    refine vc_reg ?_
    try simp (disch := omega) only [go_sem, ↓reduceIte, Nat.reduceEqDiff, reduceCtorEq, Nat.reduceAdd, Nat.reduceLeDiff, Nat.reduceMul, Int.reduceNeg, Int.reduceLT, Int.reduceAdd, Int.reduceSub, e6, e7, e8, e3, hcl, hc, get_new, set_new, setV]
    intro g4_2 hg4_2
    refine hK9 _ ?_
    refine vc_reg ?_
    try simp (disch := omega) only [go_sem, ↓reduceIte, Nat.reduceEqDiff, reduceCtorEq, Nat.reduceAdd, Nat.reduceLeDiff, Nat.reduceMul, Int.reduceNeg, Int.reduceLT, Int.reduceAdd, Int.reduceSub, e6, e7, e8, e3, hcl, get_new]
    refine x_callO (caps := []) [] [.agg (List.map V.t [.int .i64 us[n].kind, .str us[n].name, .sl gc cc])] _ (ih _ (List.getElem_mem (show n < us.length by omega)) _ hrc) (by first | rfl | simp (disch := omega) only [go_sem, ↓reduceIte, Nat.reduceEqDiff, reduceCtorEq, Nat.reduceAdd, Nat.reduceLeDiff, Nat.reduceMul, Int.reduceNeg, Int.reduceLT, Int.reduceAdd, Int.reduceSub, e6, e7, e8, e3, hcl, get_new]) ?_ ?_
    · exact Subs.of_eq (by first | rfl | simp (disch := omega) only [go_sem, ↓reduceIte, Nat.reduceEqDiff, reduceCtorEq, Nat.reduceAdd, Nat.reduceLeDiff, Nat.reduceMul, Int.reduceNeg, Int.reduceLT, Int.reduceAdd, Int.reduceSub, e6, e7, e8, e3, hcl, get_new])
    rintro s d5 v5 S5 σ5 h5 ⟨rfl, hE5⟩ hT5 hk5 hS5 hl5 hh5
    obtain ⟨dd, vv, gg, ccs, hdd, rfl, hTd, hEd, hRd⟩ := E.own_cells hT5 hE5
    have hvl := hTd.leaf
    have hTo := (hT.more (.row g4_2 0 3 3 [[V.t (.int .i64 us[n].kind), V.t (.str us[n].name), V.t (.sl gc cc)]])).keep (fun r hr => hk5 r ((hT.more _).lt r hr))
    have hdj : Dj S S5 := fun r hr hx => by have h1 := hT.lt r hr; have h2 := hS5 r hx; simp at h2; omega
    try simp (disch := omega) only [go_sem, ↓reduceIte, Nat.reduceEqDiff, reduceCtorEq, Nat.reduceAdd, Nat.reduceLeDiff, Nat.reduceMul, Int.reduceNeg, Int.reduceLT, Int.reduceAdd, Int.reduceSub, e6, e7, e8, e3, hcl, get_new, isVal_agg]
    refine ⟨by simp [bsOk], fun g5_3 hg5_3 => ?_⟩
    try simp (disch := omega) only [go_sem, ↓reduceIte, Nat.reduceEqDiff, reduceCtorEq, Nat.reduceAdd, Nat.reduceLeDiff, Nat.reduceMul, Int.reduceNeg, Int.reduceLT, Int.reduceAdd, Int.reduceSub, e6, e7, e8, e3, hcl, get_new]
    refine x_appT [V.t (.int .i64 us[n].kind), V.t (.str us[n].name), vv] (show tElem Try.prog 35 = some 37 by kernel_rfl) (show tSize Try.prog 37 = some 3 by kernel_rfl) (show tZero Try.prog 37 = some [.t (.int .i64 0), .t (.str ⟨#[]⟩), .nil0] by kernel_rfl) (show tBytes Try.prog 37 = some 48 by kernel_rfl) (by first | rfl | (simp (disch := omega) only [go_sem, ↓reduceIte, Nat.reduceEqDiff, reduceCtorEq, Nat.reduceAdd, Nat.reduceLeDiff, Nat.reduceMul, Int.reduceNeg, Int.reduceLT, Int.reduceAdd, Int.reduceSub, e6, e7, e8, e3, hcl, get_new])) (hTo.more _) (by first | rfl | (simp (disch := omega) only [go_sem, ↓reduceIte, Nat.reduceEqDiff, reduceCtorEq, Nat.reduceAdd, Nat.reduceLeDiff, Nat.reduceMul, Int.reduceNeg, Int.reduceLT, Int.reduceAdd, Int.reduceSub, e6, e7, e8, e3, hcl, get_new, appElems, St.elems])) (by simp) (hT5.more _) (by rw [hdd]; rfl) hdj (by omega) ?_
    rintro v5_4 S5_4 σ5_4 h5_4 hT5_4 hk5_4 hS5_4 hl5_4 hle5_4 hh5_4
    try simp (disch := omega) only [go_sem, ↓reduceIte, Nat.reduceEqDiff, reduceCtorEq, Nat.reduceAdd, Nat.reduceLeDiff, Nat.reduceMul, Int.reduceNeg, Int.reduceLT, Int.reduceAdd, Int.reduceSub, e6, e7, e8, e3, hcl, get_new]
    refine hK8 _ ?_
    refine vc_reg ?_
    try simp (disch := omega) only [go_sem, ↓reduceIte, Nat.reduceEqDiff, reduceCtorEq, Nat.reduceAdd, Nat.reduceLeDiff, Nat.reduceMul, Int.reduceNeg, Int.reduceLT, Int.reduceAdd, Int.reduceSub, e6, e7, e8, e3, hcl]
    refine hK5 _ _ ?_ ⟨n + 1, ds ++ [d5], S5_4, v5_4, _, rfl, (by first | rfl | simp), (by first | rfl | assumption | (simp (disch := omega) only [go_sem, ↓reduceIte, Nat.reduceEqDiff, reduceCtorEq, Nat.reduceAdd, Nat.reduceLeDiff, Nat.reduceMul, Int.reduceNeg, Int.reduceLT, Int.reduceAdd, Int.reduceSub, e6, e7, e8, e3, hcl])), (by first | rfl | assumption | (simp (disch := omega) only [go_sem, ↓reduceIte, Nat.reduceEqDiff, reduceCtorEq, Nat.reduceAdd, Nat.reduceLeDiff, Nat.reduceMul, Int.reduceNeg, Int.reduceLT, Int.reduceAdd, Int.reduceSub, e6, e7, e8, e3, hcl])), (by first | rfl | assumption | (simp (disch := omega) only [go_sem, ↓reduceIte, Nat.reduceEqDiff, reduceCtorEq, Nat.reduceAdd, Nat.reduceLeDiff, Nat.reduceMul, Int.reduceNeg, Int.reduceLT, Int.reduceAdd, Int.reduceSub, e6, e7, e8, e3, hcl])), (by first | rfl | assumption | (simp (disch := omega) only [go_sem, ↓reduceIte, Nat.reduceEqDiff, reduceCtorEq, Nat.reduceAdd, Nat.reduceLeDiff, Nat.reduceMul, Int.reduceNeg, Int.reduceLT, Int.reduceAdd, Int.reduceSub, e6, e7, e8, e3, hcl])), ?_, ?_, ?_⟩
    · omega
    · first | omega | assumption | rfl | simp_all
    · exact hT5_4
    · rw [List.take_add_one, List.getElem?_eq_getElem (by omega), D.erLL_app]; exact E.repL_append hrep (E.repL_one hE5)
  · (try simp only [go_sem] at hc1)
    refine vc_exit ?_
    refine hK3 _ ?_
    refine vc_seq fun K10 hK10 => ?_
    refine vc_reg ?_
    try simp (disch := omega) only [go_sem, ↓reduceIte, Nat.reduceEqDiff, reduceCtorEq, Nat.reduceAdd, Nat.reduceLeDiff, Nat.reduceMul, Int.reduceNeg, Int.reduceLT, Int.reduceAdd, Int.reduceSub, e6, e7, e8, e3, hcl]
    refine hK10 _ ?_
    refine vc_ret ?_
    rw [List.take_of_length_le (by omega)] at hrep
    obtain ⟨d, g', hd, hg⟩ := hT.tr
    exact retO (h0 := h0) (Q := (fun s ts => s = .one ∧ ∃ g' cs', ts = [.sl g' cs'] ∧ E.repL us cs')) .one (ws := [v]) rfl rfl trivial (TrL_one hd) ⟨rfl, g', D.erLL ds, by rw [D.erL, D.erL, hg], hrep⟩

/-- impl.copyExpr -/
theorem impl_copyExpr (e : E) (c : List T) (hc : e.rep c) (hw : e.wt ≤ 1048576) : OCtr Try.prog 69 [.agg (c.map .t)] (fun s ts => s = .agg ∧ e.rep ts) := by
  induction e using E.ind generalizing c
  rename_i k nm us ih
  obtain ⟨g, cs, rfl, hcs⟩ := E.rep_mk hc
  rw [E.wt] at hw
  have hwl := E.wtL_len us
  unfold OCtr
  refine Ctr.of_vc (rs := [.cell 2 37]) (fn := Try.f69) mixed Try.func69 rfl rfl (by kernel_rfl) (by kernel_rfl) (by simp [Try.ntmps69]) (fun h0 => ?_)
  refine vc_seq fun K1 hK1 => ?_
  refine vc_reg ?_
  try simp (disch := omega) only [go_sem, ↓reduceIte, Nat.reduceEqDiff, reduceCtorEq, Nat.reduceAdd, Nat.reduceLeDiff, Nat.reduceMul, Int.reduceNeg, Int.reduceLT, Int.reduceAdd, Int.reduceSub]
  intro g0_0 hg0_0
  intro g0_1 hg0_1
  refine hK1 _ ?_
  refine vc_seq fun K2 hK2 => ?_
  refine vc_regD [(0, false), (1, false), (2, false), (3, false), (4, false), (5, false), (6, false), (7, false), (8, true)] (by kernel_rfl) ?_
  try simp (disch := omega) only [go_sem, ↓reduceIte, Nat.reduceEqDiff, reduceCtorEq, Nat.reduceAdd, Nat.reduceLeDiff, Nat.reduceMul, Int.reduceNeg, Int.reduceLT, Int.reduceAdd, Int.reduceSub]
  refine x_callO (caps := []) [] [.t (.sl g cs)] _ (impl_copyExprs g us cs hcs (by omega) (fun a ha c h1 => ih a ha c h1 (by have := E.wtL_mem ha; omega))) (by first | rfl | simp (disch := omega) only [go_sem, ↓reduceIte, Nat.reduceEqDiff, reduceCtorEq, Nat.reduceAdd, Nat.reduceLeDiff, Nat.reduceMul, Int.reduceNeg, Int.reduceLT, Int.reduceAdd, Int.reduceSub]) ?_ ?_
  · exact Subs.of_eq (by first | rfl | simp (disch := omega) only [go_sem, ↓reduceIte, Nat.reduceEqDiff, reduceCtorEq, Nat.reduceAdd, Nat.reduceLeDiff, Nat.reduceMul, Int.reduceNeg, Int.reduceLT, Int.reduceAdd, Int.reduceSub])
  rintro s ds4 vs4 S4 σ4 h4 ⟨rfl, g4, cs4, hE4, hR4⟩ hT4 hk4 hS4 hl4 hh4
  obtain ⟨d4, v4, rfl, rfl, hT4, hE4⟩ := hT4.er_one hE4
  have k1 : σ4[1]? = some _ := hk4 1 (by simp)
  have hvl := hT4.leaf
  have hsl_ := solid_of hvl
  have hcl_ := cells_of hvl
  have hl1 : 1 < σ4.length := by have : 2 ≤ σ4.length := hl4; omega
  have hS3 : ∀ r ∈ S4, 2 ≤ r := hS4
  try simp (disch := omega) only [go_sem, ↓reduceIte, Nat.reduceEqDiff, reduceCtorEq, Nat.reduceAdd, Nat.reduceLeDiff, Nat.reduceMul, Int.reduceNeg, Int.reduceLT, Int.reduceAdd, Int.reduceSub, buildQ, fillQ, setV, hsl_, hcl_, hvl, k1, List.all_cons, List.all_nil, Bool.and_true, Bool.and_self, and_self, Nat.reduceAdd]
  refine hK2 _ ?_
  refine vc_ret ?_
  refine retO (h0 := h0) (Q := (fun s ts => s = .agg ∧ (E.mk k nm us).rep ts)) .agg (ds := [.t (.int .i64 k), .t (.str nm), d4]) (S := S4) (ws := [.t (.int .i64 k), .t (.str nm), v4]) (vs := [.agg [.t (.int .i64 k), .t (.str nm), v4]]) ?_ rfl trivial (TrL_leaf Tr_int (TrL_leaf Tr_str (TrL_one (hT4.keep (fun r hr => by have := hS3 r hr; rw [List.getElem?_set_ne (by omega)]))))) ⟨rfl, E.rep_own hE4 hR4⟩
  simp (disch := omega) only [go_sem, resQ, List.mapM_cons, List.mapM_nil, k1, List.getElem?_set, hl1, List.length_set, Nat.reduceEqDiff, ↓reduceIte, reduceCtorEq, Nat.reduceAdd, Nat.reduceLeDiff, setV]
  rfl

/-- spec.l3Copy -/
theorem spec_l3Copy (e : E) (c : List T) (hc : e.rep c) (hw : e.wt ≤ 1048576) : OCtr Try.prog 67 [.agg (c.map .t)] (fun s ts => s = .agg ∧ e.rep ts) := by
  induction e using E.ind generalizing c
  rename_i k nm us ih
  obtain ⟨g, cs, rfl, ha⟩ := E.rep_mk hc
  have hcl := E.repL_len ha
  rw [E.wt] at hw
  have hwl := E.wtL_len us
  unfold OCtr
  refine Ctr.of_vc (rs := [.cell 2 37]) (fn := Try.f67) mixed Try.func67 rfl rfl (by kernel_rfl) (by kernel_rfl) (by simp [Try.ntmps67]) (fun h0 => ?_)
  refine vc_seq fun K1 hK1 => ?_
  refine vc_reg ?_
  try simp (disch := omega) only [go_sem, ↓reduceIte, Nat.reduceEqDiff, reduceCtorEq, Nat.reduceAdd, Nat.reduceLeDiff, Nat.reduceMul, Int.reduceNeg, Int.reduceLT, Int.reduceAdd, Int.reduceSub, hcl]
  intro g0_0 hg0_0
  intro g0_1 hg0_1
  refine hK1 _ ?_
  refine vc_seq fun K2 hK2 => ?_
  refine vc_reg ?_
  try simp (disch := omega) only [go_sem, ↓reduceIte, Nat.reduceEqDiff, reduceCtorEq, Nat.reduceAdd, Nat.reduceLeDiff, Nat.reduceMul, Int.reduceNeg, Int.reduceLT, Int.reduceAdd, Int.reduceSub, hcl, buildQ, fillQ, setV, and_self, Nat.reduceAdd]
  intro g1_5 hg1_5
  refine hK2 _ ?_
  refine vc_seq fun K3 hK3 => ?_
  refine vc_seq fun K4 hK4 => ?_
  refine vc_reg ?_
  try simp (disch := omega) only [go_sem, ↓reduceIte, Nat.reduceEqDiff, reduceCtorEq, Nat.reduceAdd, Nat.reduceLeDiff, Nat.reduceMul, Int.reduceNeg, Int.reduceLT, Int.reduceAdd, Int.reduceSub, hcl]
  refine hK4 _ ?_
  refine vc_block ?_
  refine vc_loop (fun m s => ∃ (n : Nat) (ds : List (List D)) (S : List Nat) (v : V) (σ1 : List Ob), (m = us.length - n) ∧ (s.σ = σ1) ∧ (s.env 1 = .ptr 0 0 0 0) ∧ (s.env 2 = .ptr 1 0 0 0) ∧ (s.env 3 = .ptr 2 0 0 0) ∧ (s.env 4 = .t (.int .i64 n)) ∧ (n ≤ us.length) ∧ (σ1[0]? = some (.row g0_0 0 3 3 [[V.t (.int .i64 k), V.t (.str nm), V.t (.sl g cs)]])) ∧ (σ1[1]? = some (.row g0_1 0 3 3 [[V.t (.int .i64 0), V.t (.str ⟨#[]⟩), V.nil0]])) ∧ (σ1[2]? = some (.row g1_5 0 3 3 [[V.t (.int .i64 k), V.t (.str nm), v]])) ∧ (Tb σ1 3 ds S v) ∧ (∀ r ∈ S, 3 ≤ r) ∧ (E.repL (us.take n) (D.erLL ds))) (us.length - 0) ⟨0, [], [], .nil0, _, rfl, (by first | rfl | simp), (by first | rfl | assumption | (simp (disch := omega) only [go_sem, ↓reduceIte, Nat.reduceEqDiff, reduceCtorEq, Nat.reduceAdd, Nat.reduceLeDiff, Nat.reduceMul, Int.reduceNeg, Int.reduceLT, Int.reduceAdd, Int.reduceSub, hcl])), (by first | rfl | assumption | (simp (disch := omega) only [go_sem, ↓reduceIte, Nat.reduceEqDiff, reduceCtorEq, Nat.reduceAdd, Nat.reduceLeDiff, Nat.reduceMul, Int.reduceNeg, Int.reduceLT, Int.reduceAdd, Int.reduceSub, hcl])), (by first | rfl | assumption | (simp (disch := omega) only [go_sem, ↓reduceIte, Nat.reduceEqDiff, reduceCtorEq, Nat.reduceAdd, Nat.reduceLeDiff, Nat.reduceMul, Int.reduceNeg, Int.reduceLT, Int.reduceAdd, Int.reduceSub, hcl])), (by first | rfl | assumption | (simp (disch := omega) only [go_sem, ↓reduceIte, Nat.reduceEqDiff, reduceCtorEq, Nat.reduceAdd, Nat.reduceLeDiff, Nat.reduceMul, Int.reduceNeg, Int.reduceLT, Int.reduceAdd, Int.reduceSub, hcl])), (by first | rfl | omega | simp), (by rfl), (by rfl), (by rfl), (by exact Tb_nil), (by first | rfl | omega | simp), (by exact E.repL_nil)⟩ ?_
  rintro m ⟨e, σ, h⟩ ⟨n, ds, S, v, σ1, hm, hσ, e1, e2, e3, e4, hn, h0_, h1_, h2_, hT, hS, hrep⟩ K5 hK5
  simp only at hσ e1 e2 e3 e4
  subst hσ
  refine vc_seq fun K6 hK6 => ?_
  refine vc_seq fun K7 hK7 => ?_
  refine vc_reg ?_
  try simp (disch := omega) only [go_sem, ↓reduceIte, Nat.reduceEqDiff, reduceCtorEq, Nat.reduceAdd, Nat.reduceLeDiff, Nat.reduceMul, Int.reduceNeg, Int.reduceLT, Int.reduceAdd, Int.reduceSub, e1, e2, e3, e4, hcl, h0_]
  refine hK7 _ ?_
  refine vc_cond (t := _) (by first | rfl | (simp (disch := omega) only [go_sem, ↓reduceIte, Nat.reduceEqDiff, reduceCtorEq, Nat.reduceAdd, Nat.reduceLeDiff, Nat.reduceMul, Int.reduceNeg, Int.reduceLT, Int.reduceAdd, Int.reduceSub, e1, e2, e3, e4, hcl]; rfl)) (fun hc1 => ?_) (fun hc1 => ?_)
  · (try simp only [go_sem] at hc1)
    refine vc_skip ?_
    refine hK6 _ ?_
    refine vc_seq fun K8 hK8 => ?_
    refine vc_block ?_
    obtain ⟨c, hc, hrc⟩ := E.repL_get ha (n := n) (by omega)
    obtain ⟨gc, cc, rfl, hcc⟩ := E.rep_cells hrc
    have hal : ds.length = n := by have h2 := E.repL_len hrep; rw [D.erLL_len] at h2; simp at h2; omega
    have hlt2 := (List.getElem?_eq_some_iff.1 h2_).1
    refine vc_regD [(0, false), (1, false), (2, false), (3, false), (4, false), (5, false), (6, false), (7, false), (8, false), (9, true), (10, false), (11, true)] (by kernel_rfl) ?_
    try simp (disch := omega) only [go_sem, ↓reduceIte, Nat.reduceEqDiff, reduceCtorEq, Nat.reduceAdd, Nat.reduceLeDiff, Nat.reduceMul, Int.reduceNeg, Int.reduceLT, Int.reduceAdd, Int.reduceSub, e1, e2, e3, e4, hcl, hc, h0_, h2_]
    refine x_callO (caps := []) [] [.agg (List.map V.t [.int .i64 us[n].kind, .str us[n].name, .sl gc cc])] _ (ih _ (List.getElem_mem (show n < us.length by omega)) _ hrc (by have := E.wtL_mem (List.getElem_mem (show n < us.length by omega)); omega)) (by first | rfl | simp (disch := omega) only [go_sem, ↓reduceIte, Nat.reduceEqDiff, reduceCtorEq, Nat.reduceAdd, Nat.reduceLeDiff, Nat.reduceMul, Int.reduceNeg, Int.reduceLT, Int.reduceAdd, Int.reduceSub, e1, e2, e3, e4, hcl, hc, h0_, h2_]) ?_ ?_
    · exact Subs.of_eq (by first | rfl | simp (disch := omega) only [go_sem, ↓reduceIte, Nat.reduceEqDiff, reduceCtorEq, Nat.reduceAdd, Nat.reduceLeDiff, Nat.reduceMul, Int.reduceNeg, Int.reduceLT, Int.reduceAdd, Int.reduceSub, e1, e2, e3, e4, hcl, hc, h0_, h2_])
    rintro s d5 v5 S5 σ5 h5 ⟨rfl, hE5⟩ hT5 hk5 hS5 hl5 hh5
    obtain ⟨dd, vv, gg, ccs, hdd, rfl, hTd, hEd, hRd⟩ := E.own_cells hT5 hE5
    have hvl := hTd.leaf
    have hTo := hT.keep (fun r hr => hk5 r (hT.lt r hr))
    have hdj : Dj S S5 := fun r hr hx => by have h1 := hT.lt r hr; have h2 := hS5 r hx; omega
    try simp (disch := omega) only [go_sem, ↓reduceIte, Nat.reduceEqDiff, reduceCtorEq, Nat.reduceAdd, Nat.reduceLeDiff, Nat.reduceMul, Int.reduceNeg, Int.reduceLT, Int.reduceAdd, Int.reduceSub, e1, e2, e3, e4, hcl, get_new, isVal_agg]
    refine ⟨by simp [bsOk], fun g5_8 hg5_8 => ?_⟩
    try simp (disch := omega) only [go_sem, ↓reduceIte, Nat.reduceEqDiff, reduceCtorEq, Nat.reduceAdd, Nat.reduceLeDiff, Nat.reduceMul, Int.reduceNeg, Int.reduceLT, Int.reduceAdd, Int.reduceSub, e1, e2, e3, e4, hcl, hc, h0_, h2_]
    refine x_appT [V.t (.int .i64 us[n].kind), V.t (.str us[n].name), vv] (show tElem Try.prog 35 = some 37 by kernel_rfl) (show tSize Try.prog 37 = some 3 by kernel_rfl) (show tZero Try.prog 37 = some [.t (.int .i64 0), .t (.str ⟨#[]⟩), .nil0] by kernel_rfl) (show tBytes Try.prog 37 = some 48 by kernel_rfl) (by first | rfl | (simp (disch := omega) only [go_sem, ↓reduceIte, Nat.reduceEqDiff, reduceCtorEq, Nat.reduceAdd, Nat.reduceLeDiff, Nat.reduceMul, Int.reduceNeg, Int.reduceLT, Int.reduceAdd, Int.reduceSub, e1, e2, e3, e4, hcl, hc, h0_, h2_])) (hTo.more _) (by first | rfl | (simp (disch := omega) only [go_sem, ↓reduceIte, Nat.reduceEqDiff, reduceCtorEq, Nat.reduceAdd, Nat.reduceLeDiff, Nat.reduceMul, Int.reduceNeg, Int.reduceLT, Int.reduceAdd, Int.reduceSub, e1, e2, e3, e4, hcl, hc, h0_, h2_, appElems, St.elems])) (by simp) (hT5.more _) (by rw [hdd]; rfl) hdj (by omega) ?_
    rintro v5_9 S5_9 σ5_9 h5_9 hT5_9 hk5_9 hS5_9 hl5_9 hle5_9 hh5_9
    have hrest : ∀ r, r < 3 → σ5_9[r]? = σ[r]? := fun r hr => by rw [hk5_9 r (by simp; omega) (fun hx => by have := hS r hx; omega), get_old (by omega), hk5 r (by omega)]
    have h0n := (hrest 0 (by omega)).trans h0_
    have h1n := (hrest 1 (by omega)).trans h1_
    have h2n := (hrest 2 (by omega)).trans h2_
    have hvl9 := hT5_9.leaf
    have hsl_ := solid_of hvl9
    have hcl_ := cells_of hvl9
    have hS9 : ∀ r ∈ S5_9, 3 ≤ r := fun r hr => by
      rcases hS5_9 r hr with h | h | h
      · exact hS r h
      · have := hS5 r h; omega
      · simp at h; omega
    try simp (disch := omega) only [go_sem, ↓reduceIte, Nat.reduceEqDiff, reduceCtorEq, Nat.reduceAdd, Nat.reduceLeDiff, Nat.reduceMul, Int.reduceNeg, Int.reduceLT, Int.reduceAdd, Int.reduceSub, e1, e2, e3, e4, hcl, h2n, hsl_, hcl_, setV, List.set_cons_zero]
    refine hK8 _ ?_
    refine vc_reg ?_
    try simp (disch := omega) only [go_sem, ↓reduceIte, Nat.reduceEqDiff, reduceCtorEq, Nat.reduceAdd, Nat.reduceLeDiff, Nat.reduceMul, Int.reduceNeg, Int.reduceLT, Int.reduceAdd, Int.reduceSub, e1, e2, e3, e4, hcl]
    refine hK5 _ _ ?_ ⟨n + 1, ds ++ [d5], S5_9, v5_9, _, rfl, (by first | rfl | simp), (by first | rfl | assumption | (simp (disch := omega) only [go_sem, ↓reduceIte, Nat.reduceEqDiff, reduceCtorEq, Nat.reduceAdd, Nat.reduceLeDiff, Nat.reduceMul, Int.reduceNeg, Int.reduceLT, Int.reduceAdd, Int.reduceSub, e1, e2, e3, e4, hcl])), (by first | rfl | assumption | (simp (disch := omega) only [go_sem, ↓reduceIte, Nat.reduceEqDiff, reduceCtorEq, Nat.reduceAdd, Nat.reduceLeDiff, Nat.reduceMul, Int.reduceNeg, Int.reduceLT, Int.reduceAdd, Int.reduceSub, e1, e2, e3, e4, hcl])), (by first | rfl | assumption | (simp (disch := omega) only [go_sem, ↓reduceIte, Nat.reduceEqDiff, reduceCtorEq, Nat.reduceAdd, Nat.reduceLeDiff, Nat.reduceMul, Int.reduceNeg, Int.reduceLT, Int.reduceAdd, Int.reduceSub, e1, e2, e3, e4, hcl])), (by first | rfl | assumption | (simp (disch := omega) only [go_sem, ↓reduceIte, Nat.reduceEqDiff, reduceCtorEq, Nat.reduceAdd, Nat.reduceLeDiff, Nat.reduceMul, Int.reduceNeg, Int.reduceLT, Int.reduceAdd, Int.reduceSub, e1, e2, e3, e4, hcl])), ?_, ?_, ?_, ?_, ?_, ?_, ?_⟩
    · omega
    · first | omega | assumption | rfl | simp_all
    · exact (List.getElem?_set_ne (by omega)).trans h0n
    · exact (List.getElem?_set_ne (by omega)).trans h1n
    · exact List.getElem?_set_self (List.getElem?_eq_some_iff.1 h2n).1
    · exact hT5_9.keep (fun r hr => List.getElem?_set_ne (by have := hS9 r hr; omega))
    · exact hS9
    · rw [List.take_add_one, List.getElem?_eq_getElem (by omega), D.erLL_app]; exact E.repL_append hrep (E.repL_one hE5)
  · (try simp only [go_sem] at hc1)
    refine vc_exit ?_
    refine hK3 _ ?_
    refine vc_seq fun K9 hK9 => ?_
    have hvl := hT.leaf
    have hl1 := (List.getElem?_eq_some_iff.1 h1_).1
    refine vc_reg ?_
    try simp (disch := omega) only [go_sem, ↓reduceIte, Nat.reduceEqDiff, reduceCtorEq, Nat.reduceAdd, Nat.reduceLeDiff, Nat.reduceMul, Int.reduceNeg, Int.reduceLT, Int.reduceAdd, Int.reduceSub, e1, e2, e3, e4, hcl, h1_, h2_, hvl, setV, List.all_cons, List.all_nil, Bool.and_true, Bool.and_self]
    refine hK9 _ ?_
    refine vc_ret ?_
    rw [List.take_of_length_le (by omega)] at hrep
    obtain ⟨d, g', hd, hg⟩ := hT.tr
    refine retO (h0 := h0) (Q := (fun s ts => s = .agg ∧ (E.mk k nm us).rep ts)) .agg (ds := [.t (.int .i64 k), .t (.str nm), d]) (S := S) (ws := [.t (.int .i64 k), .t (.str nm), v]) (vs := [.agg [.t (.int .i64 k), .t (.str nm), v]]) ?_ rfl trivial (TrL_leaf Tr_int (TrL_leaf Tr_str (TrL_one (hd.keep (fun r hr => by have := hS r hr; rw [List.getElem?_set_ne (by omega)]))))) ⟨rfl, E.rep_own hg hrep⟩
    simp (disch := omega) only [go_sem, resQ, List.mapM_cons, List.mapM_nil, e2, h1_, List.getElem?_set, hl1, List.length_set, Nat.reduceEqDiff, ↓reduceIte, reduceCtorEq, Nat.reduceAdd, Nat.reduceLeDiff, setV]
    rfl
end Go.Proofs.Ytlooiifgbiedeaa
