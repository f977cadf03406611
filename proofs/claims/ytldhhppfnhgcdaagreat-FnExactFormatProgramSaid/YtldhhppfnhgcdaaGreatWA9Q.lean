/- Walks through the code: each function's contract. -/
import Derived.Test.YtldhhppfnhgcdaaGreatWA8Q
import Derived.Test.YtldhhppfnhgcdaaGreatWKQ
set_option linter.unusedVariables false
set_option linter.unusedSimpArgs false
set_option maxRecDepth 8000
namespace Go.Proofs.YtldhhppfnhgcdaaGreat
open Go Go.VL

end Go.Proofs.YtldhhppfnhgcdaaGreat
namespace Go.VL
/-- The text of a constructor with its variables; of a rule. -/
def ptx (c : ByteArray) (vs : List ByteArray) : ByteArray := if vs.length = 0 then c else c ++ ⟨#[40]⟩ ++ jn vs ⟨#[44]⟩ ++ ⟨#[41]⟩
def rpt (c : ByteArray) (vs : List ByteArray) : List ByteArray := if c = ⟨#[]⟩ then [] else [ptx c vs]
def rtx (x : Ru) : ByteArray := x.nm ++ ⟨#[40]⟩ ++ jn (rpt x.cn x.vs ++ x.ps) ⟨#[44]⟩ ++ ⟨#[41, 32, 61, 32]⟩ ++ (if (decide ((x.bd.sz : Int) ≤ 80) && (decide ((x.bd.dp : Int) ≤ 24) && x.bd.af)) = true then x.bd.tx else ⟨#[]⟩)
theorem ptx_size (c : ByteArray) (vs : List ByteArray) : (ptx c vs).size ≤ c.size + 2 + (vs.length + sumB vs) := by
  have h := jn_size vs
  rw [ptx]
  split
  · omega
  · rw [ByteArray.size_append, ByteArray.size_append, ByteArray.size_append, show (⟨#[40]⟩ : ByteArray).size = 1 from rfl, show (⟨#[41]⟩ : ByteArray).size = 1 from rfl]
    omega
theorem rpt_size (c : ByteArray) (vs : List ByteArray) : (rpt c vs).length + sumB (rpt c vs) ≤ c.size + 3 + (vs.length + sumB vs) := by
  have h := ptx_size c vs
  rw [rpt]
  split
  · simp [sumB]
  · simp only [List.length_cons, List.length_nil, sumB]; omega
theorem fx_size {x : Ru} (h : x.bd.wt ≤ 1048576) : (if (decide ((x.bd.sz : Int) ≤ 80) && (decide ((x.bd.dp : Int) ≤ 24) && x.bd.af)) = true then x.bd.tx else ⟨#[]⟩).size ≤ 4194304 := by
  split
  · rename_i h1
    simp only [Bool.and_eq_true, decide_eq_true_eq] at h1
    have := x.bd.tx_size
    omega
  · exact Nat.zero_le _
end Go.VL
namespace Go.Proofs.YtldhhppfnhgcdaaGreat
open Go Go.VL

/-- impl.patternText -/
theorem impl_patternText (g : Nat) (c : ByteArray) (vs : List ByteArray) (hc : c.size ≤ 1048576) (hv : vs.length + sumB vs ≤ 1048576) : FCtr Tryz.prog 31 [.t (.str c), .t (.sl g (vs.map (fun x => [T.str x])))] (fun r => r = .t (.str (ptx c vs))) := by
  refine Ctr.of_vc (rs := [.tmp 4]) (fn := Tryz.f31) mixed Tryz.func31 rfl rfl (by kernel_rfl) (by kernel_rfl) (by simp [Tryz.ntmps31]) (fun h0 => ?_)
  refine vc_seq fun K1 hK1 => ?_
  refine vc_reg ?_
  try simp (disch := omega) only [go_sem, ↓reduceIte, Nat.reduceEqDiff, reduceCtorEq, Nat.reduceAdd, Nat.reduceLeDiff, Nat.reduceMul, Int.reduceNeg, Int.reduceLT, Int.reduceAdd, Int.reduceSub]
  refine hK1 _ ?_
  refine vc_seq fun K2 hK2 => ?_
  refine vc_seq fun K3 hK3 => ?_
  refine vc_reg ?_
  try simp (disch := omega) only [go_sem, ↓reduceIte, Nat.reduceEqDiff, reduceCtorEq, Nat.reduceAdd, Nat.reduceLeDiff, Nat.reduceMul, Int.reduceNeg, Int.reduceLT, Int.reduceAdd, Int.reduceSub]
  refine hK3 _ ?_
  refine vc_cond (t := _) rfl (fun hc1 => ?_) (fun hc1 => ?_)
  · (try simp only [go_sem] at hc1)
    refine vc_seq fun K4 hK4 => ?_
    refine vc_reg ?_
    try simp (disch := omega) only [go_sem, ↓reduceIte, Nat.reduceEqDiff, reduceCtorEq, Nat.reduceAdd, Nat.reduceLeDiff, Nat.reduceMul, Int.reduceNeg, Int.reduceLT, Int.reduceAdd, Int.reduceSub]
    refine hK4 _ ?_
    refine vc_ret ?_
    refine ⟨_, by first | rfl | (simp only [go_sem, resQ, List.mapM_cons, List.mapM_nil, ↓reduceIte, Nat.reduceEqDiff, Nat.reduceAdd, Nat.reduceLeDiff, reduceCtorEq]; rfl), [], [], .nil, by simp, by simp, fun hi_ h1_ => ⟨?_, rfl, rfl⟩, by simp⟩
    rw [ptx, if_pos (by omega)]; rfl
  · (try simp only [go_sem] at hc1)
    refine vc_skip ?_
    refine hK2 _ ?_
    refine vc_seq fun K5 hK5 => ?_
    have hjz := jn_size vs
    have hs40 : (#[40] : Array UInt8).size = 1 := rfl
    have hs41 : (#[41] : Array UInt8).size = 1 := rfl
    have hz1 : ¬ (IntKind.i64.max < ((c.size + (#[40] : Array UInt8).size : Nat) : Int)) := by rw [i64max, hs40]; omega
    have hz2 : ¬ (IntKind.i64.max < ((c.size + (#[40] : Array UInt8).size + (jn vs ⟨#[44]⟩).size : Nat) : Int)) := by rw [i64max, hs40]; omega
    have hz3 : ¬ (IntKind.i64.max < ((c.size + (#[40] : Array UInt8).size + (jn vs ⟨#[44]⟩).size + (#[41] : Array UInt8).size : Nat) : Int)) := by rw [i64max, hs40, hs41]; omega
    refine vc_reg ?_
    try simp (disch := omega) only [go_sem, ↓reduceIte, Nat.reduceEqDiff, reduceCtorEq, Nat.reduceAdd, Nat.reduceLeDiff, Nat.reduceMul, Int.reduceNeg, Int.reduceLT, Int.reduceAdd, Int.reduceSub, hz1, hz2, hz3]
    refine vcX_call _ _ (strings_Join g vs ⟨#[44]⟩ (by omega) (by show 1 ≤ _; omega)) rfl rfl (by first | rfl | simp [V.pures, V.pure, V.pures_t]) ?_
    rintro r3_3 h3_3 hh3_3 rfl -
    try simp (disch := omega) only [go_sem, ↓reduceIte, Nat.reduceEqDiff, reduceCtorEq, Nat.reduceAdd, Nat.reduceLeDiff, Nat.reduceMul, Int.reduceNeg, Int.reduceLT, Int.reduceAdd, Int.reduceSub, hz1, hz2, hz3]
    refine hK5 _ ?_
    refine vc_ret ?_
    refine ⟨_, by first | rfl | (simp only [go_sem, resQ, List.mapM_cons, List.mapM_nil, ↓reduceIte, Nat.reduceEqDiff, Nat.reduceAdd, Nat.reduceLeDiff, reduceCtorEq]; rfl), [], [], .nil, by simp, by simp, fun hi_ h1_ => ⟨?_, rfl, rfl⟩, by simp⟩
    rw [ptx, if_neg (by omega)]; rfl

/-- impl.FormatRule -/
theorem impl_FormatRule (x : Ru) (c : List T) (hc : x.rep c) (hw : x.wt ≤ 1048576) : FCtr Tryz.prog 14 [.agg (c.map .t)] (fun r => r = .t (.str (rtx x))) := by
  obtain ⟨gax_, gbx_, kx_, nx_, gx_, csx_, rfl, hvx_⟩ := Ru.cells hc
  rw [Ru.wt] at hw
  refine Ctr.of_vc (rs := [.tmp 2]) (fn := Tryz.f14) mixed Tryz.func14 rfl rfl (by kernel_rfl) (by kernel_rfl) (by simp [Tryz.ntmps14]) (fun h0 => ?_)
  refine vc_seq fun K1 hK1 => ?_
  refine vc_reg ?_
  try simp (disch := omega) only [go_sem, ↓reduceIte, Nat.reduceEqDiff, reduceCtorEq, Nat.reduceAdd, Nat.reduceLeDiff, Nat.reduceMul, Int.reduceNeg, Int.reduceLT, Int.reduceAdd, Int.reduceSub]
  intro g0_0 hg0_0
  refine hK1 _ ?_
  refine vc_seq fun K2 hK2 => ?_
  refine vc_reg ?_
  try simp (disch := omega) only [go_sem, ↓reduceIte, Nat.reduceEqDiff, reduceCtorEq, Nat.reduceAdd, Nat.reduceLeDiff, Nat.reduceMul, Int.reduceNeg, Int.reduceLT, Int.reduceAdd, Int.reduceSub]
  refine hK2 _ ?_
  refine vc_seqK (fun s => ∃ (acc : List ByteArray) (S1 : List Nat) (v1 : V) (σ1 : List Ob), (s.σ = σ1) ∧ (s.env 1 = .ptr 0 0 0 0) ∧ (s.env 3 = v1) ∧ (σ1[0]? = some (.row g0_0 0 7 7 [[V.t (.str x.nm), V.t (.str x.cn), V.t (.sl gax_ (x.vs.map fun s => [T.str s])), V.t (.sl gbx_ (x.ps.map fun s => [T.str s])), V.t (.int .i64 kx_), V.t (.str nx_), V.t (.sl gx_ csx_)]])) ∧ (Tb σ1 1 (Ds acc) S1 v1) ∧ (∀ r ∈ S1, 1 ≤ r) ∧ (acc = rpt x.cn x.vs)) (fun KJ3 hKJ3 => ?_) ?_
  · skip
    refine vc_seq fun K4 hK4 => ?_
    refine vc_reg ?_
    try simp (disch := omega) only [go_sem, ↓reduceIte, Nat.reduceEqDiff, reduceCtorEq, Nat.reduceAdd, Nat.reduceLeDiff, Nat.reduceMul, Int.reduceNeg, Int.reduceLT, Int.reduceAdd, Int.reduceSub, List.getElem?_cons_zero]
    refine hK4 _ ?_
    refine vc_cond (t := _) rfl (fun hc1 => ?_) (fun hc1 => ?_)
    · (try simp only [go_sem] at hc1)
      refine vc_reg ?_
      try simp (disch := omega) only [go_sem, ↓reduceIte, Nat.reduceEqDiff, reduceCtorEq, Nat.reduceAdd, Nat.reduceLeDiff, Nat.reduceMul, Int.reduceNeg, Int.reduceLT, Int.reduceAdd, Int.reduceSub, List.getElem?_cons_zero]
      refine vcX_call _ _ (impl_patternText gax_ x.cn x.vs (by omega) (by omega)) rfl rfl (by first | rfl | simp [V.pures, V.pure, V.pures_t]) ?_
      rintro r3_5 h3_5 hh3_5 rfl -
      try simp (disch := omega) only [go_sem, ↓reduceIte, Nat.reduceEqDiff, reduceCtorEq, Nat.reduceAdd, Nat.reduceLeDiff, Nat.reduceMul, Int.reduceNeg, Int.reduceLT, Int.reduceAdd, Int.reduceSub, List.getElem?_cons_zero]
      refine .inl ⟨by simp [bsOk], fun g3_6 hg3_6 => ?_⟩
      try simp (disch := omega) only [go_sem, ↓reduceIte, Nat.reduceEqDiff, reduceCtorEq, Nat.reduceAdd, Nat.reduceLeDiff, Nat.reduceMul, Int.reduceNeg, Int.reduceLT, Int.reduceAdd, Int.reduceSub, List.getElem?_cons_zero]
      refine x_appT [V.t (.str (ptx x.cn x.vs))] (show tElem Tryz.prog 36 = some 9 by kernel_rfl) (show tSize Tryz.prog 9 = some 1 by kernel_rfl) (show tZero Tryz.prog 9 = some [.t (.str ⟨#[]⟩)] by kernel_rfl) (show tBytes Tryz.prog 9 = some 16 by kernel_rfl) rfl (show Tb _ 1 [] [] .nil0 from Tb_nil) rfl (by simp) (TrL_one Tr_str) rfl (Dj_nil _) (by decide) ?_
      rintro v3_7 S3_7 σ3_7 h3_7 hT3_7 hk3_7 hS3_7 hl3_7 hle3_7 hh3_7
      try simp (disch := omega) only [go_sem, ↓reduceIte, Nat.reduceEqDiff, reduceCtorEq, Nat.reduceAdd, Nat.reduceLeDiff, Nat.reduceMul, Int.reduceNeg, Int.reduceLT, Int.reduceAdd, Int.reduceSub, List.getElem?_cons_zero]
      refine hKJ3 _ ⟨[ptx x.cn x.vs], S3_7, v3_7, _, (by first | rfl | simp), (by first | rfl | assumption), (by first | rfl | assumption), ?_, ?_, ?_, ?_⟩
      · exact (hk3_7 0 (by simp) (by simp)).trans rfl
      · exact hT3_7
      · exact fun r hr => (hS3_7 r hr).elim (fun h => by cases h) (fun h => h.elim (fun h => by cases h) (fun h => by simp at h; omega))
      · rw [rpt, if_neg (by assumption)]
    · (try simp only [go_sem] at hc1)
      refine vc_skip ?_
      refine hKJ3 _ ⟨[], [], .nil0, _, (by first | rfl | simp), (by first | rfl | assumption), (by first | rfl | assumption), ?_, ?_, ?_, ?_⟩
      · rfl
      · exact Tb_nil
      · exact fun r hr => by cases hr
      · rw [rpt, if_pos (by first | assumption | simp_all)]
  · skip
    rintro ⟨e, σ, h⟩ ⟨acc, S1, v1, σ1, hσ, e1, e3, h0_, hT1, hS1, hacc⟩
    simp only at hσ e1 e3
    subst hσ
    refine vc_seq fun K5 hK5 => ?_
    refine vc_reg ?_
    try simp (disch := omega) only [go_sem, ↓reduceIte, Nat.reduceEqDiff, reduceCtorEq, Nat.reduceAdd, Nat.reduceLeDiff, Nat.reduceMul, Int.reduceNeg, Int.reduceLT, Int.reduceAdd, Int.reduceSub, e1, e3, h0_, Vs_of]
    refine x_appS x.ps (show tElem Tryz.prog 36 = some 9 by kernel_rfl) (show tSize Tryz.prog 9 = some 1 by kernel_rfl) (show tZero Tryz.prog 9 = some [.t (.str ⟨#[]⟩)] by kernel_rfl) (show tBytes Tryz.prog 9 = some 16 by kernel_rfl) rfl hT1 (by first | rfl | (simp (disch := omega) only [go_sem, ↓reduceIte, Nat.reduceEqDiff, reduceCtorEq, Nat.reduceAdd, Nat.reduceLeDiff, Nat.reduceMul, Int.reduceNeg, Int.reduceLT, Int.reduceAdd, Int.reduceSub, e1, e3, h0_, Vs_of, appElems, St.elems])) (by simp) (by have hrz := rpt_size x.cn x.vs; rw [← hacc] at hrz; omega) ?_
    rintro v4_3 S4_3 σ4_3 h4_3 hT4_3 hk4_3 hS4_3 hh4_3
    try simp (disch := omega) only [go_sem, ↓reduceIte, Nat.reduceEqDiff, reduceCtorEq, Nat.reduceAdd, Nat.reduceLeDiff, Nat.reduceMul, Int.reduceNeg, Int.reduceLT, Int.reduceAdd, Int.reduceSub, e1, e3, h0_, Vs_of]
    refine hK5 _ ?_
    refine vc_seq fun K6 hK6 => ?_
    obtain ⟨gl, hlend⟩ := hT4_3.lend
    rw [Ds_er] at hlend
    have hrz := rpt_size x.cn x.vs
    rw [← hacc] at hrz
    have hfz := fx_size (x := x) (by omega)
    have hpz : (acc ++ x.ps).length + sumB (acc ++ x.ps) ≤ 4194304 := by rw [List.length_append, sumB_app]; omega
    have hjz := jn_size (acc ++ x.ps)
    have h0n := (hk4_3 0 (List.getElem?_eq_some_iff.1 h0_).1 (fun hx => by have := hS1 0 hx; omega)).trans h0_
    have hs40 : (#[40] : Array UInt8).size = 1 := rfl
    have hs4 : (#[41, 32, 61, 32] : Array UInt8).size = 4 := rfl
    have hz1 : ¬ (IntKind.i64.max < ((x.nm.size + (#[40] : Array UInt8).size : Nat) : Int)) := by rw [i64max, hs40]; omega
    have hz2 : ¬ (IntKind.i64.max < ((x.nm.size + (#[40] : Array UInt8).size + (jn (acc ++ x.ps) ⟨#[44]⟩).size : Nat) : Int)) := by rw [i64max, hs40]; omega
    have hz3 : ¬ (IntKind.i64.max < ((x.nm.size + (#[40] : Array UInt8).size + (jn (acc ++ x.ps) ⟨#[44]⟩).size + (#[41, 32, 61, 32] : Array UInt8).size : Nat) : Int)) := by rw [i64max, hs40, hs4]; omega
    have hz4 : ¬ (IntKind.i64.max < ((x.nm.size + (#[40] : Array UInt8).size + (jn (acc ++ x.ps) ⟨#[44]⟩).size + (#[41, 32, 61, 32] : Array UInt8).size + ((if (decide ((x.bd.sz : Int) ≤ 80) && (decide ((x.bd.dp : Int) ≤ 24) && x.bd.af)) = true then x.bd.tx else ⟨#[]⟩)).size : Nat) : Int)) := by rw [i64max, hs40, hs4]; omega
    refine vc_regD [(0, false), (1, false), (2, false), (3, false), (7, false), (8, false), (4, false), (5, false), (6, false), (9, false), (10, false), (11, false)] (by kernel_rfl) ?_
    try simp (disch := omega) only [go_sem, ↓reduceIte, Nat.reduceEqDiff, reduceCtorEq, Nat.reduceAdd, Nat.reduceLeDiff, Nat.reduceMul, Int.reduceNeg, Int.reduceLT, Int.reduceAdd, Int.reduceSub, e1, e3, List.getElem_cons_zero, List.getElem_cons_succ, h0n, hz1, hz2, hz3, hz4]
    refine vcX_callS (caps := []) S4_3 [.t (.sl gl (Ts (acc ++ x.ps))), .t (.str ⟨#[44]⟩)] _ (strings_Join gl (acc ++ x.ps) ⟨#[44]⟩ (by omega) (by show 1 ≤ _; omega)) (by first | rfl | simp (disch := omega) only [go_sem, ↓reduceIte, Nat.reduceEqDiff, reduceCtorEq, Nat.reduceAdd, Nat.reduceLeDiff, Nat.reduceMul, Int.reduceNeg, Int.reduceLT, Int.reduceAdd, Int.reduceSub, e1, e3, List.getElem_cons_zero, List.getElem_cons_succ, h0n, hz1, hz2, hz3, hz4]) ?_ ?_
    · show Subs [V.loc _ [] S4_3 v4_3, V.t (.str ⟨#[44]⟩)] _
      exact Subs.cons hlend (Subs.cons (.refl _) (Subs.nil))
    rintro r5_4 h5_4 hh5_4 rfl -
    refine ⟨fun q hq o ho hm => by simp [V.ids, T.ids] at hm, ?_⟩
    try simp (disch := omega) only [go_sem, ↓reduceIte, Nat.reduceEqDiff, reduceCtorEq, Nat.reduceAdd, Nat.reduceLeDiff, Nat.reduceMul, Int.reduceNeg, Int.reduceLT, Int.reduceAdd, Int.reduceSub, e1, e3, List.getElem_cons_zero, List.getElem_cons_succ, h0n, hz1, hz2, hz3, hz4]
    refine vcX_call _ _ (impl_FormatExpr x.bd _ hvx_ (by omega)) rfl rfl (by first | rfl | simp [V.pures, V.pure, V.pures_t]) ?_
    rintro r5_9 h5_9 hh5_9 rfl -
    try simp (disch := omega) only [go_sem, ↓reduceIte, Nat.reduceEqDiff, reduceCtorEq, Nat.reduceAdd, Nat.reduceLeDiff, Nat.reduceMul, Int.reduceNeg, Int.reduceLT, Int.reduceAdd, Int.reduceSub, e1, e3, List.getElem_cons_zero, List.getElem_cons_succ, h0n, hz1, hz2, hz3, hz4]
    refine hK6 _ ?_
    refine vc_ret ?_
    refine ⟨_, by first | rfl | (simp only [go_sem, resQ, List.mapM_cons, List.mapM_nil, ↓reduceIte, Nat.reduceEqDiff, Nat.reduceAdd, Nat.reduceLeDiff, reduceCtorEq]; rfl), [], [], .nil, by simp, by simp, fun hi_ h1_ => ⟨?_, rfl, rfl⟩, by simp⟩
    rw [rtx, ← hacc]; rfl

/-- spec.FormatRule -/
theorem spec_FormatRule (x : Ru) (c : List T) (hc : x.rep c) (hw : x.wt ≤ 1048576) : FCtr Tryz.prog 11 [.agg (c.map .t)] (fun r => r = .t (.str (rtx x))) := by
  obtain ⟨gax_, gbx_, kx_, nx_, gx_, csx_, rfl, hvx_⟩ := Ru.cells hc
  rw [Ru.wt] at hw
  refine Ctr.of_vc (rs := [.tmp 2]) (fn := Tryz.f11) mixed Tryz.func11 rfl rfl (by kernel_rfl) (by kernel_rfl) (by simp [Tryz.ntmps11]) (fun h0 => ?_)
  refine vc_seq fun K1 hK1 => ?_
  refine vc_reg ?_
  try simp (disch := omega) only [go_sem, ↓reduceIte, Nat.reduceEqDiff, reduceCtorEq, Nat.reduceAdd, Nat.reduceLeDiff, Nat.reduceMul, Int.reduceNeg, Int.reduceLT, Int.reduceAdd, Int.reduceSub]
  intro g0_0 hg0_0
  refine hK1 _ ?_
  refine vc_seq fun K2 hK2 => ?_
  refine vc_reg ?_
  try simp (disch := omega) only [go_sem, ↓reduceIte, Nat.reduceEqDiff, reduceCtorEq, Nat.reduceAdd, Nat.reduceLeDiff, Nat.reduceMul, Int.reduceNeg, Int.reduceLT, Int.reduceAdd, Int.reduceSub]
  refine .inl ⟨by simp [bsOk], fun g1_0 hg1_0 => ?_⟩
  try simp (disch := omega) only [go_sem, ↓reduceIte, Nat.reduceEqDiff, reduceCtorEq, Nat.reduceAdd, Nat.reduceLeDiff, Nat.reduceMul, Int.reduceNeg, Int.reduceLT, Int.reduceAdd, Int.reduceSub]
  refine hK2 _ ?_
  refine vc_seqK (fun s => ∃ (acc : List ByteArray) (S1 : List Nat) (v1 : V) (σ1 : List Ob), (s.σ = σ1) ∧ (s.env 1 = .ptr 0 0 0 0) ∧ (s.env 3 = v1) ∧ (σ1[0]? = some (.row g0_0 0 7 7 [[V.t (.str x.nm), V.t (.str x.cn), V.t (.sl gax_ (x.vs.map fun s => [T.str s])), V.t (.sl gbx_ (x.ps.map fun s => [T.str s])), V.t (.int .i64 kx_), V.t (.str nx_), V.t (.sl gx_ csx_)]])) ∧ (Tb σ1 1 (Ds acc) S1 v1) ∧ (∀ r ∈ S1, 1 ≤ r) ∧ (acc = rpt x.cn x.vs)) (fun KJ3 hKJ3 => ?_) ?_
  · skip
    refine vc_seq fun K4 hK4 => ?_
    refine vc_reg ?_
    refine vcX_cut 4 fun K5 hK5 => ?_
    try simp (disch := omega) only [go_sem, ↓reduceIte, Nat.reduceEqDiff, reduceCtorEq, Nat.reduceAdd, Nat.reduceLeDiff, Nat.reduceMul, Int.reduceNeg, Int.reduceLT, Int.reduceAdd, Int.reduceSub, List.getElem?_cons_zero]
    refine hK5 _ ?_
    refine vcX_bool (fun hb2_3 => ?_) (fun hb2_3 => ?_)
    · (try simp only [go_sem] at hb2_3)
      try simp (disch := omega) only [go_sem, ↓reduceIte, Nat.reduceEqDiff, reduceCtorEq, Nat.reduceAdd, Nat.reduceLeDiff, Nat.reduceMul, Int.reduceNeg, Int.reduceLT, Int.reduceAdd, Int.reduceSub, List.getElem?_cons_zero]
      refine hK4 _ ?_
      refine vc_cond (t := _) rfl (fun hc1 => ?_) (fun hc1 => ?_)
      · (try simp only [go_sem] at hc1)
        have hjz := jn_size x.vs
        have hs40 : (#[40] : Array UInt8).size = 1 := rfl
        have hs41 : (#[41] : Array UInt8).size = 1 := rfl
        have hz1 : ¬ (IntKind.i64.max < ((x.cn.size + (#[40] : Array UInt8).size : Nat) : Int)) := by rw [i64max, hs40]; omega
        have hz2 : ¬ (IntKind.i64.max < ((x.cn.size + (#[40] : Array UInt8).size + (jn x.vs ⟨#[44]⟩).size : Nat) : Int)) := by rw [i64max, hs40]; omega
        have hz3 : ¬ (IntKind.i64.max < ((x.cn.size + (#[40] : Array UInt8).size + (jn x.vs ⟨#[44]⟩).size + (#[41] : Array UInt8).size : Nat) : Int)) := by rw [i64max, hs40, hs41]; omega
        refine vc_regD [(0, false), (1, false), (2, false), (3, false), (4, false), (5, false), (6, false), (7, false), (8, false), (9, false), (10, true), (11, false)] (by kernel_rfl) ?_
        try simp (disch := omega) only [go_sem, ↓reduceIte, Nat.reduceEqDiff, reduceCtorEq, Nat.reduceAdd, Nat.reduceLeDiff, Nat.reduceMul, Int.reduceNeg, Int.reduceLT, Int.reduceAdd, Int.reduceSub, List.getElem_cons_zero, List.getElem_cons_succ, hz1, hz2, hz3]
        refine vcX_call _ _ (spec_Join gax_ x.vs ⟨#[44]⟩ (by omega) (by show 1 ≤ _; omega)) rfl rfl (by first | rfl | simp [V.pures, V.pure, V.pures_t]) ?_
        rintro r3_6 h3_6 hh3_6 rfl -
        try simp (disch := omega) only [go_sem, ↓reduceIte, Nat.reduceEqDiff, reduceCtorEq, Nat.reduceAdd, Nat.reduceLeDiff, Nat.reduceMul, Int.reduceNeg, Int.reduceLT, Int.reduceAdd, Int.reduceSub, List.getElem_cons_zero, List.getElem_cons_succ, hz1, hz2, hz3]
        refine .inl ⟨by simp [bsOk], fun g3_9 hg3_9 => ?_⟩
        try simp (disch := omega) only [go_sem, ↓reduceIte, Nat.reduceEqDiff, reduceCtorEq, Nat.reduceAdd, Nat.reduceLeDiff, Nat.reduceMul, Int.reduceNeg, Int.reduceLT, Int.reduceAdd, Int.reduceSub, List.getElem_cons_zero, List.getElem_cons_succ, hz1, hz2, hz3]
        refine x_appT [V.t (.str (x.cn ++ ⟨#[40]⟩ ++ jn x.vs ⟨#[44]⟩ ++ ⟨#[41]⟩))] (show tElem Tryz.prog 36 = some 9 by kernel_rfl) (show tSize Tryz.prog 9 = some 1 by kernel_rfl) (show tZero Tryz.prog 9 = some [.t (.str ⟨#[]⟩)] by kernel_rfl) (show tBytes Tryz.prog 9 = some 16 by kernel_rfl) rfl (show Tb _ 1 [] [1] (.own 1 0 0 0) from .inr ⟨1, g1_0, 0, 0, [], [], rfl, by simp, rfl, rfl, TrLL_nil, fun e he => by cases he⟩) rfl (by simp) (TrL_one Tr_str) rfl (Dj_nil _) (by decide) ?_
        rintro v3_10 S3_10 σ3_10 h3_10 hT3_10 hk3_10 hS3_10 hl3_10 hle3_10 hh3_10
        try simp (disch := omega) only [go_sem, ↓reduceIte, Nat.reduceEqDiff, reduceCtorEq, Nat.reduceAdd, Nat.reduceLeDiff, Nat.reduceMul, Int.reduceNeg, Int.reduceLT, Int.reduceAdd, Int.reduceSub, List.getElem_cons_zero, List.getElem_cons_succ, hz1, hz2, hz3]
        refine hKJ3 _ ⟨[x.cn ++ ⟨#[40]⟩ ++ jn x.vs ⟨#[44]⟩ ++ ⟨#[41]⟩], S3_10, v3_10, _, (by first | rfl | simp), (by first | rfl | assumption), (by first | rfl | assumption), ?_, ?_, ?_, ?_⟩
        · exact (hk3_10 0 (by simp) (by simp)).trans rfl
        · exact hT3_10
        · exact fun r hr => (hS3_10 r hr).elim (fun h => by simp at h; omega) (fun h => h.elim (fun h => by cases h) (fun h => by simp at h; omega))
        · rw [rpt, if_neg hb2_3, ptx, if_neg (by omega)]
      · (try simp only [go_sem] at hc1)
        refine vc_seq fun K7 hK7 => ?_
        refine vc_reg ?_
        try simp (disch := omega) only [go_sem, ↓reduceIte, Nat.reduceEqDiff, reduceCtorEq, Nat.reduceAdd, Nat.reduceLeDiff, Nat.reduceMul, Int.reduceNeg, Int.reduceLT, Int.reduceAdd, Int.reduceSub]
        refine hK7 _ ?_
        refine vc_cond (t := _) rfl (fun hc2 => ?_) (fun hc2 => ?_)
        · (try simp only [go_sem] at hc2)
          refine vc_reg ?_
          try simp (disch := omega) only [go_sem, ↓reduceIte, Nat.reduceEqDiff, reduceCtorEq, Nat.reduceAdd, Nat.reduceLeDiff, Nat.reduceMul, Int.reduceNeg, Int.reduceLT, Int.reduceAdd, Int.reduceSub]
          refine .inl ⟨by simp [bsOk], fun g5_3 hg5_3 => ?_⟩
          try simp (disch := omega) only [go_sem, ↓reduceIte, Nat.reduceEqDiff, reduceCtorEq, Nat.reduceAdd, Nat.reduceLeDiff, Nat.reduceMul, Int.reduceNeg, Int.reduceLT, Int.reduceAdd, Int.reduceSub]
          refine x_appT [V.t (.str x.cn)] (show tElem Tryz.prog 36 = some 9 by kernel_rfl) (show tSize Tryz.prog 9 = some 1 by kernel_rfl) (show tZero Tryz.prog 9 = some [.t (.str ⟨#[]⟩)] by kernel_rfl) (show tBytes Tryz.prog 9 = some 16 by kernel_rfl) rfl (show Tb _ 1 [] [1] (.own 1 0 0 0) from .inr ⟨1, g1_0, 0, 0, [], [], rfl, by simp, rfl, rfl, TrLL_nil, fun e he => by cases he⟩) rfl (by simp) (TrL_one Tr_str) rfl (Dj_nil _) (by decide) ?_
          rintro v5_4 S5_4 σ5_4 h5_4 hT5_4 hk5_4 hS5_4 hl5_4 hle5_4 hh5_4
          try simp (disch := omega) only [go_sem, ↓reduceIte, Nat.reduceEqDiff, reduceCtorEq, Nat.reduceAdd, Nat.reduceLeDiff, Nat.reduceMul, Int.reduceNeg, Int.reduceLT, Int.reduceAdd, Int.reduceSub]
          refine hKJ3 _ ⟨[x.cn], S5_4, v5_4, _, (by first | rfl | simp), (by first | rfl | assumption), (by first | rfl | assumption), ?_, ?_, ?_, ?_⟩
          · exact (hk5_4 0 (by simp) (by simp)).trans rfl
          · exact hT5_4
          · exact fun r hr => (hS5_4 r hr).elim (fun h => by simp at h; omega) (fun h => h.elim (fun h => by cases h) (fun h => by simp at h; omega))
          · rw [rpt, if_neg hb2_3, ptx, if_pos (by omega)]
        · (try simp only [go_sem] at hc2)
          refine vc_skip ?_
          refine hKJ3 _ ⟨[], [1], .own 1 0 0 0, _, (by first | rfl | simp), (by first | rfl | assumption), (by first | rfl | assumption), ?_, ?_, ?_, ?_⟩
          · rfl
          · exact .inr ⟨1, g1_0, 0, 0, [], [], rfl, by simp, rfl, rfl, TrLL_nil, fun e he => by cases he⟩
          · exact fun r hr => by simp at hr; omega
          · rw [rpt, if_pos (by assumption)]
    · (try simp only [go_sem] at hb2_3)
      try simp (disch := omega) only [go_sem, ↓reduceIte, Nat.reduceEqDiff, reduceCtorEq, Nat.reduceAdd, Nat.reduceLeDiff, Nat.reduceMul, Int.reduceNeg, Int.reduceLT, Int.reduceAdd, Int.reduceSub, List.getElem?_cons_zero]
      refine hK4 _ ?_
      refine vc_cond (t := _) rfl (fun hc3 => ?_) (fun hc3 => ?_)
      · exact absurd hc3 (by simp)
      · (try simp only [go_sem] at hc3)
        refine vc_seq fun K8 hK8 => ?_
        refine vc_reg ?_
        try simp (disch := omega) only [go_sem, ↓reduceIte, Nat.reduceEqDiff, reduceCtorEq, Nat.reduceAdd, Nat.reduceLeDiff, Nat.reduceMul, Int.reduceNeg, Int.reduceLT, Int.reduceAdd, Int.reduceSub]
        refine hK8 _ ?_
        refine vc_cond (t := _) rfl (fun hc4 => ?_) (fun hc4 => ?_)
        · (try simp only [go_sem] at hc4)
          refine vc_reg ?_
          try simp (disch := omega) only [go_sem, ↓reduceIte, Nat.reduceEqDiff, reduceCtorEq, Nat.reduceAdd, Nat.reduceLeDiff, Nat.reduceMul, Int.reduceNeg, Int.reduceLT, Int.reduceAdd, Int.reduceSub]
          refine .inl ⟨by simp [bsOk], fun g5_3 hg5_3 => ?_⟩
          try simp (disch := omega) only [go_sem, ↓reduceIte, Nat.reduceEqDiff, reduceCtorEq, Nat.reduceAdd, Nat.reduceLeDiff, Nat.reduceMul, Int.reduceNeg, Int.reduceLT, Int.reduceAdd, Int.reduceSub]
          refine x_appT [V.t (.str x.cn)] (show tElem Tryz.prog 36 = some 9 by kernel_rfl) (show tSize Tryz.prog 9 = some 1 by kernel_rfl) (show tZero Tryz.prog 9 = some [.t (.str ⟨#[]⟩)] by kernel_rfl) (show tBytes Tryz.prog 9 = some 16 by kernel_rfl) rfl (show Tb _ 1 [] [1] (.own 1 0 0 0) from .inr ⟨1, g1_0, 0, 0, [], [], rfl, by simp, rfl, rfl, TrLL_nil, fun e he => by cases he⟩) rfl (by simp) (TrL_one Tr_str) rfl (Dj_nil _) (by decide) ?_
          rintro v5_4 S5_4 σ5_4 h5_4 hT5_4 hk5_4 hS5_4 hl5_4 hle5_4 hh5_4
          try simp (disch := omega) only [go_sem, ↓reduceIte, Nat.reduceEqDiff, reduceCtorEq, Nat.reduceAdd, Nat.reduceLeDiff, Nat.reduceMul, Int.reduceNeg, Int.reduceLT, Int.reduceAdd, Int.reduceSub]
          refine hKJ3 _ ⟨[x.cn], S5_4, v5_4, _, (by first | rfl | simp), (by first | rfl | assumption), (by first | rfl | assumption), ?_, ?_, ?_, ?_⟩
          · exact (hk5_4 0 (by simp) (by simp)).trans rfl
          · exact hT5_4
          · exact fun r hr => (hS5_4 r hr).elim (fun h => by simp at h; omega) (fun h => h.elim (fun h => by cases h) (fun h => by simp at h; omega))
          · exfalso; simp_all
        · (try simp only [go_sem] at hc4)
          refine vc_skip ?_
          refine hKJ3 _ ⟨[], [1], .own 1 0 0 0, _, (by first | rfl | simp), (by first | rfl | assumption), (by first | rfl | assumption), ?_, ?_, ?_, ?_⟩
          · rfl
          · exact .inr ⟨1, g1_0, 0, 0, [], [], rfl, by simp, rfl, rfl, TrLL_nil, fun e he => by cases he⟩
          · exact fun r hr => by simp at hr; omega
          · rw [rpt, if_pos (by assumption)]
  · skip
    rintro ⟨e, σ, h⟩ ⟨acc, S1, v1, σ1, hσ, e1, e3, h0_, hT1, hS1, hacc⟩
    simp only at hσ e1 e3
    subst hσ
    refine vc_seq fun K9 hK9 => ?_
    refine vc_reg ?_
    try simp (disch := omega) only [go_sem, ↓reduceIte, Nat.reduceEqDiff, reduceCtorEq, Nat.reduceAdd, Nat.reduceLeDiff, Nat.reduceMul, Int.reduceNeg, Int.reduceLT, Int.reduceAdd, Int.reduceSub, e1, e3, h0_, Vs_of]
    refine x_appS x.ps (show tElem Tryz.prog 36 = some 9 by kernel_rfl) (show tSize Tryz.prog 9 = some 1 by kernel_rfl) (show tZero Tryz.prog 9 = some [.t (.str ⟨#[]⟩)] by kernel_rfl) (show tBytes Tryz.prog 9 = some 16 by kernel_rfl) rfl hT1 (by first | rfl | (simp (disch := omega) only [go_sem, ↓reduceIte, Nat.reduceEqDiff, reduceCtorEq, Nat.reduceAdd, Nat.reduceLeDiff, Nat.reduceMul, Int.reduceNeg, Int.reduceLT, Int.reduceAdd, Int.reduceSub, e1, e3, h0_, Vs_of, appElems, St.elems])) (by simp) (by have hrz := rpt_size x.cn x.vs; rw [← hacc] at hrz; omega) ?_
    rintro v6_3 S6_3 σ6_3 h6_3 hT6_3 hk6_3 hS6_3 hh6_3
    try simp (disch := omega) only [go_sem, ↓reduceIte, Nat.reduceEqDiff, reduceCtorEq, Nat.reduceAdd, Nat.reduceLeDiff, Nat.reduceMul, Int.reduceNeg, Int.reduceLT, Int.reduceAdd, Int.reduceSub, e1, e3, h0_, Vs_of]
    refine hK9 _ ?_
    refine vc_seq fun K10 hK10 => ?_
    obtain ⟨gl, hlend⟩ := hT6_3.lend
    rw [Ds_er] at hlend
    have hrz := rpt_size x.cn x.vs
    rw [← hacc] at hrz
    have hfz := fx_size (x := x) (by omega)
    have hpz : (acc ++ x.ps).length + sumB (acc ++ x.ps) ≤ 4194304 := by rw [List.length_append, sumB_app]; omega
    have hjz := jn_size (acc ++ x.ps)
    have h0n := (hk6_3 0 (List.getElem?_eq_some_iff.1 h0_).1 (fun hx => by have := hS1 0 hx; omega)).trans h0_
    have hs40 : (#[40] : Array UInt8).size = 1 := rfl
    have hs4 : (#[41, 32, 61, 32] : Array UInt8).size = 4 := rfl
    have hz1 : ¬ (IntKind.i64.max < ((x.nm.size + (#[40] : Array UInt8).size : Nat) : Int)) := by rw [i64max, hs40]; omega
    have hz2 : ¬ (IntKind.i64.max < ((x.nm.size + (#[40] : Array UInt8).size + (jn (acc ++ x.ps) ⟨#[44]⟩).size : Nat) : Int)) := by rw [i64max, hs40]; omega
    have hz3 : ¬ (IntKind.i64.max < ((x.nm.size + (#[40] : Array UInt8).size + (jn (acc ++ x.ps) ⟨#[44]⟩).size + (#[41, 32, 61, 32] : Array UInt8).size : Nat) : Int)) := by rw [i64max, hs40, hs4]; omega
    have hz4 : ¬ (IntKind.i64.max < ((x.nm.size + (#[40] : Array UInt8).size + (jn (acc ++ x.ps) ⟨#[44]⟩).size + (#[41, 32, 61, 32] : Array UInt8).size + ((if (decide ((x.bd.sz : Int) ≤ 80) && (decide ((x.bd.dp : Int) ≤ 24) && x.bd.af)) = true then x.bd.tx else ⟨#[]⟩)).size : Nat) : Int)) := by rw [i64max, hs40, hs4]; omega
    refine vc_regD [(0, false), (1, false), (2, false), (3, false), (7, false), (8, false), (4, false), (5, false), (6, false), (9, false), (10, false), (11, false)] (by kernel_rfl) ?_
    try simp (disch := omega) only [go_sem, ↓reduceIte, Nat.reduceEqDiff, reduceCtorEq, Nat.reduceAdd, Nat.reduceLeDiff, Nat.reduceMul, Int.reduceNeg, Int.reduceLT, Int.reduceAdd, Int.reduceSub, e1, e3, List.getElem_cons_zero, List.getElem_cons_succ, h0n, hz1, hz2, hz3, hz4]
    refine vcX_callS (caps := []) S6_3 [.t (.sl gl (Ts (acc ++ x.ps))), .t (.str ⟨#[44]⟩)] _ (spec_Join gl (acc ++ x.ps) ⟨#[44]⟩ (by omega) (by show 1 ≤ _; omega)) (by first | rfl | simp (disch := omega) only [go_sem, ↓reduceIte, Nat.reduceEqDiff, reduceCtorEq, Nat.reduceAdd, Nat.reduceLeDiff, Nat.reduceMul, Int.reduceNeg, Int.reduceLT, Int.reduceAdd, Int.reduceSub, e1, e3, List.getElem_cons_zero, List.getElem_cons_succ, h0n, hz1, hz2, hz3, hz4]) ?_ ?_
    · show Subs [V.loc _ [] S6_3 v6_3, V.t (.str ⟨#[44]⟩)] _
      exact Subs.cons hlend (Subs.cons (.refl _) (Subs.nil))
    rintro r7_4 h7_4 hh7_4 rfl -
    refine ⟨fun q hq o ho hm => by simp [V.ids, T.ids] at hm, ?_⟩
    try simp (disch := omega) only [go_sem, ↓reduceIte, Nat.reduceEqDiff, reduceCtorEq, Nat.reduceAdd, Nat.reduceLeDiff, Nat.reduceMul, Int.reduceNeg, Int.reduceLT, Int.reduceAdd, Int.reduceSub, e1, e3, List.getElem_cons_zero, List.getElem_cons_succ, h0n, hz1, hz2, hz3, hz4]
    refine vcX_call _ _ (spec_FormatExpr x.bd _ hvx_ (by omega)) rfl rfl (by first | rfl | simp [V.pures, V.pure, V.pures_t]) ?_
    rintro r7_9 h7_9 hh7_9 rfl -
    try simp (disch := omega) only [go_sem, ↓reduceIte, Nat.reduceEqDiff, reduceCtorEq, Nat.reduceAdd, Nat.reduceLeDiff, Nat.reduceMul, Int.reduceNeg, Int.reduceLT, Int.reduceAdd, Int.reduceSub, e1, e3, List.getElem_cons_zero, List.getElem_cons_succ, h0n, hz1, hz2, hz3, hz4]
    refine hK10 _ ?_
    refine vc_ret ?_
    refine ⟨_, by first | rfl | (simp only [go_sem, resQ, List.mapM_cons, List.mapM_nil, ↓reduceIte, Nat.reduceEqDiff, Nat.reduceAdd, Nat.reduceLeDiff, reduceCtorEq]; rfl), [], [], .nil, by simp, by simp, fun hi_ h1_ => ⟨?_, rfl, rfl⟩, by simp⟩
    rw [rtx, ← hacc]; rfl
end Go.Proofs.YtldhhppfnhgcdaaGreat
