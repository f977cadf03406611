/- Walks through the code: each function's contract. -/
import Derived.Test.YtldhhppfnhgcdaaGreatWB7Q
import Derived.Test.YtldhhppfnhgcdaaGreatWA9Q
set_option linter.unusedVariables false
set_option linter.unusedSimpArgs false
set_option maxRecDepth 8000
namespace Go.Proofs.YtldhhppfnhgcdaaGreat
open Go Go.VL

/-- The rules' texts, a line each. -/
def rts (us : List Ru) : ByteArray := us.foldl (fun s x => s ++ rtx x ++ ⟨#[10]⟩) ⟨#[]⟩
theorem rts_take {us : List Ru} {n : Nat} (h : n < us.length) : rts (us.take (n + 1)) = rts (us.take n) ++ rtx us[n] ++ ⟨#[10]⟩ := by
  rw [rts, List.take_add_one, List.getElem?_eq_getElem h, List.foldl_append]
  rfl
theorem rtx_size {x : Ru} (hw : x.wt ≤ 1048576) : (rtx x).size ≤ 16000000 := by
  have h1 := rpt_size x.cn x.vs
  have h2 := jn_size (rpt x.cn x.vs ++ x.ps)
  have hw1 := hw
  rw [Ru.wt] at hw1
  have h3 := fx_size (x := x) (by omega)
  rw [List.length_append, sumB_app] at h2
  rw [rtx, ByteArray.size_append, ByteArray.size_append, ByteArray.size_append, ByteArray.size_append, show (⟨#[40]⟩ : ByteArray).size = 1 from rfl, show (⟨#[41, 32, 61, 32]⟩ : ByteArray).size = 4 from rfl]
  omega
def fmtP (us : List Ru) : ByteArray := if validB us = true then rts us else ⟨#[]⟩

set_option maxHeartbeats 1000000 in
/-- impl.FormatProgram -/
theorem impl_FormatProgram (us : List Ru) (c : List T) (hc : Pg.rep us c) (hw : wl Ru.wt us ≤ 1048576) : FCtr Tryz.prog 7 [.agg (c.map .t)] (fun r => r = .t (.str (fmtP us))) := by
  have hc0 := hc
  obtain ⟨g, cs, rfl, ha⟩ := hc
  have hl1_ := wl_len Ru.wt us
  have hcl := ha.len
  refine Ctr.of_vc (rs := [.tmp 2]) (fn := Tryz.f7) mixed Tryz.func7 rfl rfl (by kernel_rfl) (by kernel_rfl) (by simp [Tryz.ntmps7]) (fun h0 => ?_)
  refine vc_seq fun K1 hK1 => ?_
  refine vc_reg ?_
  try simp (disch := omega) only [go_sem, ↓reduceIte, Nat.reduceEqDiff, reduceCtorEq, Nat.reduceAdd, Nat.reduceLeDiff, Nat.reduceMul, Int.reduceNeg, Int.reduceLT, Int.reduceAdd, Int.reduceSub, hcl]
  intro g0_0 hg0_0
  refine hK1 _ ?_
  refine vc_seq fun K2 hK2 => ?_
  refine vc_seq fun K3 hK3 => ?_
  refine vc_reg ?_
  try simp (disch := omega) only [go_sem, ↓reduceIte, Nat.reduceEqDiff, reduceCtorEq, Nat.reduceAdd, Nat.reduceLeDiff, Nat.reduceMul, Int.reduceNeg, Int.reduceLT, Int.reduceAdd, Int.reduceSub, hcl]
  refine vcX_call _ _ (impl_IsValidProgram us _ hc0 hw) rfl rfl (by first | rfl | simp [V.pures, V.pure, V.pures_t]) ?_
  rintro r1_1 h1_1 hh1_1 rfl -
  try simp (disch := omega) only [go_sem, ↓reduceIte, Nat.reduceEqDiff, reduceCtorEq, Nat.reduceAdd, Nat.reduceLeDiff, Nat.reduceMul, Int.reduceNeg, Int.reduceLT, Int.reduceAdd, Int.reduceSub, hcl]
  refine hK3 _ ?_
  refine vc_cond (t := _) rfl (fun hc1 => ?_) (fun hc1 => ?_)
  · (try simp only [go_sem] at hc1)
    have hvl := hc1
    refine vc_seq fun K4 hK4 => ?_
    refine vc_reg ?_
    try simp (disch := omega) only [go_sem, ↓reduceIte, Nat.reduceEqDiff, reduceCtorEq, Nat.reduceAdd, Nat.reduceLeDiff, Nat.reduceMul, Int.reduceNeg, Int.reduceLT, Int.reduceAdd, Int.reduceSub, hcl]
    refine hK4 _ ?_
    refine vc_ret ?_
    refine ⟨_, by first | rfl | (simp only [go_sem, resQ, List.mapM_cons, List.mapM_nil, ↓reduceIte, Nat.reduceEqDiff, Nat.reduceAdd, Nat.reduceLeDiff, reduceCtorEq]; rfl), [], [], .nil, by simp, by simp, fun hi_ h1_ => ⟨?_, rfl, rfl⟩, by simp⟩
    have h_ : fmtP us = ⟨#[]⟩ := by rw [fmtP, if_neg (by simp_all)]
    rw [h_]; rfl
  · (try simp only [go_sem] at hc1)
    have hvl := hc1
    refine vc_skip ?_
    refine hK2 _ ?_
    refine vc_seq fun K5 hK5 => ?_
    refine vc_reg ?_
    try simp (disch := omega) only [go_sem, ↓reduceIte, Nat.reduceEqDiff, reduceCtorEq, Nat.reduceAdd, Nat.reduceLeDiff, Nat.reduceMul, Int.reduceNeg, Int.reduceLT, Int.reduceAdd, Int.reduceSub, hcl]
    refine hK5 _ ?_
    refine vc_seq fun K6 hK6 => ?_
    refine vc_seq fun K7 hK7 => ?_
    refine vc_reg ?_
    try simp (disch := omega) only [go_sem, ↓reduceIte, Nat.reduceEqDiff, reduceCtorEq, Nat.reduceAdd, Nat.reduceLeDiff, Nat.reduceMul, Int.reduceNeg, Int.reduceLT, Int.reduceAdd, Int.reduceSub, hcl]
    refine hK7 _ ?_
    refine vc_block ?_
    refine vc_loopG (fun m s => ∃ (n : Nat) (acc : ByteArray), (m = us.length - n) ∧ (s.σ = [.row g0_0 0 1 1 [[V.t (.sl g cs)]]]) ∧ (s.env 1 = .ptr 0 0 0 0) ∧ (s.env 3 = .t (.str acc)) ∧ (s.env 10 = .t (.sl g cs)) ∧ (s.env 11 = .t (.int .i64 us.length)) ∧ (s.env 12 = .t (.int .i64 n)) ∧ (n ≤ us.length) ∧ (acc = rts (us.take n)) ∧ (acc.size ≤ n * 16777216)) (us.length - 0) ⟨0, ⟨#[]⟩, rfl, (by first | rfl | simp), (by first | rfl | assumption), (by first | rfl | assumption), (by first | rfl | assumption), (by first | rfl | assumption), (by first | rfl | assumption), (by first | rfl | omega | simp), (by rfl), (by exact Nat.zero_le _)⟩ ?_
    rintro m ⟨e, σ, h⟩ ⟨n, acc, hm, hσ, e1, e3, e10, e11, e12, hn, hacc, hsz⟩ K8 hK8 hG8
    simp only at hσ e1 e3 e10 e11 e12
    subst hσ
    refine vc_seq fun K9 hK9 => ?_
    refine vc_reg ?_
    try simp (disch := omega) only [go_sem, ↓reduceIte, Nat.reduceEqDiff, reduceCtorEq, Nat.reduceAdd, Nat.reduceLeDiff, Nat.reduceMul, Int.reduceNeg, Int.reduceLT, Int.reduceAdd, Int.reduceSub, e1, e3, e10, e11, e12, hcl]
    refine hK9 _ ?_
    refine vc_seq fun K10 hK10 => ?_
    refine vc_cond (t := _) rfl (fun hc2 => ?_) (fun hc2 => ?_)
    · (try simp only [go_sem] at hc2)
      have hc5_ := hc2
      refine vc_skip ?_
      refine hK10 _ ?_
      refine vc_seq fun K11 hK11 => ?_
      refine vc_block ?_
      refine vc_seq fun K12 hK12 => ?_
      have hlt : n < us.length := hc5_
      obtain ⟨cc, hcc, hrc⟩ := Rl.get ha (n := n) hlt
      obtain ⟨gac_, gbc_, kc_, nc_, gc_, csc_, rfl, hvc_⟩ := Ru.cells hrc
      have hwm := wl_mem (f := Ru.wt) (List.getElem_mem hlt)
      rw [Ru.wt] at hwm
      have hszv := E.sz_wt us[n].bd
      have hev := evs_len us[n].bd []
      simp only [List.length_nil] at hev
      have hrs := rtx_size (x := us[n]) (by rw [Ru.wt]; omega)
      have hs10 : (#[10] : Array UInt8).size = 1 := rfl
      have hz1 : ¬ (IntKind.i64.max < (((rtx us[n]).size + (#[10] : Array UInt8).size : Nat) : Int)) := by rw [i64max, hs10]; omega
      have hz2 : ¬ (IntKind.i64.max < ((acc.size + ((rtx us[n]).size + (#[10] : Array UInt8).size) : Nat) : Int)) := by rw [i64max, hs10]; omega
      refine vc_reg ?_
      try simp (disch := omega) only [go_sem, ↓reduceIte, Nat.reduceEqDiff, reduceCtorEq, Nat.reduceAdd, Nat.reduceLeDiff, Nat.reduceMul, Int.reduceNeg, Int.reduceLT, Int.reduceAdd, Int.reduceSub, e1, e3, e10, e11, e12, hcl, hcc, setV]
      intro g6_2 hg6_2
      refine hK12 _ ?_
      refine vc_reg ?_
      try simp (disch := omega) only [go_sem, ↓reduceIte, Nat.reduceEqDiff, reduceCtorEq, Nat.reduceAdd, Nat.reduceLeDiff, Nat.reduceMul, Int.reduceNeg, Int.reduceLT, Int.reduceAdd, Int.reduceSub, e1, e3, e10, e11, e12, hcl, hz1, hz2]
      refine vcX_call _ _ (impl_FormatRule us[n] _ hrc (by rw [Ru.wt]; omega)) rfl rfl (by first | rfl | simp [V.pures, V.pure, V.pures_t]) ?_
      rintro r7_2 h7_2 hh7_2 rfl -
      try simp (disch := omega) only [go_sem, ↓reduceIte, Nat.reduceEqDiff, reduceCtorEq, Nat.reduceAdd, Nat.reduceLeDiff, Nat.reduceMul, Int.reduceNeg, Int.reduceLT, Int.reduceAdd, Int.reduceSub, e1, e3, e10, e11, e12, hcl, hz1, hz2]
      refine hK11 _ ?_
      refine vc_reg ?_
      try simp (disch := omega) only [go_sem, ↓reduceIte, Nat.reduceEqDiff, reduceCtorEq, Nat.reduceAdd, Nat.reduceLeDiff, Nat.reduceMul, Int.reduceNeg, Int.reduceLT, Int.reduceAdd, Int.reduceSub, e1, e3, e10, e11, e12, hcl]
      refine hG8 _ _ [0] [] ?_ (by simp) (by simp) (by simp) ⟨n + 1, acc ++ (rtx us[n] ++ ⟨#[10]⟩), rfl, (by first | rfl | (simp (disch := omega) only [go_sem, ↓reduceIte, Nat.reduceEqDiff, reduceCtorEq, Nat.reduceAdd, Nat.reduceLeDiff, Nat.reduceMul, Int.reduceNeg, Int.reduceLT, Int.reduceAdd, Int.reduceSub, e1, e3, e10, e11, e12, hcl, gc_σ, locObs, Ob.loc, V.loc, V.locs, idx]; done) | (simp [gc_σ, locObs, Ob.loc, V.loc, Function.comp_def, List.take_of_length_le]; done)), (by first | rfl | (simp (disch := omega) only [go_sem, ↓reduceIte, Nat.reduceEqDiff, reduceCtorEq, Nat.reduceAdd, Nat.reduceLeDiff, Nat.reduceMul, Int.reduceNeg, Int.reduceLT, Int.reduceAdd, Int.reduceSub, e1, e3, e10, e11, e12, hcl, gc_env, V.loc, V.locs, idx]; done) | (simp (disch := omega) only [go_sem, ↓reduceIte, Nat.reduceEqDiff, reduceCtorEq, Nat.reduceAdd, Nat.reduceLeDiff, Nat.reduceMul, Int.reduceNeg, Int.reduceLT, Int.reduceAdd, Int.reduceSub, e1, e3, e10, e11, e12, hcl, gc_env, V.loc, V.locs, idx]; simp; done)), (by first | rfl | (simp (disch := omega) only [go_sem, ↓reduceIte, Nat.reduceEqDiff, reduceCtorEq, Nat.reduceAdd, Nat.reduceLeDiff, Nat.reduceMul, Int.reduceNeg, Int.reduceLT, Int.reduceAdd, Int.reduceSub, e1, e3, e10, e11, e12, hcl, gc_env, V.loc, V.locs, idx]; done) | (simp (disch := omega) only [go_sem, ↓reduceIte, Nat.reduceEqDiff, reduceCtorEq, Nat.reduceAdd, Nat.reduceLeDiff, Nat.reduceMul, Int.reduceNeg, Int.reduceLT, Int.reduceAdd, Int.reduceSub, e1, e3, e10, e11, e12, hcl, gc_env, V.loc, V.locs, idx]; simp; done)), (by first | rfl | (simp (disch := omega) only [go_sem, ↓reduceIte, Nat.reduceEqDiff, reduceCtorEq, Nat.reduceAdd, Nat.reduceLeDiff, Nat.reduceMul, Int.reduceNeg, Int.reduceLT, Int.reduceAdd, Int.reduceSub, e1, e3, e10, e11, e12, hcl, gc_env, V.loc, V.locs, idx]; done) | (simp (disch := omega) only [go_sem, ↓reduceIte, Nat.reduceEqDiff, reduceCtorEq, Nat.reduceAdd, Nat.reduceLeDiff, Nat.reduceMul, Int.reduceNeg, Int.reduceLT, Int.reduceAdd, Int.reduceSub, e1, e3, e10, e11, e12, hcl, gc_env, V.loc, V.locs, idx]; simp; done)), (by first | rfl | (simp (disch := omega) only [go_sem, ↓reduceIte, Nat.reduceEqDiff, reduceCtorEq, Nat.reduceAdd, Nat.reduceLeDiff, Nat.reduceMul, Int.reduceNeg, Int.reduceLT, Int.reduceAdd, Int.reduceSub, e1, e3, e10, e11, e12, hcl, gc_env, V.loc, V.locs, idx]; done) | (simp (disch := omega) only [go_sem, ↓reduceIte, Nat.reduceEqDiff, reduceCtorEq, Nat.reduceAdd, Nat.reduceLeDiff, Nat.reduceMul, Int.reduceNeg, Int.reduceLT, Int.reduceAdd, Int.reduceSub, e1, e3, e10, e11, e12, hcl, gc_env, V.loc, V.locs, idx]; simp; done)), (by first | rfl | (simp (disch := omega) only [go_sem, ↓reduceIte, Nat.reduceEqDiff, reduceCtorEq, Nat.reduceAdd, Nat.reduceLeDiff, Nat.reduceMul, Int.reduceNeg, Int.reduceLT, Int.reduceAdd, Int.reduceSub, e1, e3, e10, e11, e12, hcl, gc_env, V.loc, V.locs, idx]; done) | (simp (disch := omega) only [go_sem, ↓reduceIte, Nat.reduceEqDiff, reduceCtorEq, Nat.reduceAdd, Nat.reduceLeDiff, Nat.reduceMul, Int.reduceNeg, Int.reduceLT, Int.reduceAdd, Int.reduceSub, e1, e3, e10, e11, e12, hcl, gc_env, V.loc, V.locs, idx]; simp; done)), ?_, ?_, ?_⟩
      · omega
      · first | omega | assumption | rfl | simp_all
      · rw [rts_take hlt, hacc, ByteArray.append_assoc]
      · rw [ByteArray.size_append, ByteArray.size_append, show (⟨#[10]⟩ : ByteArray).size = 1 from rfl]; omega
    · (try simp only [go_sem] at hc2)
      refine vc_exit ?_
      refine hK6 _ ?_
      refine vc_seq fun K13 hK13 => ?_
      refine vc_reg ?_
      try simp (disch := omega) only [go_sem, ↓reduceIte, Nat.reduceEqDiff, reduceCtorEq, Nat.reduceAdd, Nat.reduceLeDiff, Nat.reduceMul, Int.reduceNeg, Int.reduceLT, Int.reduceAdd, Int.reduceSub, e1, e3, e10, e11, e12, hcl]
      refine hK13 _ ?_
      refine vc_ret ?_
      refine ⟨_, by first | rfl | (simp only [go_sem, resQ, List.mapM_cons, List.mapM_nil, ↓reduceIte, Nat.reduceEqDiff, Nat.reduceAdd, Nat.reduceLeDiff, reduceCtorEq]; rfl), [], [], .nil, by simp, by simp, fun hi_ h1_ => ⟨?_, rfl, rfl⟩, by simp⟩
      have h_ : fmtP us = acc := by rw [fmtP, if_pos (by simpa using hvl), hacc, List.take_of_length_le (by omega)]
      rw [h_]; rfl

set_option maxHeartbeats 1000000 in
/-- spec.FormatProgram -/
theorem spec_FormatProgram (us : List Ru) (c : List T) (hc : Pg.rep us c) (hw : wl Ru.wt us ≤ 1048576) : FCtr Tryz.prog 5 [.agg (c.map .t)] (fun r => r = .t (.str (fmtP us))) := by
  have hc0 := hc
  obtain ⟨g, cs, rfl, ha⟩ := hc
  have hl1_ := wl_len Ru.wt us
  have hcl := ha.len
  refine Ctr.of_vc (rs := [.tmp 2]) (fn := Tryz.f5) mixed Tryz.func5 rfl rfl (by kernel_rfl) (by kernel_rfl) (by simp [Tryz.ntmps5]) (fun h0 => ?_)
  refine vc_seq fun K1 hK1 => ?_
  refine vc_reg ?_
  try simp (disch := omega) only [go_sem, ↓reduceIte, Nat.reduceEqDiff, reduceCtorEq, Nat.reduceAdd, Nat.reduceLeDiff, Nat.reduceMul, Int.reduceNeg, Int.reduceLT, Int.reduceAdd, Int.reduceSub, hcl]
  intro g0_0 hg0_0
  refine hK1 _ ?_
  refine vc_seq fun K2 hK2 => ?_
  refine vc_reg ?_
  try simp (disch := omega) only [go_sem, ↓reduceIte, Nat.reduceEqDiff, reduceCtorEq, Nat.reduceAdd, Nat.reduceLeDiff, Nat.reduceMul, Int.reduceNeg, Int.reduceLT, Int.reduceAdd, Int.reduceSub, hcl]
  refine hK2 _ ?_
  refine vc_seq fun K3 hK3 => ?_
  refine vc_seq fun K4 hK4 => ?_
  refine vc_reg ?_
  try simp (disch := omega) only [go_sem, ↓reduceIte, Nat.reduceEqDiff, reduceCtorEq, Nat.reduceAdd, Nat.reduceLeDiff, Nat.reduceMul, Int.reduceNeg, Int.reduceLT, Int.reduceAdd, Int.reduceSub, hcl]
  refine hK4 _ ?_
  refine vc_block ?_
  refine vc_loop (fun m s => ∃ (n : Nat) (acc : ByteArray), (m = us.length - n) ∧ (s.σ = [.row g0_0 0 1 1 [[V.t (.sl g cs)]]]) ∧ (s.env 1 = .ptr 0 0 0 0) ∧ (s.env 3 = .t (.str acc)) ∧ (s.env 4 = .t (.int .i64 n)) ∧ (n ≤ us.length) ∧ (acc = rts (us.take n)) ∧ (acc.size ≤ n * 16777216) ∧ (n = 0 ∨ validB us = true)) (us.length - 0) ⟨0, ⟨#[]⟩, rfl, (by first | rfl | simp), (by first | rfl | assumption), (by first | rfl | assumption), (by first | rfl | assumption), (by first | rfl | omega | simp), (by rfl), (by exact Nat.zero_le _), (by exact .inl rfl)⟩ ?_
  rintro m ⟨e, σ, h⟩ ⟨n, acc, hm, hσ, e1, e3, e4, hn, hacc, hsz, hv0⟩ K5 hK5
  simp only at hσ e1 e3 e4
  subst hσ
  refine vc_seq fun K6 hK6 => ?_
  refine vc_seq fun K7 hK7 => ?_
  refine vc_reg ?_
  refine vcX_cut 6 fun K8 hK8 => ?_
  try simp (disch := omega) only [go_sem, ↓reduceIte, Nat.reduceEqDiff, reduceCtorEq, Nat.reduceAdd, Nat.reduceLeDiff, Nat.reduceMul, Int.reduceNeg, Int.reduceLT, Int.reduceAdd, Int.reduceSub, e1, e3, e4, hcl]
  refine hK8 _ ?_
  refine vcX_bool (fun hb3_5 => ?_) (fun hb3_5 => ?_)
  · (try simp only [go_sem] at hb3_5)
    try simp (disch := omega) only [go_sem, ↓reduceIte, Nat.reduceEqDiff, reduceCtorEq, Nat.reduceAdd, Nat.reduceLeDiff, Nat.reduceMul, Int.reduceNeg, Int.reduceLT, Int.reduceAdd, Int.reduceSub, e1, e3, e4, hcl]
    refine vcX_call _ _ (spec_IsValidProgram us _ hc0 hw) rfl rfl (by first | rfl | simp [V.pures, V.pure, V.pures_t]) ?_
    rintro r3_7 h3_7 hh3_7 rfl -
    try simp (disch := omega) only [go_sem, ↓reduceIte, Nat.reduceEqDiff, reduceCtorEq, Nat.reduceAdd, Nat.reduceLeDiff, Nat.reduceMul, Int.reduceNeg, Int.reduceLT, Int.reduceAdd, Int.reduceSub, e1, e3, e4, hcl]
    refine hK7 _ ?_
    refine vc_cond (t := _) rfl (fun hc1 => ?_) (fun hc1 => ?_)
    · (try simp only [go_sem] at hc1)
      have hvl := hc1
      refine vc_skip ?_
      refine hK6 _ ?_
      refine vc_seq fun K10 hK10 => ?_
      refine vc_block ?_
      have hlt : n < us.length := by first | exact hb3_5 | omega | simp_all
      obtain ⟨cc, hcc, hrc⟩ := Rl.get ha (n := n) hlt
      obtain ⟨gac_, gbc_, kc_, nc_, gc_, csc_, rfl, hvc_⟩ := Ru.cells hrc
      have hwm := wl_mem (f := Ru.wt) (List.getElem_mem hlt)
      rw [Ru.wt] at hwm
      have hszv := E.sz_wt us[n].bd
      have hev := evs_len us[n].bd []
      simp only [List.length_nil] at hev
      have hrs := rtx_size (x := us[n]) (by rw [Ru.wt]; omega)
      have hs10 : (#[10] : Array UInt8).size = 1 := rfl
      have hz1 : ¬ (IntKind.i64.max < ((acc.size + (rtx us[n]).size : Nat) : Int)) := by rw [i64max]; omega
      have hz2 : ¬ (IntKind.i64.max < ((acc.size + (rtx us[n]).size + (#[10] : Array UInt8).size : Nat) : Int)) := by rw [i64max, hs10]; omega
      refine vc_reg ?_
      try simp (disch := omega) only [go_sem, ↓reduceIte, Nat.reduceEqDiff, reduceCtorEq, Nat.reduceAdd, Nat.reduceLeDiff, Nat.reduceMul, Int.reduceNeg, Int.reduceLT, Int.reduceAdd, Int.reduceSub, e1, e3, e4, hcl, hcc, hz1, hz2]
      refine vcX_call _ _ (spec_FormatRule us[n] _ hrc (by rw [Ru.wt]; omega)) rfl rfl (by first | rfl | simp [V.pures, V.pure, V.pures_t]) ?_
      rintro r5_6 h5_6 hh5_6 rfl -
      try simp (disch := omega) only [go_sem, ↓reduceIte, Nat.reduceEqDiff, reduceCtorEq, Nat.reduceAdd, Nat.reduceLeDiff, Nat.reduceMul, Int.reduceNeg, Int.reduceLT, Int.reduceAdd, Int.reduceSub, e1, e3, e4, hcl, hcc, hz1, hz2]
      refine hK10 _ ?_
      refine vc_reg ?_
      try simp (disch := omega) only [go_sem, ↓reduceIte, Nat.reduceEqDiff, reduceCtorEq, Nat.reduceAdd, Nat.reduceLeDiff, Nat.reduceMul, Int.reduceNeg, Int.reduceLT, Int.reduceAdd, Int.reduceSub, e1, e3, e4, hcl]
      refine hK5 _ _ ?_ ⟨n + 1, acc ++ rtx us[n] ++ ⟨#[10]⟩, rfl, (by first | rfl | simp), (by first | rfl | assumption), (by first | rfl | assumption), (by first | rfl | assumption), ?_, ?_, ?_, ?_⟩
      · omega
      · first | omega | assumption | rfl | simp_all
      · rw [rts_take hlt, hacc]
      · rw [ByteArray.size_append, ByteArray.size_append, show (⟨#[10]⟩ : ByteArray).size = 1 from rfl]; omega
      · exact .inr (by simpa using hvl)
    · (try simp only [go_sem] at hc1)
      have hvl := hc1
      refine vc_exit ?_
      refine hK3 _ ?_
      refine vc_seq fun K11 hK11 => ?_
      refine vc_reg ?_
      try simp (disch := omega) only [go_sem, ↓reduceIte, Nat.reduceEqDiff, reduceCtorEq, Nat.reduceAdd, Nat.reduceLeDiff, Nat.reduceMul, Int.reduceNeg, Int.reduceLT, Int.reduceAdd, Int.reduceSub, e1, e3, e4, hcl]
      refine hK11 _ ?_
      refine vc_ret ?_
      refine ⟨_, by first | rfl | (simp only [go_sem, resQ, List.mapM_cons, List.mapM_nil, ↓reduceIte, Nat.reduceEqDiff, Nat.reduceAdd, Nat.reduceLeDiff, reduceCtorEq]; rfl), [], [], .nil, by simp, by simp, fun hi_ h1_ => ⟨?_, rfl, rfl⟩, by simp⟩
      have hvf : validB us = false := by simpa using hvl
      have hn0 : n = 0 := hv0.resolve_right (by rw [hvf]; simp)
      have h_ : fmtP us = acc := by
        rw [fmtP, if_neg (by rw [hvf]; simp), hacc, hn0]; rfl
      rw [h_]; rfl
  · (try simp only [go_sem] at hb3_5)
    try simp (disch := omega) only [go_sem, ↓reduceIte, Nat.reduceEqDiff, reduceCtorEq, Nat.reduceAdd, Nat.reduceLeDiff, Nat.reduceMul, Int.reduceNeg, Int.reduceLT, Int.reduceAdd, Int.reduceSub, e1, e3, e4, hcl]
    refine hK7 _ ?_
    refine vc_cond (t := _) rfl (fun hc2 => ?_) (fun hc2 => ?_)
    · exact absurd hc2 (by simp)
    · (try simp only [go_sem] at hc2)
      have hvl := hc2
      refine vc_exit ?_
      refine hK3 _ ?_
      refine vc_seq fun K12 hK12 => ?_
      refine vc_reg ?_
      try simp (disch := omega) only [go_sem, ↓reduceIte, Nat.reduceEqDiff, reduceCtorEq, Nat.reduceAdd, Nat.reduceLeDiff, Nat.reduceMul, Int.reduceNeg, Int.reduceLT, Int.reduceAdd, Int.reduceSub, e1, e3, e4, hcl]
      refine hK12 _ ?_
      refine vc_ret ?_
      refine ⟨_, by first | rfl | (simp only [go_sem, resQ, List.mapM_cons, List.mapM_nil, ↓reduceIte, Nat.reduceEqDiff, Nat.reduceAdd, Nat.reduceLeDiff, reduceCtorEq]; rfl), [], [], .nil, by simp, by simp, fun hi_ h1_ => ⟨?_, rfl, rfl⟩, by simp⟩
      have h_ : fmtP us = acc := by
        rw [hacc, List.take_of_length_le (by omega), fmtP]
        rcases hv0 with h | h
        · have h9 : us = [] := List.length_eq_zero_iff.1 (by omega)
          subst h9
          split <;> rfl
        · rw [if_pos h]
      rw [h_]; rfl

/-- laws.FnExactFormatProgram -/
theorem laws_FnExactFormatProgram (us : List Ru) (c : List T) (hc : Pg.rep us c) (hl : us.length ≤ reachBytes) (hs : ∀ x ∈ us, x.small) : FCtr Tryz.prog 3 [.agg (c.map .t)] (fun r => r = .t (.bool true)) := by
  have hc0 := hc
  obtain ⟨g, cs, rfl, ha⟩ := hc
  have reach := reach47
  have hl1_ := wl_len Ru.wt us
  refine Ctr.of_vc (rs := [.tmp 2]) (fn := Tryz.f3) mixed Tryz.func3 rfl rfl (by kernel_rfl) (by kernel_rfl) (by simp [Tryz.ntmps3]) (fun h0 => ?_)
  refine vc_seq fun K1 hK1 => ?_
  refine vc_reg ?_
  try simp (disch := omega) only [go_sem, ↓reduceIte, Nat.reduceEqDiff, reduceCtorEq, Nat.reduceAdd, Nat.reduceLeDiff, Nat.reduceMul, Int.reduceNeg, Int.reduceLT, Int.reduceAdd, Int.reduceSub]
  intro g0_0 hg0_0
  refine hK1 _ ?_
  refine vc_seq fun K2 hK2 => ?_
  refine vc_reg ?_
  try simp (disch := omega) only [go_sem, ↓reduceIte, Nat.reduceEqDiff, reduceCtorEq, Nat.reduceAdd, Nat.reduceLeDiff, Nat.reduceMul, Int.reduceNeg, Int.reduceLT, Int.reduceAdd, Int.reduceSub]
  refine hK2 _ ?_
  refine vc_seq fun K3 hK3 => ?_
  refine vc_reg ?_
  try simp (disch := omega) only [go_sem, ↓reduceIte, Nat.reduceEqDiff, reduceCtorEq, Nat.reduceAdd, Nat.reduceLeDiff, Nat.reduceMul, Int.reduceNeg, Int.reduceLT, Int.reduceAdd, Int.reduceSub]
  refine vcX_call _ _ (laws_szProgram us _ 1048576 hc0 hl hs (by omega)) rfl rfl (by first | rfl | simp [V.pures, V.pure, V.pures_t]) ?_
  rintro r2_2 h2_2 hh2_2 ⟨m, rfl, hm⟩ -
  try simp (disch := omega) only [go_sem, ↓reduceIte, Nat.reduceEqDiff, reduceCtorEq, Nat.reduceAdd, Nat.reduceLeDiff, Nat.reduceMul, Int.reduceNeg, Int.reduceLT, Int.reduceAdd, Int.reduceSub]
  refine hK3 _ ?_
  refine vc_seq fun K4 hK4 => ?_
  refine vc_seq fun K5 hK5 => ?_
  refine vc_reg ?_
  try simp (disch := omega) only [go_sem, ↓reduceIte, Nat.reduceEqDiff, reduceCtorEq, Nat.reduceAdd, Nat.reduceLeDiff, Nat.reduceMul, Int.reduceNeg, Int.reduceLT, Int.reduceAdd, Int.reduceSub]
  refine hK5 _ ?_
  refine vc_cond (t := _) rfl (fun hc1 => ?_) (fun hc1 => ?_)
  · (try simp only [go_sem] at hc1)
    refine vc_seq fun K6 hK6 => ?_
    refine vc_reg ?_
    try simp (disch := omega) only [go_sem, ↓reduceIte, Nat.reduceEqDiff, reduceCtorEq, Nat.reduceAdd, Nat.reduceLeDiff, Nat.reduceMul, Int.reduceNeg, Int.reduceLT, Int.reduceAdd, Int.reduceSub]
    refine hK6 _ ?_
    refine vc_ret ?_
    refine ⟨_, by first | rfl | (simp only [go_sem, resQ, List.mapM_cons, List.mapM_nil, ↓reduceIte, Nat.reduceEqDiff, Nat.reduceAdd, Nat.reduceLeDiff, reduceCtorEq]; rfl), [], [], .nil, by simp, by simp, fun hi_ h1_ => ⟨?_, rfl, rfl⟩, by simp⟩
    first | rfl | simp_all
  · (try simp only [go_sem] at hc1)
    have hw : wl Ru.wt us ≤ 1048576 := by omega
    refine vc_skip ?_
    refine hK4 _ ?_
    refine vc_seq fun K7 hK7 => ?_
    refine vc_reg ?_
    try simp (disch := omega) only [go_sem, ↓reduceIte, Nat.reduceEqDiff, reduceCtorEq, Nat.reduceAdd, Nat.reduceLeDiff, Nat.reduceMul, Int.reduceNeg, Int.reduceLT, Int.reduceAdd, Int.reduceSub]
    refine vcX_call _ _ (laws_toProgram us _ hc0 (by omega)) rfl rfl (by first | rfl | simp [V.pures, V.pure, V.pures_t]) ?_
    rintro r5_1 h5_1 hh5_1 ⟨c1, rfl, hc1_⟩ -
    try simp (disch := omega) only [go_sem, ↓reduceIte, Nat.reduceEqDiff, reduceCtorEq, Nat.reduceAdd, Nat.reduceLeDiff, Nat.reduceMul, Int.reduceNeg, Int.reduceLT, Int.reduceAdd, Int.reduceSub]
    refine vcX_call _ _ (spec_FormatProgram us _ hc1_ hw) rfl rfl (by first | rfl | simp [V.pures, V.pure, V.pures_t]) ?_
    rintro r5_2 h5_2 hh5_2 rfl -
    try simp (disch := omega) only [go_sem, ↓reduceIte, Nat.reduceEqDiff, reduceCtorEq, Nat.reduceAdd, Nat.reduceLeDiff, Nat.reduceMul, Int.reduceNeg, Int.reduceLT, Int.reduceAdd, Int.reduceSub]
    refine hK7 _ ?_
    refine vc_seq fun K8 hK8 => ?_
    refine vc_reg ?_
    try simp (disch := omega) only [go_sem, ↓reduceIte, Nat.reduceEqDiff, reduceCtorEq, Nat.reduceAdd, Nat.reduceLeDiff, Nat.reduceMul, Int.reduceNeg, Int.reduceLT, Int.reduceAdd, Int.reduceSub]
    refine vcX_call _ _ (laws_toProgram us _ hc0 (by omega)) rfl rfl (by first | rfl | simp [V.pures, V.pure, V.pures_t]) ?_
    rintro r6_1 h6_1 hh6_1 ⟨c2, rfl, hc2_⟩ -
    have hc2k := hc2_
    obtain ⟨gq, cq, rfl, hq⟩ := hc2_
    try simp (disch := omega) only [go_sem, ↓reduceIte, Nat.reduceEqDiff, reduceCtorEq, Nat.reduceAdd, Nat.reduceLeDiff, Nat.reduceMul, Int.reduceNeg, Int.reduceLT, Int.reduceAdd, Int.reduceSub]
    intro g6_2 hg6_2
    refine hK8 _ ?_
    refine vc_seq fun K9 hK9 => ?_
    refine vc_reg ?_
    try simp (disch := omega) only [go_sem, ↓reduceIte, Nat.reduceEqDiff, reduceCtorEq, Nat.reduceAdd, Nat.reduceLeDiff, Nat.reduceMul, Int.reduceNeg, Int.reduceLT, Int.reduceAdd, Int.reduceSub]
    refine vcX_call _ _ (impl_FormatProgram us _ hc2k hw) rfl rfl (by first | rfl | simp [V.pures, V.pure, V.pures_t]) ?_
    rintro r7_1 h7_1 hh7_1 rfl -
    try simp (disch := omega) only [go_sem, ↓reduceIte, Nat.reduceEqDiff, reduceCtorEq, Nat.reduceAdd, Nat.reduceLeDiff, Nat.reduceMul, Int.reduceNeg, Int.reduceLT, Int.reduceAdd, Int.reduceSub]
    refine hK9 _ ?_
    refine vc_seq fun K10 hK10 => ?_
    refine vc_seq fun K11 hK11 => ?_
    refine vc_reg ?_
    try simp (disch := omega) only [go_sem, ↓reduceIte, Nat.reduceEqDiff, reduceCtorEq, Nat.reduceAdd, Nat.reduceLeDiff, Nat.reduceMul, Int.reduceNeg, Int.reduceLT, Int.reduceAdd, Int.reduceSub]
    refine hK11 _ ?_
    refine vc_cond (t := _) rfl (fun hc2 => ?_) (fun hc2 => ?_)
    · exact absurd hc2 (by simp)
    · (try simp only [go_sem] at hc2)
      refine vc_skip ?_
      refine hK10 _ ?_
      refine vc_seq fun K12 hK12 => ?_
      refine vc_seq fun K13 hK13 => ?_
      refine vc_regD [(0, false), (1, false), (2, false), (3, false), (4, false)] (by kernel_rfl) ?_
      try simp (disch := omega) only [go_sem, ↓reduceIte, Nat.reduceEqDiff, reduceCtorEq, Nat.reduceAdd, Nat.reduceLeDiff, Nat.reduceMul, Int.reduceNeg, Int.reduceLT, Int.reduceAdd, Int.reduceSub]
      refine vcX_call _ _ (laws_toProgram us _ hc0 (by omega)) rfl rfl (by first | rfl | simp [V.pures, V.pure, V.pures_t]) ?_
      rintro r10_2 h10_2 hh10_2 ⟨c3, rfl, hc3_⟩ -
      try simp (disch := omega) only [go_sem, ↓reduceIte, Nat.reduceEqDiff, reduceCtorEq, Nat.reduceAdd, Nat.reduceLeDiff, Nat.reduceMul, Int.reduceNeg, Int.reduceLT, Int.reduceAdd, Int.reduceSub]
      refine vcX_call _ _ (laws_eqProgram us us _ _ hc2k hc3_ (by omega) (by omega)) rfl rfl (by first | rfl | simp [V.pures, V.pure, V.pures_t]) ?_
      rintro r10_3 h10_3 hh10_3 rfl -
      try simp (disch := omega) only [go_sem, ↓reduceIte, Nat.reduceEqDiff, reduceCtorEq, Nat.reduceAdd, Nat.reduceLeDiff, Nat.reduceMul, Int.reduceNeg, Int.reduceLT, Int.reduceAdd, Int.reduceSub, eql_self Ru.eqb_self]
      refine hK13 _ ?_
      refine vc_cond (t := _) rfl (fun hc3 => ?_) (fun hc3 => ?_)
      · exact absurd hc3 (by simp)
      · (try simp only [go_sem] at hc3)
        refine vc_skip ?_
        refine hK12 _ ?_
        refine vc_seq fun K14 hK14 => ?_
        refine vc_reg ?_
        try simp (disch := omega) only [go_sem, ↓reduceIte, Nat.reduceEqDiff, reduceCtorEq, Nat.reduceAdd, Nat.reduceLeDiff, Nat.reduceMul, Int.reduceNeg, Int.reduceLT, Int.reduceAdd, Int.reduceSub]
        refine hK14 _ ?_
        refine vc_ret ?_
        refine ⟨_, by first | rfl | (simp only [go_sem, resQ, List.mapM_cons, List.mapM_nil, ↓reduceIte, Nat.reduceEqDiff, Nat.reduceAdd, Nat.reduceLeDiff, reduceCtorEq]; rfl), [], [], .nil, by simp, by simp, fun hi_ h1_ => ⟨?_, rfl, rfl⟩, by simp⟩
        first | rfl | simp_all
end Go.Proofs.YtldhhppfnhgcdaaGreat
