/- Walks through the code: each function's contract. -/
import Derived.Test.YtldhhppfnhgcdaaGreatWB1Q
set_option linter.unusedVariables false
set_option linter.unusedSimpArgs false
set_option maxRecDepth 8000
namespace Go.Proofs.YtldhhppfnhgcdaaGreat
open Go Go.VL

/-- impl.arities -/
theorem impl_arities (us : List Ru) (c : List T) (hc : Pg.rep us c) (hw : wl Ru.wt us ≤ 1048576) : Ctr Tryz.prog 23 [.agg (c.map .t)] [] (fun _ _ r σ' => r = .map 0 ∧ ∃ g, σ' = [.map g (mE (arP us []))]) := by
  obtain ⟨g, cs, rfl, ha⟩ := hc
  have hl1_ := wl_len Ru.wt us
  have hcl := ha.len
  refine Ctr.of_vc (rs := [.tmp 2]) (fn := Tryz.f23) mixed Tryz.func23 rfl rfl (by kernel_rfl) (by kernel_rfl) (by simp [Tryz.ntmps23]) (fun h0 => ?_)
  refine vc_seq fun K1 hK1 => ?_
  refine vc_reg ?_
  try simp (disch := omega) only [go_sem, ↓reduceIte, Nat.reduceEqDiff, reduceCtorEq, Nat.reduceAdd, Nat.reduceLeDiff, Nat.reduceMul, Int.reduceNeg, Int.reduceLT, Int.reduceAdd, Int.reduceSub, hcl]
  intro g0_0 hg0_0
  refine hK1 _ ?_
  refine vc_seq fun K2 hK2 => ?_
  refine vc_reg ?_
  try simp (disch := omega) only [go_sem, ↓reduceIte, Nat.reduceEqDiff, reduceCtorEq, Nat.reduceAdd, Nat.reduceLeDiff, Nat.reduceMul, Int.reduceNeg, Int.reduceLT, Int.reduceAdd, Int.reduceSub, hcl]
  intro g1_0 hg1_0
  refine hK2 _ ?_
  refine vc_seq fun K3 hK3 => ?_
  refine vc_seq fun K4 hK4 => ?_
  refine vc_reg ?_
  try simp (disch := omega) only [go_sem, ↓reduceIte, Nat.reduceEqDiff, reduceCtorEq, Nat.reduceAdd, Nat.reduceLeDiff, Nat.reduceMul, Int.reduceNeg, Int.reduceLT, Int.reduceAdd, Int.reduceSub, hcl]
  refine hK4 _ ?_
  refine vc_block ?_
  refine vc_loopG (fun m s => ∃ (n : Nat) (ms : List (ByteArray × Int)), (m = us.length - n) ∧ (s.σ = [.row g0_0 0 1 1 [[V.t (.sl g cs)]], .map g1_0 (mE ms)]) ∧ (s.env 1 = .ptr 0 0 0 0) ∧ (s.env 3 = .map 1) ∧ (s.env 10 = .t (.sl g cs)) ∧ (s.env 11 = .t (.int .i64 us.length)) ∧ (s.env 12 = .t (.int .i64 n)) ∧ (n ≤ us.length) ∧ (arP (us.drop n) ms = arP us [])) (us.length - 0) ⟨0, [], rfl, (by first | rfl | simp), (by first | rfl | assumption), (by first | rfl | assumption), (by first | rfl | assumption), (by first | rfl | assumption), (by first | rfl | assumption), (by first | rfl | omega | simp), (by rfl)⟩ ?_
  rintro m ⟨e, σ, h⟩ ⟨n, ms, hm, hσ, e1, e3, e10, e11, e12, hn, hx⟩ K5 hK5 hG5
  simp only at hσ e1 e3 e10 e11 e12
  subst hσ
  refine vc_seq fun K6 hK6 => ?_
  refine vc_reg ?_
  try simp (disch := omega) only [go_sem, ↓reduceIte, Nat.reduceEqDiff, reduceCtorEq, Nat.reduceAdd, Nat.reduceLeDiff, Nat.reduceMul, Int.reduceNeg, Int.reduceLT, Int.reduceAdd, Int.reduceSub, e1, e3, e10, e11, e12, hcl]
  refine hK6 _ ?_
  refine vc_seq fun K7 hK7 => ?_
  refine vc_cond (t := _) rfl (fun hc1 => ?_) (fun hc1 => ?_)
  · (try simp only [go_sem] at hc1)
    refine vc_skip ?_
    refine hK7 _ ?_
    refine vc_seq fun K8 hK8 => ?_
    refine vc_block ?_
    refine vc_seq fun K9 hK9 => ?_
    have hlt : n < us.length := by omega
    obtain ⟨cc, hcc, hrc⟩ := Rl.get ha (n := n) (hlt)
    obtain ⟨gac_, gbc_, kc_, nc_, gc_, csc_, rfl, hvc_⟩ := Ru.cells hrc
    have hwm := wl_mem (f := Ru.wt) (List.getElem_mem hlt)
    rw [Ru.wt] at hwm
    refine vc_reg ?_
    try simp (disch := omega) only [go_sem, ↓reduceIte, Nat.reduceEqDiff, reduceCtorEq, Nat.reduceAdd, Nat.reduceLeDiff, Nat.reduceMul, Int.reduceNeg, Int.reduceLT, Int.reduceAdd, Int.reduceSub, e1, e3, e10, e11, e12, hcl, hcc, setV]
    intro g4_2 hg4_2
    refine hK9 _ ?_
    refine vc_seqK (fun s => ∃ (ms1 : List (ByteArray × Int)), (s.σ = [.row g0_0 0 1 1 [[V.t (.sl g cs)]], .map g1_0 (mE ms1), .row g4_2 0 7 7 [[V.t (.str us[n].nm), V.t (.str us[n].cn), V.t (.sl gac_ (us[n].vs.map fun s => [T.str s])), V.t (.sl gbc_ (us[n].ps.map fun s => [T.str s])), V.t (.int .i64 kc_), V.t (.str nc_), V.t (.sl gc_ csc_)]]]) ∧ (s.env 1 = .ptr 0 0 0 0) ∧ (s.env 3 = .map 1) ∧ (s.env 5 = .ptr 2 0 0 0) ∧ (s.env 10 = .t (.sl g cs)) ∧ (s.env 11 = .t (.int .i64 us.length)) ∧ (s.env 12 = .t (.int .i64 n)) ∧ (ms1 = arHead us[n] ms)) (fun KJ10 hKJ10 => ?_) ?_
    · skip
      refine vc_seq fun K11 hK11 => ?_
      refine vc_reg ?_
      try simp (disch := omega) only [go_sem, ↓reduceIte, Nat.reduceEqDiff, reduceCtorEq, Nat.reduceAdd, Nat.reduceLeDiff, Nat.reduceMul, Int.reduceNeg, Int.reduceLT, Int.reduceAdd, Int.reduceSub, e1, e3, e10, e11, e12, hcl]
      refine hK11 _ ?_
      refine vc_seq fun K12 hK12 => ?_
      refine vc_reg ?_
      refine vcX_cut 4 fun K13 hK13 => ?_
      try simp (disch := omega) only [go_sem, ↓reduceIte, Nat.reduceEqDiff, reduceCtorEq, Nat.reduceAdd, Nat.reduceLeDiff, Nat.reduceMul, Int.reduceNeg, Int.reduceLT, Int.reduceAdd, Int.reduceSub, e1, e3, e10, e11, e12, hcl]
      refine hK13 _ ?_
      refine vcX_bool (fun hb6_3 => ?_) (fun hb6_3 => ?_)
      · (try simp only [go_sem] at hb6_3)
        try simp (disch := omega) only [go_sem, ↓reduceIte, Nat.reduceEqDiff, reduceCtorEq, Nat.reduceAdd, Nat.reduceLeDiff, Nat.reduceMul, Int.reduceNeg, Int.reduceLT, Int.reduceAdd, Int.reduceSub, e1, e3, e10, e11, e12, hcl]
        refine hK12 _ ?_
        refine vc_cond (t := _) rfl (fun hc2 => ?_) (fun hc2 => ?_)
        · (try simp only [go_sem] at hc2)
          refine vc_reg ?_
          try simp (disch := omega) only [go_sem, ↓reduceIte, Nat.reduceEqDiff, reduceCtorEq, Nat.reduceAdd, Nat.reduceLeDiff, Nat.reduceMul, Int.reduceNeg, Int.reduceLT, Int.reduceAdd, Int.reduceSub, e1, e3, e10, e11, e12, hcl]
          refine x_mapUpdate 1 g1_0 us[n].cn (us[n].vs.length : Int) ms (by kernel_rfl) rfl rfl rfl rfl (by simpa using hc2) ?_
          try simp (disch := omega) only [go_sem, ↓reduceIte, Nat.reduceEqDiff, reduceCtorEq, Nat.reduceAdd, Nat.reduceLeDiff, Nat.reduceMul, Int.reduceNeg, Int.reduceLT, Int.reduceAdd, Int.reduceSub, e1, e3, e10, e11, e12, hcl]
          refine hKJ10 _ ⟨ms ++ [(us[n].cn, (us[n].vs.length : Int))], (by first | rfl | simp), (by first | rfl | assumption), (by first | rfl | assumption), (by first | rfl | assumption), (by first | rfl | assumption), (by first | rfl | assumption), (by first | rfl | assumption), ?_⟩
          · exact (if_pos (show us[n].cn ≠ ⟨#[]⟩ ∧ lk us[n].cn ms = none from ⟨by simpa using hb6_3, by simpa using hc2⟩)).symm
        · (try simp only [go_sem] at hc2)
          refine vc_skip ?_
          refine hKJ10 _ ⟨ms, (by first | rfl | simp), (by first | rfl | assumption), (by first | rfl | assumption), (by first | rfl | assumption), (by first | rfl | assumption), (by first | rfl | assumption), (by first | rfl | assumption), ?_⟩
          · exact (if_neg (show ¬ (us[n].cn ≠ ⟨#[]⟩ ∧ lk us[n].cn ms = none) from fun h => by simp [h.2] at hc2)).symm
      · (try simp only [go_sem] at hb6_3)
        try simp (disch := omega) only [go_sem, ↓reduceIte, Nat.reduceEqDiff, reduceCtorEq, Nat.reduceAdd, Nat.reduceLeDiff, Nat.reduceMul, Int.reduceNeg, Int.reduceLT, Int.reduceAdd, Int.reduceSub, e1, e3, e10, e11, e12, hcl]
        refine hK12 _ ?_
        refine vc_cond (t := _) rfl (fun hc3 => ?_) (fun hc3 => ?_)
        · exact absurd hc3 (by simp)
        · (try simp only [go_sem] at hc3)
          refine vc_skip ?_
          refine hKJ10 _ ⟨ms, (by first | rfl | simp), (by first | rfl | assumption), (by first | rfl | assumption), (by first | rfl | assumption), (by first | rfl | assumption), (by first | rfl | assumption), (by first | rfl | assumption), ?_⟩
          · exact (if_neg (show ¬ (us[n].cn ≠ ⟨#[]⟩ ∧ lk us[n].cn ms = none) from fun h => by simp_all)).symm
    · skip
      rintro ⟨e, σ, h⟩ ⟨ms1, hσ, e1, e3, e5, e10, e11, e12, hms⟩
      simp only at hσ e1 e3 e5 e10 e11 e12
      subst hσ
      refine vc_reg ?_
      try simp (disch := omega) only [go_sem, ↓reduceIte, Nat.reduceEqDiff, reduceCtorEq, Nat.reduceAdd, Nat.reduceLeDiff, Nat.reduceMul, Int.reduceNeg, Int.reduceLT, Int.reduceAdd, Int.reduceSub, e1, e3, e5, e10, e11, e12, hcl]
      refine vcX_callF [1] [] [.map 0, .agg (List.map V.t [.int .i64 kc_, .str nc_, .sl gc_ csc_])] [.map g1_0 (mE ms1)] _ (impl_addArities g1_0 us[n].bd _ ms1 hvc_ (by omega)) (by first | rfl | simp (disch := omega) only [go_sem, ↓reduceIte, Nat.reduceEqDiff, reduceCtorEq, Nat.reduceAdd, Nat.reduceLeDiff, Nat.reduceMul, Int.reduceNeg, Int.reduceLT, Int.reduceAdd, Int.reduceSub, e1, e3, e5, e10, e11, e12, hcl]) (by simp) (by simp) (by simp) (by simp only [locObs, List.map_cons, List.map_nil, List.getElem?_cons_succ, List.getElem?_cons_zero, Option.getD_some, loc_mE]) (Subs.of_eq (by first | rfl | (simp (disch := omega) only [go_sem, ↓reduceIte, Nat.reduceEqDiff, reduceCtorEq, Nat.reduceAdd, Nat.reduceLeDiff, Nat.reduceMul, Int.reduceNeg, Int.reduceLT, Int.reduceAdd, Int.reduceSub, e1, e3, e5, e10, e11, e12, hcl]) | (simp only [go_sem, V.loc, V.locs, idx]; done))) ?_
      rintro r8_3 σ8_3 h8_3 hh8_3 ⟨rfl, rfl⟩
      refine ⟨by simp, ?_⟩
      rw [show backObs [.row g0_0 0 1 1 [[V.t (.sl g cs)]], .map g1_0 (mE ms1), .row g4_2 0 7 7 [[V.t (.str us[n].nm), V.t (.str us[n].cn), V.t (.sl gac_ (us[n].vs.map fun s => [T.str s])), V.t (.sl gbc_ (us[n].ps.map fun s => [T.str s])), V.t (.int .i64 kc_), V.t (.str nc_), V.t (.sl gc_ csc_)]]] [1] [.map g1_0 (mE (E.foG arStep us[n].bd ms1))] = [.row g0_0 0 1 1 [[V.t (.sl g cs)]], .map g1_0 (mE (E.foG arStep us[n].bd ms1)), .row g4_2 0 7 7 [[V.t (.str us[n].nm), V.t (.str us[n].cn), V.t (.sl gac_ (us[n].vs.map fun s => [T.str s])), V.t (.sl gbc_ (us[n].ps.map fun s => [T.str s])), V.t (.int .i64 kc_), V.t (.str nc_), V.t (.sl gc_ csc_)]]] by simp [backObs, backAt, idx, back_mE]]
      try simp (disch := omega) only [go_sem, ↓reduceIte, Nat.reduceEqDiff, reduceCtorEq, Nat.reduceAdd, Nat.reduceLeDiff, Nat.reduceMul, Int.reduceNeg, Int.reduceLT, Int.reduceAdd, Int.reduceSub, e1, e3, e5, e10, e11, e12, hcl]
      refine hK8 _ ?_
      refine vc_reg ?_
      try simp (disch := omega) only [go_sem, ↓reduceIte, Nat.reduceEqDiff, reduceCtorEq, Nat.reduceAdd, Nat.reduceLeDiff, Nat.reduceMul, Int.reduceNeg, Int.reduceLT, Int.reduceAdd, Int.reduceSub, e1, e3, e5, e10, e11, e12, hcl]
      refine hG5 _ _ [0, 1] [] ?_ (by simp) (by simp) (by simp) ⟨n + 1, E.foG arStep us[n].bd ms1, rfl, (by first | rfl | (simp (disch := omega) only [go_sem, ↓reduceIte, Nat.reduceEqDiff, reduceCtorEq, Nat.reduceAdd, Nat.reduceLeDiff, Nat.reduceMul, Int.reduceNeg, Int.reduceLT, Int.reduceAdd, Int.reduceSub, e1, e3, e5, e10, e11, e12, hcl, gc_σ, locObs, Ob.loc, V.loc, V.locs, idx]; done) | (simp [gc_σ, locObs, Ob.loc, V.loc, Function.comp_def, List.take_of_length_le]; done)), (by first | rfl | (simp (disch := omega) only [go_sem, ↓reduceIte, Nat.reduceEqDiff, reduceCtorEq, Nat.reduceAdd, Nat.reduceLeDiff, Nat.reduceMul, Int.reduceNeg, Int.reduceLT, Int.reduceAdd, Int.reduceSub, e1, e3, e5, e10, e11, e12, hcl, gc_env, V.loc, V.locs, idx]; done) | (simp (disch := omega) only [go_sem, ↓reduceIte, Nat.reduceEqDiff, reduceCtorEq, Nat.reduceAdd, Nat.reduceLeDiff, Nat.reduceMul, Int.reduceNeg, Int.reduceLT, Int.reduceAdd, Int.reduceSub, e1, e3, e5, e10, e11, e12, hcl, gc_env, V.loc, V.locs, idx]; simp; done)), (by first | rfl | (simp (disch := omega) only [go_sem, ↓reduceIte, Nat.reduceEqDiff, reduceCtorEq, Nat.reduceAdd, Nat.reduceLeDiff, Nat.reduceMul, Int.reduceNeg, Int.reduceLT, Int.reduceAdd, Int.reduceSub, e1, e3, e5, e10, e11, e12, hcl, gc_env, V.loc, V.locs, idx]; done) | (simp (disch := omega) only [go_sem, ↓reduceIte, Nat.reduceEqDiff, reduceCtorEq, Nat.reduceAdd, Nat.reduceLeDiff, Nat.reduceMul, Int.reduceNeg, Int.reduceLT, Int.reduceAdd, Int.reduceSub, e1, e3, e5, e10, e11, e12, hcl, gc_env, V.loc, V.locs, idx]; simp; done)), (by first | rfl | (simp (disch := omega) only [go_sem, ↓reduceIte, Nat.reduceEqDiff, reduceCtorEq, Nat.reduceAdd, Nat.reduceLeDiff, Nat.reduceMul, Int.reduceNeg, Int.reduceLT, Int.reduceAdd, Int.reduceSub, e1, e3, e5, e10, e11, e12, hcl, gc_env, V.loc, V.locs, idx]; done) | (simp (disch := omega) only [go_sem, ↓reduceIte, Nat.reduceEqDiff, reduceCtorEq, Nat.reduceAdd, Nat.reduceLeDiff, Nat.reduceMul, Int.reduceNeg, Int.reduceLT, Int.reduceAdd, Int.reduceSub, e1, e3, e5, e10, e11, e12, hcl, gc_env, V.loc, V.locs, idx]; simp; done)), (by first | rfl | (simp (disch := omega) only [go_sem, ↓reduceIte, Nat.reduceEqDiff, reduceCtorEq, Nat.reduceAdd, Nat.reduceLeDiff, Nat.reduceMul, Int.reduceNeg, Int.reduceLT, Int.reduceAdd, Int.reduceSub, e1, e3, e5, e10, e11, e12, hcl, gc_env, V.loc, V.locs, idx]; done) | (simp (disch := omega) only [go_sem, ↓reduceIte, Nat.reduceEqDiff, reduceCtorEq, Nat.reduceAdd, Nat.reduceLeDiff, Nat.reduceMul, Int.reduceNeg, Int.reduceLT, Int.reduceAdd, Int.reduceSub, e1, e3, e5, e10, e11, e12, hcl, gc_env, V.loc, V.locs, idx]; simp; done)), (by first | rfl | (simp (disch := omega) only [go_sem, ↓reduceIte, Nat.reduceEqDiff, reduceCtorEq, Nat.reduceAdd, Nat.reduceLeDiff, Nat.reduceMul, Int.reduceNeg, Int.reduceLT, Int.reduceAdd, Int.reduceSub, e1, e3, e5, e10, e11, e12, hcl, gc_env, V.loc, V.locs, idx]; done) | (simp (disch := omega) only [go_sem, ↓reduceIte, Nat.reduceEqDiff, reduceCtorEq, Nat.reduceAdd, Nat.reduceLeDiff, Nat.reduceMul, Int.reduceNeg, Int.reduceLT, Int.reduceAdd, Int.reduceSub, e1, e3, e5, e10, e11, e12, hcl, gc_env, V.loc, V.locs, idx]; simp; done)), ?_, ?_⟩
      · omega
      · first | omega | assumption | rfl | simp_all
      · rw [← hx, arP_drop (l := us) (n := n) (by omega), hms]
  · (try simp only [go_sem] at hc1)
    refine vc_exit ?_
    refine hK3 _ ?_
    refine vc_seq fun K15 hK15 => ?_
    refine vc_reg ?_
    try simp (disch := omega) only [go_sem, ↓reduceIte, Nat.reduceEqDiff, reduceCtorEq, Nat.reduceAdd, Nat.reduceLeDiff, Nat.reduceMul, Int.reduceNeg, Int.reduceLT, Int.reduceAdd, Int.reduceSub, e1, e3, e10, e11, e12, hcl]
    refine hK15 _ ?_
    refine vc_ret ?_
    rw [List.drop_of_length_le (by omega), arP] at hx
    refine ⟨_, rfl, [1], [], by simp, by simp, by simp, fun hi_ h1_ => ⟨rfl, g1_0, ?_⟩, fun r o h => by simp at h⟩
    show [Ob.loc _ _ _ (.map g1_0 (mE ms))] = _
    rw [loc_mE, hx]
end Go.Proofs.YtldhhppfnhgcdaaGreat
