/- Walks through the code: each function's contract. -/
import Derived.Test.YtldhhppfnhgcdaaGreatWKQ
set_option linter.unusedVariables false
set_option linter.unusedSimpArgs false
set_option maxRecDepth 8000
namespace Go.Proofs.YtldhhppfnhgcdaaGreat
open Go Go.VL

/-- slices.IndexFunc[[]impl.Rule,impl.Rule] -/
theorem slices_IndexFunc_Rule2 (g f : Nat) (ga gb : Nat) (x y : T) (p : Ru → Bool) (us : List Ru) (cs : List (List T)) (ha : Rl Ru.rep us cs) (hl : us.length < 2^40) (hf : ∀ a ∈ us, ∀ c : List T, a.rep c → Ctr Tryz.prog f [.agg (c.map .t), .ptr 0 0 0 0, .ptr 1 0 0 0] [.row ga 0 1 1 [[.t x]], .row gb 0 1 1 [[.t y]]] (fun _ _ r σ' => r = .t (.bool (p a)) ∧ σ' = [.row ga 0 1 1 [[.t x]], .row gb 0 1 1 [[.t y]]])) : Ctr Tryz.prog 55 [.t (.sl g cs), .fn f [.ptr 0 0 0 0, .ptr 1 0 0 0]] [.row ga 0 1 1 [[.t x]], .row gb 0 1 1 [[.t y]]] (fun _ _ r σ' => r = .t (.int .i64 (fi p 0 us)) ∧ σ' = [.row ga 0 1 1 [[.t x]], .row gb 0 1 1 [[.t y]]]) := by
  have hcl := ha.len
  refine Ctr.of_vc (rs := [.tmp 4]) (fn := Tryz.f55) mixed Tryz.func55 rfl rfl (by kernel_rfl) (by kernel_rfl) (by simp [Tryz.ntmps55]) (fun h0 => ?_)
  refine vc_seq fun K1 hK1 => ?_
  refine vc_reg ?_
  try simp (disch := omega) only [go_sem, ↓reduceIte, Nat.reduceEqDiff, reduceCtorEq, Nat.reduceAdd, Nat.reduceLeDiff, Nat.reduceMul, Int.reduceNeg, Int.reduceLT, Int.reduceAdd, Int.reduceSub, hcl]
  refine hK1 _ ?_
  refine vc_seq fun K2 hK2 => ?_
  refine vc_seq fun K3 hK3 => ?_
  refine vc_reg ?_
  try simp (disch := omega) only [go_sem, ↓reduceIte, Nat.reduceEqDiff, reduceCtorEq, Nat.reduceAdd, Nat.reduceLeDiff, Nat.reduceMul, Int.reduceNeg, Int.reduceLT, Int.reduceAdd, Int.reduceSub, hcl]
  refine hK3 _ ?_
  refine vc_block ?_
  refine vc_loop (fun m s => ∃ (n : Nat), (m = us.length - n) ∧ (s.σ = [.row ga 0 1 1 [[.t x]], .row gb 0 1 1 [[.t y]]]) ∧ (s.env 0 = .t (.sl g cs)) ∧ (s.env 1 = .fn f [.ptr 0 0 0 0, .ptr 1 0 0 0]) ∧ (s.env 6 = .t (.sl g cs)) ∧ (s.env 7 = .t (.int .i64 us.length)) ∧ (s.env 8 = .t (.int .i64 n)) ∧ (n ≤ us.length) ∧ (fi p 0 us = fi p n (us.drop n))) (us.length - 0) ⟨0, rfl, (by first | rfl | simp), (by first | rfl | assumption), (by first | rfl | assumption), (by first | rfl | assumption), (by first | rfl | assumption), (by first | rfl | assumption), (by first | rfl | omega | simp), (by first | rfl | omega | simp)⟩ ?_
  rintro m ⟨e, σ, h⟩ ⟨n, hm, hσ, e0, e1, e6, e7, e8, hn, hix⟩ K4 hK4
  simp only at hσ e0 e1 e6 e7 e8
  subst hσ
  refine vc_seq fun K5 hK5 => ?_
  refine vc_reg ?_
  try simp (disch := omega) only [go_sem, ↓reduceIte, Nat.reduceEqDiff, reduceCtorEq, Nat.reduceAdd, Nat.reduceLeDiff, Nat.reduceMul, Int.reduceNeg, Int.reduceLT, Int.reduceAdd, Int.reduceSub, e0, e1, e6, e7, e8, hcl]
  refine hK5 _ ?_
  refine vc_seq fun K6 hK6 => ?_
  refine vc_cond (t := _) rfl (fun hc1 => ?_) (fun hc1 => ?_)
  · (try simp only [go_sem] at hc1)
    refine vc_skip ?_
    refine hK6 _ ?_
    refine vc_seq fun K7 hK7 => ?_
    refine vc_block ?_
    refine vc_seq fun K8 hK8 => ?_
    refine vc_reg ?_
    try simp (disch := omega) only [go_sem, ↓reduceIte, Nat.reduceEqDiff, reduceCtorEq, Nat.reduceAdd, Nat.reduceLeDiff, Nat.reduceMul, Int.reduceNeg, Int.reduceLT, Int.reduceAdd, Int.reduceSub, e0, e1, e6, e7, e8, hcl]
    refine hK8 _ ?_
    refine vc_seq fun K9 hK9 => ?_
    obtain ⟨cc, hcc, hrc⟩ := Rl.get ha (n := n) (by omega)
    obtain ⟨gac_, gbc_, kc_, nc_, gc_, csc_, rfl, hvc_⟩ := Ru.cells hrc
    refine vc_reg ?_
    try simp (disch := omega) only [go_sem, ↓reduceIte, Nat.reduceEqDiff, reduceCtorEq, Nat.reduceAdd, Nat.reduceLeDiff, Nat.reduceMul, Int.reduceNeg, Int.reduceLT, Int.reduceAdd, Int.reduceSub, e0, e1, e6, e7, e8, hcl, hcc]
    refine vcX_callF [0, 1] [] [.agg (List.map V.t [.str us[n].nm, .str us[n].cn, .sl gac_ (us[n].vs.map fun s => [T.str s]), .sl gbc_ (us[n].ps.map fun s => [T.str s]), .int .i64 kc_, .str nc_, .sl gc_ csc_]), .ptr 0 0 0 0, .ptr 1 0 0 0] [.row ga 0 1 1 [[.t x]], .row gb 0 1 1 [[.t y]]] _ (hf _ (List.getElem_mem (show n < us.length by omega)) _ hrc) (by first | rfl | simp (disch := omega) only [go_sem, ↓reduceIte, Nat.reduceEqDiff, reduceCtorEq, Nat.reduceAdd, Nat.reduceLeDiff, Nat.reduceMul, Int.reduceNeg, Int.reduceLT, Int.reduceAdd, Int.reduceSub, e0, e1, e6, e7, e8, hcl, hcc]) (by simp) (by simp) (by simp) rfl (Subs.of_eq (by first | rfl | (simp (disch := omega) only [go_sem, ↓reduceIte, Nat.reduceEqDiff, reduceCtorEq, Nat.reduceAdd, Nat.reduceLeDiff, Nat.reduceMul, Int.reduceNeg, Int.reduceLT, Int.reduceAdd, Int.reduceSub, e0, e1, e6, e7, e8, hcl, hcc]) | (simp only [go_sem, V.loc, V.locs, idx]; done))) ?_
    rintro r4_5 σ4_5 h4_5 hh4_5 ⟨rfl, rfl⟩
    refine ⟨by simp, ?_⟩
    try simp (disch := omega) only [go_sem, ↓reduceIte, Nat.reduceEqDiff, reduceCtorEq, Nat.reduceAdd, Nat.reduceLeDiff, Nat.reduceMul, Int.reduceNeg, Int.reduceLT, Int.reduceAdd, Int.reduceSub, e0, e1, e6, e7, e8, hcl, hcc]
    refine hK9 _ ?_
    refine vc_cond (t := _) rfl (fun hc2 => ?_) (fun hc2 => ?_)
    · (try simp only [go_sem] at hc2)
      refine vc_seq fun K10 hK10 => ?_
      refine vc_reg ?_
      try simp (disch := omega) only [go_sem, ↓reduceIte, Nat.reduceEqDiff, reduceCtorEq, Nat.reduceAdd, Nat.reduceLeDiff, Nat.reduceMul, Int.reduceNeg, Int.reduceLT, Int.reduceAdd, Int.reduceSub, e0, e1, e6, e7, e8, hcl]
      refine hK10 _ ?_
      refine vc_ret ?_
      refine ⟨_, rfl, [0, 1], [], by simp, by simp, by simp, fun hi_ h1_ => ⟨?_, rfl⟩, le_2 (y := .t x) (y' := .t y) rfl⟩
      rw [hix, fi_drop (by omega), if_pos hc2]; rfl
    · (try simp only [go_sem] at hc2)
      refine vc_skip ?_
      refine hK7 _ ?_
      refine vc_reg ?_
      try simp (disch := omega) only [go_sem, ↓reduceIte, Nat.reduceEqDiff, reduceCtorEq, Nat.reduceAdd, Nat.reduceLeDiff, Nat.reduceMul, Int.reduceNeg, Int.reduceLT, Int.reduceAdd, Int.reduceSub, e0, e1, e6, e7, e8, hcl]
      refine hK4 _ _ ?_ ⟨n + 1, rfl, (by first | rfl | simp), (by first | rfl | assumption), (by first | rfl | assumption), (by first | rfl | assumption), (by first | rfl | assumption), (by first | rfl | assumption), ?_, ?_⟩
      · omega
      · first | omega | assumption | rfl | simp_all
      · rw [hix, fi_drop (by omega), if_neg (by rw [hc2]; simp)]; rfl
  · (try simp only [go_sem] at hc1)
    refine vc_exit ?_
    refine hK2 _ ?_
    refine vc_seq fun K11 hK11 => ?_
    refine vc_reg ?_
    try simp (disch := omega) only [go_sem, ↓reduceIte, Nat.reduceEqDiff, reduceCtorEq, Nat.reduceAdd, Nat.reduceLeDiff, Nat.reduceMul, Int.reduceNeg, Int.reduceLT, Int.reduceAdd, Int.reduceSub, e0, e1, e6, e7, e8, hcl]
    refine hK11 _ ?_
    refine vc_ret ?_
    refine ⟨_, rfl, [0, 1], [], by simp, by simp, by simp, fun hi_ h1_ => ⟨?_, rfl⟩, le_2 (y := .t x) (y' := .t y) rfl⟩
    rw [hix, List.drop_of_length_le (by omega), fi]; rfl

/-- slices.IndexFunc[[]impl.Rule,impl.Rule] -/
theorem slices_IndexFunc_Rule1 (g f : Nat) (ga : Nat) (x : T) (p : Ru → Bool) (us : List Ru) (cs : List (List T)) (ha : Rl Ru.rep us cs) (hl : us.length < 2^40) (hf : ∀ a ∈ us, ∀ c : List T, a.rep c → Ctr Tryz.prog f [.agg (c.map .t), .ptr 0 0 0 0] [.row ga 0 1 1 [[.t x]]] (fun _ _ r σ' => r = .t (.bool (p a)) ∧ σ' = [.row ga 0 1 1 [[.t x]]])) : Ctr Tryz.prog 55 [.t (.sl g cs), .fn f [.ptr 0 0 0 0]] [.row ga 0 1 1 [[.t x]]] (fun _ _ r σ' => r = .t (.int .i64 (fi p 0 us)) ∧ σ' = [.row ga 0 1 1 [[.t x]]]) := by
  have hcl := ha.len
  refine Ctr.of_vc (rs := [.tmp 4]) (fn := Tryz.f55) mixed Tryz.func55 rfl rfl (by kernel_rfl) (by kernel_rfl) (by simp [Tryz.ntmps55]) (fun h0 => ?_)
  refine vc_seq fun K1 hK1 => ?_
  refine vc_reg ?_
  try simp (disch := omega) only [go_sem, ↓reduceIte, Nat.reduceEqDiff, reduceCtorEq, Nat.reduceAdd, Nat.reduceLeDiff, Nat.reduceMul, Int.reduceNeg, Int.reduceLT, Int.reduceAdd, Int.reduceSub, hcl]
  refine hK1 _ ?_
  refine vc_seq fun K2 hK2 => ?_
  refine vc_seq fun K3 hK3 => ?_
  refine vc_reg ?_
  try simp (disch := omega) only [go_sem, ↓reduceIte, Nat.reduceEqDiff, reduceCtorEq, Nat.reduceAdd, Nat.reduceLeDiff, Nat.reduceMul, Int.reduceNeg, Int.reduceLT, Int.reduceAdd, Int.reduceSub, hcl]
  refine hK3 _ ?_
  refine vc_block ?_
  refine vc_loop (fun m s => ∃ (n : Nat), (m = us.length - n) ∧ (s.σ = [.row ga 0 1 1 [[.t x]]]) ∧ (s.env 0 = .t (.sl g cs)) ∧ (s.env 1 = .fn f [.ptr 0 0 0 0]) ∧ (s.env 6 = .t (.sl g cs)) ∧ (s.env 7 = .t (.int .i64 us.length)) ∧ (s.env 8 = .t (.int .i64 n)) ∧ (n ≤ us.length) ∧ (fi p 0 us = fi p n (us.drop n))) (us.length - 0) ⟨0, rfl, (by first | rfl | simp), (by first | rfl | assumption), (by first | rfl | assumption), (by first | rfl | assumption), (by first | rfl | assumption), (by first | rfl | assumption), (by first | rfl | omega | simp), (by first | rfl | omega | simp)⟩ ?_
  rintro m ⟨e, σ, h⟩ ⟨n, hm, hσ, e0, e1, e6, e7, e8, hn, hix⟩ K4 hK4
  simp only at hσ e0 e1 e6 e7 e8
  subst hσ
  refine vc_seq fun K5 hK5 => ?_
  refine vc_reg ?_
  try simp (disch := omega) only [go_sem, ↓reduceIte, Nat.reduceEqDiff, reduceCtorEq, Nat.reduceAdd, Nat.reduceLeDiff, Nat.reduceMul, Int.reduceNeg, Int.reduceLT, Int.reduceAdd, Int.reduceSub, e0, e1, e6, e7, e8, hcl]
  refine hK5 _ ?_
  refine vc_seq fun K6 hK6 => ?_
  refine vc_cond (t := _) rfl (fun hc1 => ?_) (fun hc1 => ?_)
  · (try simp only [go_sem] at hc1)
    refine vc_skip ?_
    refine hK6 _ ?_
    refine vc_seq fun K7 hK7 => ?_
    refine vc_block ?_
    refine vc_seq fun K8 hK8 => ?_
    refine vc_reg ?_
    try simp (disch := omega) only [go_sem, ↓reduceIte, Nat.reduceEqDiff, reduceCtorEq, Nat.reduceAdd, Nat.reduceLeDiff, Nat.reduceMul, Int.reduceNeg, Int.reduceLT, Int.reduceAdd, Int.reduceSub, e0, e1, e6, e7, e8, hcl]
    refine hK8 _ ?_
    refine vc_seq fun K9 hK9 => ?_
    obtain ⟨cc, hcc, hrc⟩ := Rl.get ha (n := n) (by omega)
    obtain ⟨gac_, gbc_, kc_, nc_, gc_, csc_, rfl, hvc_⟩ := Ru.cells hrc
    refine vc_reg ?_
    try simp (disch := omega) only [go_sem, ↓reduceIte, Nat.reduceEqDiff, reduceCtorEq, Nat.reduceAdd, Nat.reduceLeDiff, Nat.reduceMul, Int.reduceNeg, Int.reduceLT, Int.reduceAdd, Int.reduceSub, e0, e1, e6, e7, e8, hcl, hcc]
    refine vcX_callF [0] [] [.agg (List.map V.t [.str us[n].nm, .str us[n].cn, .sl gac_ (us[n].vs.map fun s => [T.str s]), .sl gbc_ (us[n].ps.map fun s => [T.str s]), .int .i64 kc_, .str nc_, .sl gc_ csc_]), .ptr 0 0 0 0] [.row ga 0 1 1 [[.t x]]] _ (hf _ (List.getElem_mem (show n < us.length by omega)) _ hrc) (by first | rfl | simp (disch := omega) only [go_sem, ↓reduceIte, Nat.reduceEqDiff, reduceCtorEq, Nat.reduceAdd, Nat.reduceLeDiff, Nat.reduceMul, Int.reduceNeg, Int.reduceLT, Int.reduceAdd, Int.reduceSub, e0, e1, e6, e7, e8, hcl, hcc]) (by simp) (by simp) (by simp) rfl (Subs.of_eq (by first | rfl | (simp (disch := omega) only [go_sem, ↓reduceIte, Nat.reduceEqDiff, reduceCtorEq, Nat.reduceAdd, Nat.reduceLeDiff, Nat.reduceMul, Int.reduceNeg, Int.reduceLT, Int.reduceAdd, Int.reduceSub, e0, e1, e6, e7, e8, hcl, hcc]) | (simp only [go_sem, V.loc, V.locs, idx]; done))) ?_
    rintro r4_5 σ4_5 h4_5 hh4_5 ⟨rfl, rfl⟩
    refine ⟨by simp, ?_⟩
    try simp (disch := omega) only [go_sem, ↓reduceIte, Nat.reduceEqDiff, reduceCtorEq, Nat.reduceAdd, Nat.reduceLeDiff, Nat.reduceMul, Int.reduceNeg, Int.reduceLT, Int.reduceAdd, Int.reduceSub, e0, e1, e6, e7, e8, hcl, hcc]
    refine hK9 _ ?_
    refine vc_cond (t := _) rfl (fun hc2 => ?_) (fun hc2 => ?_)
    · (try simp only [go_sem] at hc2)
      refine vc_seq fun K10 hK10 => ?_
      refine vc_reg ?_
      try simp (disch := omega) only [go_sem, ↓reduceIte, Nat.reduceEqDiff, reduceCtorEq, Nat.reduceAdd, Nat.reduceLeDiff, Nat.reduceMul, Int.reduceNeg, Int.reduceLT, Int.reduceAdd, Int.reduceSub, e0, e1, e6, e7, e8, hcl]
      refine hK10 _ ?_
      refine vc_ret ?_
      refine ⟨_, rfl, [0], [], by simp, by simp, by simp, fun hi_ h1_ => ⟨?_, rfl⟩, le_1 (y := .t x) rfl⟩
      rw [hix, fi_drop (by omega), if_pos hc2]; rfl
    · (try simp only [go_sem] at hc2)
      refine vc_skip ?_
      refine hK7 _ ?_
      refine vc_reg ?_
      try simp (disch := omega) only [go_sem, ↓reduceIte, Nat.reduceEqDiff, reduceCtorEq, Nat.reduceAdd, Nat.reduceLeDiff, Nat.reduceMul, Int.reduceNeg, Int.reduceLT, Int.reduceAdd, Int.reduceSub, e0, e1, e6, e7, e8, hcl]
      refine hK4 _ _ ?_ ⟨n + 1, rfl, (by first | rfl | simp), (by first | rfl | assumption), (by first | rfl | assumption), (by first | rfl | assumption), (by first | rfl | assumption), (by first | rfl | assumption), ?_, ?_⟩
      · omega
      · first | omega | assumption | rfl | simp_all
      · rw [hix, fi_drop (by omega), if_neg (by rw [hc2]; simp)]; rfl
  · (try simp only [go_sem] at hc1)
    refine vc_exit ?_
    refine hK2 _ ?_
    refine vc_seq fun K11 hK11 => ?_
    refine vc_reg ?_
    try simp (disch := omega) only [go_sem, ↓reduceIte, Nat.reduceEqDiff, reduceCtorEq, Nat.reduceAdd, Nat.reduceLeDiff, Nat.reduceMul, Int.reduceNeg, Int.reduceLT, Int.reduceAdd, Int.reduceSub, e0, e1, e6, e7, e8, hcl]
    refine hK11 _ ?_
    refine vc_ret ?_
    refine ⟨_, rfl, [0], [], by simp, by simp, by simp, fun hi_ h1_ => ⟨?_, rfl⟩, le_1 (y := .t x) rfl⟩
    rw [hix, List.drop_of_length_le (by omega), fi]; rfl

/-- impl.FindRule$1 -/
theorem impl_FindRule_1 (ga gb : Nat) (x : Ru) (c : List T) (hc : x.rep c) (s1 s2 : ByteArray) : Ctr Tryz.prog 60 [.agg (c.map .t), .ptr 0 0 0 0, .ptr 1 0 0 0] [.row ga 0 1 1 [[.t (.str s1)]], .row gb 0 1 1 [[.t (.str s2)]]] (fun _ _ r σ' => r = .t (.bool (decide (x.nm = s1) && decide (x.cn = s2))) ∧ σ' = [.row ga 0 1 1 [[.t (.str s1)]], .row gb 0 1 1 [[.t (.str s2)]]]) := by
  obtain ⟨gax_, gbx_, kx_, nx_, gx_, csx_, rfl, hvx_⟩ := Ru.cells hc
  refine Ctr.of_vc (rs := [.tmp 4]) (fn := Tryz.f60) mixed Tryz.func60 rfl rfl (by kernel_rfl) (by kernel_rfl) (by simp [Tryz.ntmps60]) (fun h0 => ?_)
  refine vc_seq fun K1 hK1 => ?_
  refine vc_reg ?_
  try simp (disch := omega) only [go_sem, ↓reduceIte, Nat.reduceEqDiff, reduceCtorEq, Nat.reduceAdd, Nat.reduceLeDiff, Nat.reduceMul, Int.reduceNeg, Int.reduceLT, Int.reduceAdd, Int.reduceSub]
  intro g0_0 hg0_0
  refine hK1 _ ?_
  refine vc_seq fun K2 hK2 => ?_
  refine vc_reg ?_
  refine vcX_cut 5 fun K3 hK3 => ?_
  try simp (disch := omega) only [go_sem, ↓reduceIte, Nat.reduceEqDiff, reduceCtorEq, Nat.reduceAdd, Nat.reduceLeDiff, Nat.reduceMul, Int.reduceNeg, Int.reduceLT, Int.reduceAdd, Int.reduceSub]
  refine hK3 _ ?_
  refine vcX_bool (fun hb1_4 => ?_) (fun hb1_4 => ?_)
  · (try simp only [go_sem] at hb1_4)
    try simp (disch := omega) only [go_sem, ↓reduceIte, Nat.reduceEqDiff, reduceCtorEq, Nat.reduceAdd, Nat.reduceLeDiff, Nat.reduceMul, Int.reduceNeg, Int.reduceLT, Int.reduceAdd, Int.reduceSub]
    refine hK2 _ ?_
    refine vc_ret ?_
    refine ⟨_, rfl, [0, 1], [], by simp, by simp, by simp, fun hi_ h1_ => ⟨?_, rfl⟩, le_2 (y := .t (.str s1)) (y' := .t (.str s2)) rfl⟩
    rw [decide_eq_true hb1_4]; rfl
  · (try simp only [go_sem] at hb1_4)
    try simp (disch := omega) only [go_sem, ↓reduceIte, Nat.reduceEqDiff, reduceCtorEq, Nat.reduceAdd, Nat.reduceLeDiff, Nat.reduceMul, Int.reduceNeg, Int.reduceLT, Int.reduceAdd, Int.reduceSub]
    refine hK2 _ ?_
    refine vc_ret ?_
    refine ⟨_, rfl, [0, 1], [], by simp, by simp, by simp, fun hi_ h1_ => ⟨?_, rfl⟩, le_2 (y := .t (.str s1)) (y' := .t (.str s2)) rfl⟩
    rw [decide_eq_false hb1_4]; rfl

/-- impl.firstRule$1 -/
theorem impl_firstRule_1 (ga : Nat) (x : Ru) (c : List T) (hc : x.rep c) (s1 : ByteArray) : Ctr Tryz.prog 56 [.agg (c.map .t), .ptr 0 0 0 0] [.row ga 0 1 1 [[.t (.str s1)]]] (fun _ _ r σ' => r = .t (.bool (decide (x.nm = s1))) ∧ σ' = [.row ga 0 1 1 [[.t (.str s1)]]]) := by
  obtain ⟨gax_, gbx_, kx_, nx_, gx_, csx_, rfl, hvx_⟩ := Ru.cells hc
  refine Ctr.of_vc (rs := [.tmp 3]) (fn := Tryz.f56) mixed Tryz.func56 rfl rfl (by kernel_rfl) (by kernel_rfl) (by simp [Tryz.ntmps56]) (fun h0 => ?_)
  refine vc_seq fun K1 hK1 => ?_
  refine vc_reg ?_
  try simp (disch := omega) only [go_sem, ↓reduceIte, Nat.reduceEqDiff, reduceCtorEq, Nat.reduceAdd, Nat.reduceLeDiff, Nat.reduceMul, Int.reduceNeg, Int.reduceLT, Int.reduceAdd, Int.reduceSub]
  intro g0_0 hg0_0
  refine hK1 _ ?_
  refine vc_seq fun K2 hK2 => ?_
  refine vc_reg ?_
  try simp (disch := omega) only [go_sem, ↓reduceIte, Nat.reduceEqDiff, reduceCtorEq, Nat.reduceAdd, Nat.reduceLeDiff, Nat.reduceMul, Int.reduceNeg, Int.reduceLT, Int.reduceAdd, Int.reduceSub]
  refine hK2 _ ?_
  refine vc_ret ?_
  refine ⟨_, rfl, [0], [], by simp, by simp, by simp, fun hi_ h1_ => ⟨?_, rfl⟩, le_1 (y := .t (.str s1)) rfl⟩
  rfl

/-- impl.FindRule -/
theorem impl_FindRule (us : List Ru) (c : List T) (hc : Pg.rep us c) (hl : us.length < 2^40) (s1 s2 : ByteArray) : FCtr Tryz.prog 26 [.agg (c.map .t), .t (.str s1), .t (.str s2)] (fun r => r = .t (.int .i64 (fi (fun a : Ru => decide (a.nm = s1) && decide (a.cn = s2)) 0 us))) := by
  obtain ⟨g, cs, rfl, ha⟩ := hc
  refine Ctr.of_vc (rs := [.tmp 6]) (fn := Tryz.f26) mixed Tryz.func26 rfl rfl (by kernel_rfl) (by kernel_rfl) (by simp [Tryz.ntmps26]) (fun h0 => ?_)
  refine vc_seq fun K1 hK1 => ?_
  refine vc_reg ?_
  try simp (disch := omega) only [go_sem, ↓reduceIte, Nat.reduceEqDiff, reduceCtorEq, Nat.reduceAdd, Nat.reduceLeDiff, Nat.reduceMul, Int.reduceNeg, Int.reduceLT, Int.reduceAdd, Int.reduceSub]
  intro g0_0 hg0_0
  intro g0_1 hg0_1
  intro g0_2 hg0_2
  refine hK1 _ ?_
  refine vc_seq fun K2 hK2 => ?_
  refine vc_reg ?_
  try simp (disch := omega) only [go_sem, ↓reduceIte, Nat.reduceEqDiff, reduceCtorEq, Nat.reduceAdd, Nat.reduceLeDiff, Nat.reduceMul, Int.reduceNeg, Int.reduceLT, Int.reduceAdd, Int.reduceSub]
  refine vcX_callF [1, 2] [] [.t (.sl g cs), .fn 60 [.ptr 0 0 0 0, .ptr 1 0 0 0]] [.row g0_1 0 1 1 [[.t (.str s1)]], .row g0_2 0 1 1 [[.t (.str s2)]]] _ (slices_IndexFunc_Rule2 g _ g0_1 g0_2 (.str s1) (.str s2) (fun a : Ru => decide (a.nm = s1) && decide (a.cn = s2)) us cs ha hl (fun a _ c h => impl_FindRule_1 g0_1 g0_2 a c h s1 s2)) (by first | rfl | simp (disch := omega) only [go_sem, ↓reduceIte, Nat.reduceEqDiff, reduceCtorEq, Nat.reduceAdd, Nat.reduceLeDiff, Nat.reduceMul, Int.reduceNeg, Int.reduceLT, Int.reduceAdd, Int.reduceSub]) (by simp) (by simp) (by simp) rfl (Subs.of_eq (by first | rfl | (simp (disch := omega) only [go_sem, ↓reduceIte, Nat.reduceEqDiff, reduceCtorEq, Nat.reduceAdd, Nat.reduceLeDiff, Nat.reduceMul, Int.reduceNeg, Int.reduceLT, Int.reduceAdd, Int.reduceSub]) | (simp only [go_sem, V.loc, V.locs, idx]; done))) ?_
  rintro r1_3 σ1_3 h1_3 hh1_3 ⟨rfl, rfl⟩
  refine ⟨by simp, ?_⟩
  try simp (disch := omega) only [go_sem, ↓reduceIte, Nat.reduceEqDiff, reduceCtorEq, Nat.reduceAdd, Nat.reduceLeDiff, Nat.reduceMul, Int.reduceNeg, Int.reduceLT, Int.reduceAdd, Int.reduceSub]
  refine hK2 _ ?_
  refine vc_ret ?_
  refine ⟨_, by first | rfl | (simp only [go_sem, resQ, List.mapM_cons, List.mapM_nil, ↓reduceIte, Nat.reduceEqDiff, Nat.reduceAdd, Nat.reduceLeDiff, reduceCtorEq]; rfl), [], [], .nil, by simp, by simp, fun hi_ h1_ => ⟨?_, rfl, rfl⟩, by simp⟩
  first | rfl | simp_all

/-- spec.FindRule -/
theorem spec_FindRule (us : List Ru) (c : List T) (hc : Pg.rep us c) (hl : us.length < 2^40) (s1 s2 : ByteArray) : FCtr Tryz.prog 41 [.agg (c.map .t), .t (.str s1), .t (.str s2)] (fun r => r = .t (.int .i64 (fi (fun a : Ru => decide (a.nm = s1) && decide (a.cn = s2)) 0 us))) := by
  obtain ⟨g, cs, rfl, ha⟩ := hc
  have hcl := ha.len
  refine Ctr.of_vc (rs := [.tmp 6]) (fn := Tryz.f41) mixed Tryz.func41 rfl rfl (by kernel_rfl) (by kernel_rfl) (by simp [Tryz.ntmps41]) (fun h0 => ?_)
  refine vc_seq fun K1 hK1 => ?_
  refine vc_reg ?_
  try simp (disch := omega) only [go_sem, ↓reduceIte, Nat.reduceEqDiff, reduceCtorEq, Nat.reduceAdd, Nat.reduceLeDiff, Nat.reduceMul, Int.reduceNeg, Int.reduceLT, Int.reduceAdd, Int.reduceSub, hcl]
  intro g0_0 hg0_0
  refine hK1 _ ?_
  refine vc_seq fun K2 hK2 => ?_
  refine vc_seq fun K3 hK3 => ?_
  refine vc_reg ?_
  try simp (disch := omega) only [go_sem, ↓reduceIte, Nat.reduceEqDiff, reduceCtorEq, Nat.reduceAdd, Nat.reduceLeDiff, Nat.reduceMul, Int.reduceNeg, Int.reduceLT, Int.reduceAdd, Int.reduceSub, hcl]
  refine hK3 _ ?_
  refine vc_block ?_
  refine vc_loop (fun m s => ∃ (n : Nat), (m = us.length - n) ∧ (s.σ = [.row g0_0 0 1 1 [[V.t (.sl g cs)]]]) ∧ (s.env 1 = .t (.str s1)) ∧ (s.env 2 = .t (.str s2)) ∧ (s.env 3 = .ptr 0 0 0 0) ∧ (s.env 7 = .t (.int .i64 n)) ∧ (n ≤ us.length) ∧ (fi (fun a : Ru => decide (a.nm = s1) && decide (a.cn = s2)) 0 us = fi (fun a : Ru => decide (a.nm = s1) && decide (a.cn = s2)) n (us.drop n))) (us.length - 0) ⟨0, rfl, (by first | rfl | simp), (by first | rfl | assumption), (by first | rfl | assumption), (by first | rfl | assumption), (by first | rfl | assumption), (by first | rfl | omega | simp), (by first | rfl | omega | simp)⟩ ?_
  rintro m ⟨e, σ, h⟩ ⟨n, hm, hσ, e1, e2, e3, e7, hn, hix⟩ K4 hK4
  simp only at hσ e1 e2 e3 e7
  subst hσ
  refine vc_seq fun K5 hK5 => ?_
  refine vc_seq fun K6 hK6 => ?_
  refine vc_reg ?_
  try simp (disch := omega) only [go_sem, ↓reduceIte, Nat.reduceEqDiff, reduceCtorEq, Nat.reduceAdd, Nat.reduceLeDiff, Nat.reduceMul, Int.reduceNeg, Int.reduceLT, Int.reduceAdd, Int.reduceSub, e1, e2, e3, e7, hcl]
  refine hK6 _ ?_
  refine vc_cond (t := _) rfl (fun hc1 => ?_) (fun hc1 => ?_)
  · (try simp only [go_sem] at hc1)
    refine vc_skip ?_
    refine hK5 _ ?_
    refine vc_seq fun K7 hK7 => ?_
    refine vc_block ?_
    refine vc_seq fun K8 hK8 => ?_
    obtain ⟨cc, hcc, hrc⟩ := Rl.get ha (n := n) (by omega)
    obtain ⟨gac_, gbc_, kc_, nc_, gc_, csc_, rfl, hvc_⟩ := Ru.cells hrc
    refine vc_reg ?_
    refine vcX_cut 9 fun K9 hK9 => ?_
    try simp (disch := omega) only [go_sem, ↓reduceIte, Nat.reduceEqDiff, reduceCtorEq, Nat.reduceAdd, Nat.reduceLeDiff, Nat.reduceMul, Int.reduceNeg, Int.reduceLT, Int.reduceAdd, Int.reduceSub, e1, e2, e3, e7, hcl, hcc]
    refine hK9 _ ?_
    refine vcX_bool (fun hb4_8 => ?_) (fun hb4_8 => ?_)
    · (try simp only [go_sem] at hb4_8)
      try simp (disch := omega) only [go_sem, ↓reduceIte, Nat.reduceEqDiff, reduceCtorEq, Nat.reduceAdd, Nat.reduceLeDiff, Nat.reduceMul, Int.reduceNeg, Int.reduceLT, Int.reduceAdd, Int.reduceSub, e1, e2, e3, e7, hcl, hcc]
      refine hK8 _ ?_
      refine vc_cond (t := _) rfl (fun hc2 => ?_) (fun hc2 => ?_)
      · (try simp only [go_sem] at hc2)
        refine vc_seq fun K11 hK11 => ?_
        refine vc_reg ?_
        try simp (disch := omega) only [go_sem, ↓reduceIte, Nat.reduceEqDiff, reduceCtorEq, Nat.reduceAdd, Nat.reduceLeDiff, Nat.reduceMul, Int.reduceNeg, Int.reduceLT, Int.reduceAdd, Int.reduceSub, e1, e2, e3, e7, hcl]
        refine hK11 _ ?_
        refine vc_ret ?_
        refine ⟨_, by first | rfl | (simp only [go_sem, resQ, List.mapM_cons, List.mapM_nil, ↓reduceIte, Nat.reduceEqDiff, Nat.reduceAdd, Nat.reduceLeDiff, reduceCtorEq]; rfl), [], [], .nil, by simp, by simp, fun hi_ h1_ => ⟨?_, rfl, rfl⟩, by simp⟩
        rw [hix, fi_drop (by omega), if_pos (by simp_all)]; rfl
      · (try simp only [go_sem] at hc2)
        refine vc_skip ?_
        refine hK7 _ ?_
        refine vc_reg ?_
        try simp (disch := omega) only [go_sem, ↓reduceIte, Nat.reduceEqDiff, reduceCtorEq, Nat.reduceAdd, Nat.reduceLeDiff, Nat.reduceMul, Int.reduceNeg, Int.reduceLT, Int.reduceAdd, Int.reduceSub, e1, e2, e3, e7, hcl]
        have hp : ¬ (decide (us[n].nm = s1) && decide (us[n].cn = s2)) = true := by simp_all
        refine hK4 _ _ ?_ ⟨n + 1, rfl, (by first | rfl | simp), (by first | rfl | assumption), (by first | rfl | assumption), (by first | rfl | assumption), (by first | rfl | assumption), ?_, ?_⟩
        · omega
        · first | omega | assumption | rfl | simp_all
        · rw [hix, fi_drop (by omega), if_neg hp]; rfl
    · (try simp only [go_sem] at hb4_8)
      try simp (disch := omega) only [go_sem, ↓reduceIte, Nat.reduceEqDiff, reduceCtorEq, Nat.reduceAdd, Nat.reduceLeDiff, Nat.reduceMul, Int.reduceNeg, Int.reduceLT, Int.reduceAdd, Int.reduceSub, e1, e2, e3, e7, hcl, hcc]
      refine hK8 _ ?_
      refine vc_cond (t := _) rfl (fun hc3 => ?_) (fun hc3 => ?_)
      · exact absurd hc3 (by simp)
      · (try simp only [go_sem] at hc3)
        refine vc_skip ?_
        refine hK7 _ ?_
        refine vc_reg ?_
        try simp (disch := omega) only [go_sem, ↓reduceIte, Nat.reduceEqDiff, reduceCtorEq, Nat.reduceAdd, Nat.reduceLeDiff, Nat.reduceMul, Int.reduceNeg, Int.reduceLT, Int.reduceAdd, Int.reduceSub, e1, e2, e3, e7, hcl]
        have hp : ¬ (decide (us[n].nm = s1) && decide (us[n].cn = s2)) = true := by simp_all
        refine hK4 _ _ ?_ ⟨n + 1, rfl, (by first | rfl | simp), (by first | rfl | assumption), (by first | rfl | assumption), (by first | rfl | assumption), (by first | rfl | assumption), ?_, ?_⟩
        · omega
        · first | omega | assumption | rfl | simp_all
        · rw [hix, fi_drop (by omega), if_neg hp]; rfl
  · (try simp only [go_sem] at hc1)
    refine vc_exit ?_
    refine hK2 _ ?_
    refine vc_seq fun K12 hK12 => ?_
    refine vc_reg ?_
    try simp (disch := omega) only [go_sem, ↓reduceIte, Nat.reduceEqDiff, reduceCtorEq, Nat.reduceAdd, Nat.reduceLeDiff, Nat.reduceMul, Int.reduceNeg, Int.reduceLT, Int.reduceAdd, Int.reduceSub, e1, e2, e3, e7, hcl]
    refine hK12 _ ?_
    refine vc_ret ?_
    refine ⟨_, by first | rfl | (simp only [go_sem, resQ, List.mapM_cons, List.mapM_nil, ↓reduceIte, Nat.reduceEqDiff, Nat.reduceAdd, Nat.reduceLeDiff, reduceCtorEq]; rfl), [], [], .nil, by simp, by simp, fun hi_ h1_ => ⟨?_, rfl, rfl⟩, by simp⟩
    rw [hix, List.drop_of_length_le (by omega), fi]; rfl

/-- How many arguments a function takes. -/
def arity (us : List Ru) (s : ByteArray) : Int :=
  if fi (fun a : Ru => decide (a.nm = s)) 0 us < 0 then -1 else match us[(fi (fun a : Ru => decide (a.nm = s)) 0 us).toNat]? with
    | some a => a.ps.length + (if a.cn ≠ ⟨#[]⟩ then 1 else 0)
    | none => 0

/-- spec.l5First -/
theorem spec_l5First (us : List Ru) (c : List T) (hc : Pg.rep us c) (hl : us.length < 2^40) (s1 : ByteArray) : FCtr Tryz.prog 42 [.agg (c.map .t), .t (.str s1)] (fun r => r = .t (.int .i64 (fi (fun a : Ru => decide (a.nm = s1)) 0 us))) := by
  obtain ⟨g, cs, rfl, ha⟩ := hc
  have hcl := ha.len
  refine Ctr.of_vc (rs := [.tmp 4]) (fn := Tryz.f42) mixed Tryz.func42 rfl rfl (by kernel_rfl) (by kernel_rfl) (by simp [Tryz.ntmps42]) (fun h0 => ?_)
  refine vc_seq fun K1 hK1 => ?_
  refine vc_reg ?_
  try simp (disch := omega) only [go_sem, ↓reduceIte, Nat.reduceEqDiff, reduceCtorEq, Nat.reduceAdd, Nat.reduceLeDiff, Nat.reduceMul, Int.reduceNeg, Int.reduceLT, Int.reduceAdd, Int.reduceSub, hcl]
  intro g0_0 hg0_0
  refine hK1 _ ?_
  refine vc_seq fun K2 hK2 => ?_
  refine vc_seq fun K3 hK3 => ?_
  refine vc_reg ?_
  try simp (disch := omega) only [go_sem, ↓reduceIte, Nat.reduceEqDiff, reduceCtorEq, Nat.reduceAdd, Nat.reduceLeDiff, Nat.reduceMul, Int.reduceNeg, Int.reduceLT, Int.reduceAdd, Int.reduceSub, hcl]
  refine hK3 _ ?_
  refine vc_block ?_
  refine vc_loop (fun m s => ∃ (n : Nat), (m = us.length - n) ∧ (s.σ = [.row g0_0 0 1 1 [[V.t (.sl g cs)]]]) ∧ (s.env 1 = .t (.str s1)) ∧ (s.env 2 = .ptr 0 0 0 0) ∧ (s.env 5 = .t (.int .i64 n)) ∧ (n ≤ us.length) ∧ (fi (fun a : Ru => decide (a.nm = s1)) 0 us = fi (fun a : Ru => decide (a.nm = s1)) n (us.drop n))) (us.length - 0) ⟨0, rfl, (by first | rfl | simp), (by first | rfl | assumption), (by first | rfl | assumption), (by first | rfl | assumption), (by first | rfl | omega | simp), (by first | rfl | omega | simp)⟩ ?_
  rintro m ⟨e, σ, h⟩ ⟨n, hm, hσ, e1, e2, e5, hn, hix⟩ K4 hK4
  simp only at hσ e1 e2 e5
  subst hσ
  refine vc_seq fun K5 hK5 => ?_
  refine vc_seq fun K6 hK6 => ?_
  refine vc_reg ?_
  try simp (disch := omega) only [go_sem, ↓reduceIte, Nat.reduceEqDiff, reduceCtorEq, Nat.reduceAdd, Nat.reduceLeDiff, Nat.reduceMul, Int.reduceNeg, Int.reduceLT, Int.reduceAdd, Int.reduceSub, e1, e2, e5, hcl]
  refine hK6 _ ?_
  refine vc_cond (t := _) rfl (fun hc1 => ?_) (fun hc1 => ?_)
  · (try simp only [go_sem] at hc1)
    refine vc_skip ?_
    refine hK5 _ ?_
    refine vc_seq fun K7 hK7 => ?_
    refine vc_block ?_
    refine vc_seq fun K8 hK8 => ?_
    obtain ⟨cc, hcc, hrc⟩ := Rl.get ha (n := n) (by omega)
    obtain ⟨gac_, gbc_, kc_, nc_, gc_, csc_, rfl, hvc_⟩ := Ru.cells hrc
    refine vc_reg ?_
    try simp (disch := omega) only [go_sem, ↓reduceIte, Nat.reduceEqDiff, reduceCtorEq, Nat.reduceAdd, Nat.reduceLeDiff, Nat.reduceMul, Int.reduceNeg, Int.reduceLT, Int.reduceAdd, Int.reduceSub, e1, e2, e5, hcl, hcc]
    refine hK8 _ ?_
    refine vc_cond (t := _) rfl (fun hc2 => ?_) (fun hc2 => ?_)
    · (try simp only [go_sem] at hc2)
      refine vc_seq fun K9 hK9 => ?_
      refine vc_reg ?_
      try simp (disch := omega) only [go_sem, ↓reduceIte, Nat.reduceEqDiff, reduceCtorEq, Nat.reduceAdd, Nat.reduceLeDiff, Nat.reduceMul, Int.reduceNeg, Int.reduceLT, Int.reduceAdd, Int.reduceSub, e1, e2, e5, hcl]
      refine hK9 _ ?_
      refine vc_ret ?_
      refine ⟨_, by first | rfl | (simp only [go_sem, resQ, List.mapM_cons, List.mapM_nil, ↓reduceIte, Nat.reduceEqDiff, Nat.reduceAdd, Nat.reduceLeDiff, reduceCtorEq]; rfl), [], [], .nil, by simp, by simp, fun hi_ h1_ => ⟨?_, rfl, rfl⟩, by simp⟩
      rw [hix, fi_drop (by omega), if_pos (by simpa using hc2)]; rfl
    · (try simp only [go_sem] at hc2)
      refine vc_skip ?_
      refine hK7 _ ?_
      refine vc_reg ?_
      try simp (disch := omega) only [go_sem, ↓reduceIte, Nat.reduceEqDiff, reduceCtorEq, Nat.reduceAdd, Nat.reduceLeDiff, Nat.reduceMul, Int.reduceNeg, Int.reduceLT, Int.reduceAdd, Int.reduceSub, e1, e2, e5, hcl]
      refine hK4 _ _ ?_ ⟨n + 1, rfl, (by first | rfl | simp), (by first | rfl | assumption), (by first | rfl | assumption), (by first | rfl | assumption), ?_, ?_⟩
      · omega
      · first | omega | assumption | rfl | simp_all
      · rw [hix, fi_drop (by omega), if_neg (by simpa using hc2)]; rfl
  · (try simp only [go_sem] at hc1)
    refine vc_exit ?_
    refine hK2 _ ?_
    refine vc_seq fun K10 hK10 => ?_
    refine vc_reg ?_
    try simp (disch := omega) only [go_sem, ↓reduceIte, Nat.reduceEqDiff, reduceCtorEq, Nat.reduceAdd, Nat.reduceLeDiff, Nat.reduceMul, Int.reduceNeg, Int.reduceLT, Int.reduceAdd, Int.reduceSub, e1, e2, e5, hcl]
    refine hK10 _ ?_
    refine vc_ret ?_
    refine ⟨_, by first | rfl | (simp only [go_sem, resQ, List.mapM_cons, List.mapM_nil, ↓reduceIte, Nat.reduceEqDiff, Nat.reduceAdd, Nat.reduceLeDiff, reduceCtorEq]; rfl), [], [], .nil, by simp, by simp, fun hi_ h1_ => ⟨?_, rfl, rfl⟩, by simp⟩
    rw [hix, List.drop_of_length_le (by omega), fi]; rfl

/-- impl.firstRule -/
theorem impl_firstRule (us : List Ru) (c : List T) (hc : Pg.rep us c) (hl : us.length < 2^40) (s1 : ByteArray) : FCtr Tryz.prog 24 [.agg (c.map .t), .t (.str s1)] (fun r => r = .t (.int .i64 (fi (fun a : Ru => decide (a.nm = s1)) 0 us))) := by
  obtain ⟨g, cs, rfl, ha⟩ := hc
  refine Ctr.of_vc (rs := [.tmp 4]) (fn := Tryz.f24) mixed Tryz.func24 rfl rfl (by kernel_rfl) (by kernel_rfl) (by simp [Tryz.ntmps24]) (fun h0 => ?_)
  refine vc_seq fun K1 hK1 => ?_
  refine vc_reg ?_
  try simp (disch := omega) only [go_sem, ↓reduceIte, Nat.reduceEqDiff, reduceCtorEq, Nat.reduceAdd, Nat.reduceLeDiff, Nat.reduceMul, Int.reduceNeg, Int.reduceLT, Int.reduceAdd, Int.reduceSub]
  intro g0_0 hg0_0
  intro g0_1 hg0_1
  refine hK1 _ ?_
  refine vc_seq fun K2 hK2 => ?_
  refine vc_reg ?_
  try simp (disch := omega) only [go_sem, ↓reduceIte, Nat.reduceEqDiff, reduceCtorEq, Nat.reduceAdd, Nat.reduceLeDiff, Nat.reduceMul, Int.reduceNeg, Int.reduceLT, Int.reduceAdd, Int.reduceSub]
  refine vcX_callF [1] [] [.t (.sl g cs), .fn 56 [.ptr 0 0 0 0]] [.row g0_1 0 1 1 [[.t (.str s1)]]] _ (slices_IndexFunc_Rule1 g _ g0_1 (.str s1) (fun a : Ru => decide (a.nm = s1)) us cs ha hl (fun a _ c h => impl_firstRule_1 g0_1 a c h s1)) (by first | rfl | simp (disch := omega) only [go_sem, ↓reduceIte, Nat.reduceEqDiff, reduceCtorEq, Nat.reduceAdd, Nat.reduceLeDiff, Nat.reduceMul, Int.reduceNeg, Int.reduceLT, Int.reduceAdd, Int.reduceSub]) (by simp) (by simp) (by simp) rfl (Subs.of_eq (by first | rfl | (simp (disch := omega) only [go_sem, ↓reduceIte, Nat.reduceEqDiff, reduceCtorEq, Nat.reduceAdd, Nat.reduceLeDiff, Nat.reduceMul, Int.reduceNeg, Int.reduceLT, Int.reduceAdd, Int.reduceSub]) | (simp only [go_sem, V.loc, V.locs, idx]; done))) ?_
  rintro r1_3 σ1_3 h1_3 hh1_3 ⟨rfl, rfl⟩
  refine ⟨by simp, ?_⟩
  try simp (disch := omega) only [go_sem, ↓reduceIte, Nat.reduceEqDiff, reduceCtorEq, Nat.reduceAdd, Nat.reduceLeDiff, Nat.reduceMul, Int.reduceNeg, Int.reduceLT, Int.reduceAdd, Int.reduceSub]
  refine hK2 _ ?_
  refine vc_ret ?_
  refine ⟨_, by first | rfl | (simp only [go_sem, resQ, List.mapM_cons, List.mapM_nil, ↓reduceIte, Nat.reduceEqDiff, Nat.reduceAdd, Nat.reduceLeDiff, reduceCtorEq]; rfl), [], [], .nil, by simp, by simp, fun hi_ h1_ => ⟨?_, rfl, rfl⟩, by simp⟩
  first | rfl | simp_all
end Go.Proofs.YtldhhppfnhgcdaaGreat
