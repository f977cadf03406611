/- Walks through the code: each function's contract. -/
import Derived.Test.YtldhhppfnhgcdaaGreatWAQ
set_option linter.unusedVariables false
set_option linter.unusedSimpArgs false
set_option maxRecDepth 8000
namespace Go.Proofs.YtldhhppfnhgcdaaGreat
open Go Go.VL

/-- laws.szExprS -/
theorem laws_szExprS (g : Nat) (us : List E) (cs : List (List T)) (N : Int) (ha : E.repL us cs) (hl : us.length ≤ reachBytes) (hN : 0 ≤ N ∧ N ≤ 1048576) (ih : ∀ a ∈ us, ∀ (c : List T) (N : Int), a.rep c → 0 ≤ N ∧ N ≤ 1048576 → FCtr Tryz.prog 36 [.agg (c.map .t), .t (.int .i64 N)] (fun r => ∃ m : Int, r = .t (.int .i64 m) ∧ (m < 0 ∨ (0 ≤ m ∧ m + a.wt = N)))) : FCtr Tryz.prog 70 [.t (.sl g cs), .t (.int .i64 N)] (fun r => ∃ m : Int, r = .t (.int .i64 m) ∧ (m < 0 ∨ (0 ≤ m ∧ m + E.wtL us = N))) := by
  have hcl := E.repL_len ha
  have reach := reach47
  refine Ctr.of_vc (rs := [.tmp 4]) (fn := Tryz.f70) mixed Tryz.func70 rfl rfl (by kernel_rfl) (by kernel_rfl) (by simp [Tryz.ntmps70]) (fun h0 => ?_)
  refine vc_seq fun K1 hK1 => ?_
  refine vc_reg ?_
  try simp (disch := omega) only [go_sem, ↓reduceIte, Nat.reduceEqDiff, reduceCtorEq, Nat.reduceAdd, Nat.reduceLeDiff, Nat.reduceMul, Int.reduceNeg, Int.reduceLT, Int.reduceAdd, Int.reduceSub, hcl]
  refine hK1 _ ?_
  refine vc_seq fun K2 hK2 => ?_
  refine vc_reg ?_
  try simp (disch := omega) only [go_sem, ↓reduceIte, Nat.reduceEqDiff, reduceCtorEq, Nat.reduceAdd, Nat.reduceLeDiff, Nat.reduceMul, Int.reduceNeg, Int.reduceLT, Int.reduceAdd, Int.reduceSub, hcl]
  refine hK2 _ ?_
  refine vc_seq fun K3 hK3 => ?_
  refine vc_seq fun K4 hK4 => ?_
  refine vc_reg ?_
  try simp (disch := omega) only [go_sem, ↓reduceIte, Nat.reduceEqDiff, reduceCtorEq, Nat.reduceAdd, Nat.reduceLeDiff, Nat.reduceMul, Int.reduceNeg, Int.reduceLT, Int.reduceAdd, Int.reduceSub, hcl]
  refine hK4 _ ?_
  refine vc_cond (t := _) rfl (fun hc1 => ?_) (fun hc1 => ?_)
  · (try simp only [go_sem] at hc1)
    refine vc_seq fun K5 hK5 => ?_
    refine vc_reg ?_
    try simp (disch := omega) only [go_sem, ↓reduceIte, Nat.reduceEqDiff, reduceCtorEq, Nat.reduceAdd, Nat.reduceLeDiff, Nat.reduceMul, Int.reduceNeg, Int.reduceLT, Int.reduceAdd, Int.reduceSub, hcl]
    refine hK5 _ ?_
    refine vc_ret ?_
    refine ⟨_, by first | rfl | (simp only [go_sem, resQ, List.mapM_cons, List.mapM_nil, ↓reduceIte, Nat.reduceEqDiff, Nat.reduceAdd, Nat.reduceLeDiff, reduceCtorEq]; rfl), [], [], .nil, by simp, by simp, fun hi_ h1_ => ⟨?_, rfl, rfl⟩, by simp⟩
    exact ⟨_, rfl, .inl (by omega)⟩
  · (try simp only [go_sem] at hc1)
    refine vc_skip ?_
    refine hK3 _ ?_
    refine vc_seq fun K6 hK6 => ?_
    refine vc_seq fun K7 hK7 => ?_
    refine vc_reg ?_
    try simp (disch := omega) only [go_sem, ↓reduceIte, Nat.reduceEqDiff, reduceCtorEq, Nat.reduceAdd, Nat.reduceLeDiff, Nat.reduceMul, Int.reduceNeg, Int.reduceLT, Int.reduceAdd, Int.reduceSub, hcl]
    refine hK7 _ ?_
    refine vc_block ?_
    refine vc_loop (fun m s => ∃ (n : Nat) (q : Int), (m = us.length - n) ∧ (s.σ = []) ∧ (s.env 0 = .t (.sl g cs)) ∧ (s.env 1 = .t (.int .i64 q)) ∧ (s.env 5 = .t (.int .i64 n)) ∧ (n ≤ us.length) ∧ (0 ≤ q ∧ q ≤ N) ∧ (q + us.length - n - E.wtL (us.drop n) = N - E.wtL us)) (us.length - 0) ⟨0, N - us.length, rfl, rfl, (by first | rfl | assumption), (by first | rfl | assumption), (by first | rfl | assumption), (by first | rfl | omega | simp), (by first | rfl | omega | simp), (by first | rfl | omega | simp)⟩ ?_
    rintro m ⟨e, σ, h⟩ ⟨n, q, hm, hσ, e0, e1, e5, hn, hq, hs⟩ K8 hK8
    simp only at hσ e0 e1 e5
    subst hσ
    refine vc_seq fun K9 hK9 => ?_
    refine vc_seq fun K10 hK10 => ?_
    refine vc_reg ?_
    try simp (disch := omega) only [go_sem, ↓reduceIte, Nat.reduceEqDiff, reduceCtorEq, Nat.reduceAdd, Nat.reduceLeDiff, Nat.reduceMul, Int.reduceNeg, Int.reduceLT, Int.reduceAdd, Int.reduceSub, e0, e1, e5, hcl]
    refine hK10 _ ?_
    refine vc_cond (t := _) rfl (fun hc2 => ?_) (fun hc2 => ?_)
    · (try simp only [go_sem] at hc2)
      refine vc_skip ?_
      refine hK9 _ ?_
      refine vc_seq fun K11 hK11 => ?_
      refine vc_block ?_
      refine vc_seq fun K12 hK12 => ?_
      obtain ⟨c, hc, hrc⟩ := E.repL_get ha (n := n) (by omega)
      obtain ⟨gc, cc, rfl, hcc⟩ := E.rep_cells hrc
      refine vc_reg ?_
      try simp (disch := omega) only [go_sem, ↓reduceIte, Nat.reduceEqDiff, reduceCtorEq, Nat.reduceAdd, Nat.reduceLeDiff, Nat.reduceMul, Int.reduceNeg, Int.reduceLT, Int.reduceAdd, Int.reduceSub, e0, e1, e5, hcl, hc]
      refine vcX_call _ _ (ih _ (List.getElem_mem (show n < us.length by omega)) _ q hrc (by omega)) rfl rfl (by first | rfl | simp [V.pures, V.pure, V.pures_t]) ?_
      rintro r7_5 h7_5 hh7_5 ⟨m', rfl, hm'⟩ -
      try simp (disch := omega) only [go_sem, ↓reduceIte, Nat.reduceEqDiff, reduceCtorEq, Nat.reduceAdd, Nat.reduceLeDiff, Nat.reduceMul, Int.reduceNeg, Int.reduceLT, Int.reduceAdd, Int.reduceSub, e0, e1, e5, hcl, hc]
      refine hK12 _ ?_
      refine vc_seq fun K13 hK13 => ?_
      refine vc_reg ?_
      try simp (disch := omega) only [go_sem, ↓reduceIte, Nat.reduceEqDiff, reduceCtorEq, Nat.reduceAdd, Nat.reduceLeDiff, Nat.reduceMul, Int.reduceNeg, Int.reduceLT, Int.reduceAdd, Int.reduceSub, e0, e1, e5, hcl]
      refine hK13 _ ?_
      refine vc_cond (t := _) rfl (fun hc3 => ?_) (fun hc3 => ?_)
      · (try simp only [go_sem] at hc3)
        refine vc_seq fun K14 hK14 => ?_
        refine vc_reg ?_
        try simp (disch := omega) only [go_sem, ↓reduceIte, Nat.reduceEqDiff, reduceCtorEq, Nat.reduceAdd, Nat.reduceLeDiff, Nat.reduceMul, Int.reduceNeg, Int.reduceLT, Int.reduceAdd, Int.reduceSub, e0, e1, e5, hcl]
        refine hK14 _ ?_
        refine vc_ret ?_
        refine ⟨_, by first | rfl | (simp only [go_sem, resQ, List.mapM_cons, List.mapM_nil, ↓reduceIte, Nat.reduceEqDiff, Nat.reduceAdd, Nat.reduceLeDiff, reduceCtorEq]; rfl), [], [], .nil, by simp, by simp, fun hi_ h1_ => ⟨?_, rfl, rfl⟩, by simp⟩
        exact ⟨_, rfl, .inl (by omega)⟩
      · (try simp only [go_sem] at hc3)
        refine vc_skip ?_
        refine hK11 _ ?_
        refine vc_reg ?_
        try simp (disch := omega) only [go_sem, ↓reduceIte, Nat.reduceEqDiff, reduceCtorEq, Nat.reduceAdd, Nat.reduceLeDiff, Nat.reduceMul, Int.reduceNeg, Int.reduceLT, Int.reduceAdd, Int.reduceSub, e0, e1, e5, hcl]
        have hd := E.wtL_drop (l := us) (n := n) (by omega)
        refine hK8 _ _ ?_ ⟨n + 1, m', rfl, rfl, (by first | rfl | assumption), (by first | rfl | assumption), (by first | rfl | assumption), ?_, ?_, ?_⟩
        · omega
        · first | omega | assumption | rfl | simp_all
        · first | omega | assumption | rfl | simp_all
        · first | omega | assumption | rfl | simp_all
    · (try simp only [go_sem] at hc2)
      refine vc_exit ?_
      refine hK6 _ ?_
      refine vc_seq fun K15 hK15 => ?_
      refine vc_reg ?_
      try simp (disch := omega) only [go_sem, ↓reduceIte, Nat.reduceEqDiff, reduceCtorEq, Nat.reduceAdd, Nat.reduceLeDiff, Nat.reduceMul, Int.reduceNeg, Int.reduceLT, Int.reduceAdd, Int.reduceSub, e0, e1, e5, hcl]
      refine hK15 _ ?_
      refine vc_ret ?_
      refine ⟨_, by first | rfl | (simp only [go_sem, resQ, List.mapM_cons, List.mapM_nil, ↓reduceIte, Nat.reduceEqDiff, Nat.reduceAdd, Nat.reduceLeDiff, reduceCtorEq]; rfl), [], [], .nil, by simp, by simp, fun hi_ h1_ => ⟨?_, rfl, rfl⟩, by simp⟩
      rw [List.drop_of_length_le (by omega), E.wtL] at hs
      exact ⟨_, rfl, .inr (by omega)⟩

/-- laws.szExpr -/
theorem laws_szExpr (e : E) (c : List T) (N : Int) (hc : e.rep c) (hs : e.small) (hN : 0 ≤ N ∧ N ≤ 1048576) : FCtr Tryz.prog 36 [.agg (c.map .t), .t (.int .i64 N)] (fun r => ∃ m : Int, r = .t (.int .i64 m) ∧ (m < 0 ∨ (0 ≤ m ∧ m + e.wt = N))) := by
  induction e using E.ind generalizing c N
  rename_i k nm us ih
  obtain ⟨g, cs, rfl, hcs⟩ := E.rep_mk hc
  obtain ⟨hn, hal, hk, hsl⟩ := E.small_mk.1 hs
  have reach := reach47
  rw [E.wt]
  refine Ctr.of_vc (rs := [.tmp 4]) (fn := Tryz.f36) mixed Tryz.func36 rfl rfl (by kernel_rfl) (by kernel_rfl) (by simp [Tryz.ntmps36]) (fun h0 => ?_)
  refine vc_seq fun K1 hK1 => ?_
  refine vc_reg ?_
  try simp (disch := omega) only [go_sem, ↓reduceIte, Nat.reduceEqDiff, reduceCtorEq, Nat.reduceAdd, Nat.reduceLeDiff, Nat.reduceMul, Int.reduceNeg, Int.reduceLT, Int.reduceAdd, Int.reduceSub]
  intro g0_0 hg0_0
  refine hK1 _ ?_
  refine vc_seq fun K2 hK2 => ?_
  refine vc_reg ?_
  try simp (disch := omega) only [go_sem, ↓reduceIte, Nat.reduceEqDiff, reduceCtorEq, Nat.reduceAdd, Nat.reduceLeDiff, Nat.reduceMul, Int.reduceNeg, Int.reduceLT, Int.reduceAdd, Int.reduceSub]
  refine hK2 _ ?_
  refine vc_seq fun K3 hK3 => ?_
  refine vc_seq fun K4 hK4 => ?_
  refine vc_reg ?_
  try simp (disch := omega) only [go_sem, ↓reduceIte, Nat.reduceEqDiff, reduceCtorEq, Nat.reduceAdd, Nat.reduceLeDiff, Nat.reduceMul, Int.reduceNeg, Int.reduceLT, Int.reduceAdd, Int.reduceSub]
  refine hK4 _ ?_
  refine vc_cond (t := _) rfl (fun hc1 => ?_) (fun hc1 => ?_)
  · (try simp only [go_sem] at hc1)
    refine vc_seq fun K5 hK5 => ?_
    refine vc_reg ?_
    try simp (disch := omega) only [go_sem, ↓reduceIte, Nat.reduceEqDiff, reduceCtorEq, Nat.reduceAdd, Nat.reduceLeDiff, Nat.reduceMul, Int.reduceNeg, Int.reduceLT, Int.reduceAdd, Int.reduceSub]
    refine hK5 _ ?_
    refine vc_ret ?_
    refine ⟨_, by first | rfl | (simp only [go_sem, resQ, List.mapM_cons, List.mapM_nil, ↓reduceIte, Nat.reduceEqDiff, Nat.reduceAdd, Nat.reduceLeDiff, reduceCtorEq]; rfl), [], [], .nil, by simp, by simp, fun hi_ h1_ => ⟨?_, rfl, rfl⟩, by simp⟩
    exact ⟨_, rfl, .inl (by omega)⟩
  · (try simp only [go_sem] at hc1)
    refine vc_skip ?_
    refine hK3 _ ?_
    refine vc_seq fun K6 hK6 => ?_
    refine vc_reg ?_
    try simp (disch := omega) only [go_sem, ↓reduceIte, Nat.reduceEqDiff, reduceCtorEq, Nat.reduceAdd, Nat.reduceLeDiff, Nat.reduceMul, Int.reduceNeg, Int.reduceLT, Int.reduceAdd, Int.reduceSub]
    refine vcX_call _ _ (laws_szExprS g us cs (N - nm.size) hcs hal (by omega) (fun a ha c N h1 h2 => ih a ha c N h1 (E.smallL_mem hsl a ha) h2)) rfl rfl (by first | rfl | simp [V.pures, V.pure, V.pures_t]) ?_
    rintro r4_3 h4_3 hh4_3 ⟨m', rfl, hm'⟩ -
    try simp (disch := omega) only [go_sem, ↓reduceIte, Nat.reduceEqDiff, reduceCtorEq, Nat.reduceAdd, Nat.reduceLeDiff, Nat.reduceMul, Int.reduceNeg, Int.reduceLT, Int.reduceAdd, Int.reduceSub]
    refine hK6 _ ?_
    refine vc_seq fun K7 hK7 => ?_
    refine vc_seq fun K8 hK8 => ?_
    refine vc_reg ?_
    try simp (disch := omega) only [go_sem, ↓reduceIte, Nat.reduceEqDiff, reduceCtorEq, Nat.reduceAdd, Nat.reduceLeDiff, Nat.reduceMul, Int.reduceNeg, Int.reduceLT, Int.reduceAdd, Int.reduceSub]
    refine hK8 _ ?_
    refine vc_cond (t := _) rfl (fun hc2 => ?_) (fun hc2 => ?_)
    · (try simp only [go_sem] at hc2)
      refine vc_seq fun K9 hK9 => ?_
      refine vc_reg ?_
      try simp (disch := omega) only [go_sem, ↓reduceIte, Nat.reduceEqDiff, reduceCtorEq, Nat.reduceAdd, Nat.reduceLeDiff, Nat.reduceMul, Int.reduceNeg, Int.reduceLT, Int.reduceAdd, Int.reduceSub]
      refine hK9 _ ?_
      refine vc_ret ?_
      refine ⟨_, by first | rfl | (simp only [go_sem, resQ, List.mapM_cons, List.mapM_nil, ↓reduceIte, Nat.reduceEqDiff, Nat.reduceAdd, Nat.reduceLeDiff, reduceCtorEq]; rfl), [], [], .nil, by simp, by simp, fun hi_ h1_ => ⟨?_, rfl, rfl⟩, by simp⟩
      exact ⟨_, rfl, .inl (by omega)⟩
    · (try simp only [go_sem] at hc2)
      refine vc_skip ?_
      refine hK7 _ ?_
      refine vc_seq fun K10 hK10 => ?_
      refine vc_reg ?_
      try simp (disch := omega) only [go_sem, ↓reduceIte, Nat.reduceEqDiff, reduceCtorEq, Nat.reduceAdd, Nat.reduceLeDiff, Nat.reduceMul, Int.reduceNeg, Int.reduceLT, Int.reduceAdd, Int.reduceSub]
      refine hK10 _ ?_
      refine vc_ret ?_
      refine ⟨_, by first | rfl | (simp only [go_sem, resQ, List.mapM_cons, List.mapM_nil, ↓reduceIte, Nat.reduceEqDiff, Nat.reduceAdd, Nat.reduceLeDiff, reduceCtorEq]; rfl), [], [], .nil, by simp, by simp, fun hi_ h1_ => ⟨?_, rfl, rfl⟩, by simp⟩
      exact ⟨_, rfl, .inr (by omega)⟩

/-- laws.toExprS -/
theorem laws_toExprS (g : Nat) (us : List E) (cs : List (List T)) (ha : E.repL us cs) (hl : us.length < 2^40) (ih : ∀ a ∈ us, ∀ (c : List T), a.rep c → FCtr Tryz.prog 47 [.agg (c.map .t)] (fun r => ∃ c' : List T, r = .agg (c'.map .t) ∧ a.rep c')) : FCtr Tryz.prog 82 [.t (.sl g cs)] (fun r => ∃ (g' : Nat) (cs' : List (List T)), r = .t (.sl g' cs') ∧ E.repL us cs') := by
  have hcl := E.repL_len ha
  refine Ctr.of_vc (rs := [.tmp 2]) (fn := Tryz.f82) mixed Tryz.func82 rfl rfl (by kernel_rfl) (by kernel_rfl) (by simp [Tryz.ntmps82]) (fun h0 => ?_)
  refine vc_seq fun K1 hK1 => ?_
  refine vc_reg ?_
  try simp (disch := omega) only [go_sem, ↓reduceIte, Nat.reduceEqDiff, reduceCtorEq, Nat.reduceAdd, Nat.reduceLeDiff, Nat.reduceMul, Int.reduceNeg, Int.reduceLT, Int.reduceAdd, Int.reduceSub, hcl, Int.toNat_natCast]
  refine hK1 _ ?_
  refine vc_seq fun K2 hK2 => ?_
  refine vc_reg ?_
  try simp (disch := omega) only [go_sem, ↓reduceIte, Nat.reduceEqDiff, reduceCtorEq, Nat.reduceAdd, Nat.reduceLeDiff, Nat.reduceMul, Int.reduceNeg, Int.reduceLT, Int.reduceAdd, Int.reduceSub, hcl, Int.toNat_natCast]
  refine ⟨by simp [mkOk]; omega, fun g1_2 hg1_2 => ?_⟩
  try simp (disch := omega) only [go_sem, ↓reduceIte, Nat.reduceEqDiff, reduceCtorEq, Nat.reduceAdd, Nat.reduceLeDiff, Nat.reduceMul, Int.reduceNeg, Int.reduceLT, Int.reduceAdd, Int.reduceSub, hcl, Int.toNat_natCast]
  refine hK2 _ ?_
  refine vc_seq fun K3 hK3 => ?_
  refine vc_seq fun K4 hK4 => ?_
  refine vc_reg ?_
  try simp (disch := omega) only [go_sem, ↓reduceIte, Nat.reduceEqDiff, reduceCtorEq, Nat.reduceAdd, Nat.reduceLeDiff, Nat.reduceMul, Int.reduceNeg, Int.reduceLT, Int.reduceAdd, Int.reduceSub, hcl, Int.toNat_natCast]
  refine hK4 _ ?_
  refine vc_block ?_
  refine vc_loop (fun m s => ∃ (n g' : Nat) (acc : List (List T)), (m = us.length - n) ∧ (s.σ = [.row g' 0 3 (us.length * 3) (acc.map (·.map V.t) ++ List.replicate (us.length - n) [V.t (.int .i64 0), V.t (.str ⟨#[]⟩), V.nil0])]) ∧ (s.env 0 = .t (.sl g cs)) ∧ (s.env 3 = .own 0 0 0 us.length) ∧ (s.env 4 = .t (.int .i64 n)) ∧ (n ≤ us.length) ∧ (E.repL (us.take n) acc)) (us.length - 0) ⟨0, g1_2, [], rfl, (by first | rfl | simp), (by first | rfl | assumption), (by first | rfl | assumption), (by first | rfl | assumption), (by first | rfl | omega | simp), (by simpa using E.repL_nil)⟩ ?_
  rintro m ⟨e, σ, h⟩ ⟨n, g', acc, hm, hσ, e0, e3, e4, hn, hacc⟩ K5 hK5
  simp only at hσ e0 e3 e4
  subst hσ
  refine vc_seq fun K6 hK6 => ?_
  refine vc_seq fun K7 hK7 => ?_
  refine vc_reg ?_
  try simp (disch := omega) only [go_sem, ↓reduceIte, Nat.reduceEqDiff, reduceCtorEq, Nat.reduceAdd, Nat.reduceLeDiff, Nat.reduceMul, Int.reduceNeg, Int.reduceLT, Int.reduceAdd, Int.reduceSub, e0, e3, e4, hcl, Int.toNat_natCast]
  refine hK7 _ ?_
  refine vc_cond (t := _) rfl (fun hc1 => ?_) (fun hc1 => ?_)
  · (try simp only [go_sem] at hc1)
    refine vc_skip ?_
    refine hK6 _ ?_
    refine vc_seq fun K8 hK8 => ?_
    refine vc_block ?_
    obtain ⟨c, hc, hrc⟩ := E.repL_get ha (n := n) (by omega)
    obtain ⟨gc, cc, rfl, hcc⟩ := E.rep_cells hrc
    have hal : (acc.map (·.map V.t)).length = n := by have := E.repL_len hacc; simp at this ⊢; omega
    have hget := fill_get (acc.map (·.map V.t)) (us.length - n) [V.t (.int .i64 0), V.t (.str ⟨#[]⟩), V.nil0] (by omega)
    have hset := fun v => fill_set (acc.map (·.map V.t)) (us.length - n) [V.t (.int .i64 0), V.t (.str ⟨#[]⟩), V.nil0] v (by omega)
    rw [hal] at hget
    simp only [hal] at hset
    have hsub : us.length - n - 1 = us.length - (n + 1) := by omega
    simp only [hsub] at hset
    refine vc_reg ?_
    try simp (disch := omega) only [go_sem, ↓reduceIte, Nat.reduceEqDiff, reduceCtorEq, Nat.reduceAdd, Nat.reduceLeDiff, Nat.reduceMul, Int.reduceNeg, Int.reduceLT, Int.reduceAdd, Int.reduceSub, e0, e3, e4, hcl, Int.toNat_natCast, hc, show n < us.length by omega]
    refine vcX_call _ _ (ih _ (List.getElem_mem (show n < us.length by omega)) _ hrc) rfl rfl (by first | rfl | simp [V.pures, V.pure, V.pures_t]) ?_
    rintro r5_6 h5_6 hh5_6 ⟨c', rfl, hc'⟩ -
    obtain ⟨gc', cc', rfl, hcc'⟩ := E.rep_cells hc'
    try simp (disch := omega) only [go_sem, ↓reduceIte, Nat.reduceEqDiff, reduceCtorEq, Nat.reduceAdd, Nat.reduceLeDiff, Nat.reduceMul, Int.reduceNeg, Int.reduceLT, Int.reduceAdd, Int.reduceSub, e0, e3, e4, hcl, Int.toNat_natCast, hget, hset, show n < us.length by omega]
    refine hK8 _ ?_
    refine vc_reg ?_
    try simp (disch := omega) only [go_sem, ↓reduceIte, Nat.reduceEqDiff, reduceCtorEq, Nat.reduceAdd, Nat.reduceLeDiff, Nat.reduceMul, Int.reduceNeg, Int.reduceLT, Int.reduceAdd, Int.reduceSub, e0, e3, e4, hcl, Int.toNat_natCast]
    refine hK5 _ _ ?_ ⟨n + 1, g', acc ++ [[.int .i64 us[n].kind, .str us[n].name, .sl gc' cc']], rfl, (by first | rfl | simp), (by first | rfl | assumption), (by first | rfl | assumption), (by first | rfl | assumption), ?_, ?_⟩
    · omega
    · first | omega | assumption | rfl | simp_all
    · rw [List.take_add_one, List.getElem?_eq_getElem (by omega)]; exact E.repL_append hacc (E.repL_one hc')
  · (try simp only [go_sem] at hc1)
    refine vc_exit ?_
    refine hK3 _ ?_
    refine vc_seq fun K9 hK9 => ?_
    refine vc_reg ?_
    try simp (disch := omega) only [go_sem, ↓reduceIte, Nat.reduceEqDiff, reduceCtorEq, Nat.reduceAdd, Nat.reduceLeDiff, Nat.reduceMul, Int.reduceNeg, Int.reduceLT, Int.reduceAdd, Int.reduceSub, e0, e3, e4, hcl, Int.toNat_natCast]
    refine hK9 _ ?_
    refine vc_ret ?_
    have hfin : acc.map (·.map V.t) ++ List.replicate (us.length - n) [V.t (.int .i64 0), V.t (.str ⟨#[]⟩), V.nil0] = acc.map (·.map V.t) := by rw [show us.length - n = 0 by omega]; simp
    have hlen : us.length = acc.length := by have := E.repL_len hacc; simp at this; omega
    have hrep : E.repL us acc := by rw [List.take_of_length_le (by omega)] at hacc; exact hacc
    refine ⟨_, rfl, [], [0], .nil, by simp, by simp, fun hi_ h1_ => ⟨⟨g', acc, ?_, hrep⟩, ?_, rfl⟩, by simp⟩
    · exact loc_frz acc rfl hfin (by simp) hlen
    · rw [show tupV _ = V.own 0 0 0 us.length from rfl, loc_frz acc rfl hfin (by simp) hlen]; rfl

/-- laws.toExpr -/
theorem laws_toExpr (e : E) (c : List T) (hc : e.rep c) (hw : e.wt < 2^40) : FCtr Tryz.prog 47 [.agg (c.map .t)] (fun r => ∃ c' : List T, r = .agg (c'.map .t) ∧ e.rep c') := by
  induction e using E.ind generalizing c
  rename_i k nm us ih
  obtain ⟨g, cs, rfl, hcs⟩ := E.rep_mk hc
  rw [E.wt] at hw
  have hwl := E.wtL_len us
  refine Ctr.of_vc (rs := [.cell 2 39]) (fn := Tryz.f47) mixed Tryz.func47 rfl rfl (by kernel_rfl) (by kernel_rfl) (by simp [Tryz.ntmps47]) (fun h0 => ?_)
  refine vc_seq fun K1 hK1 => ?_
  refine vc_reg ?_
  try simp (disch := omega) only [go_sem, ↓reduceIte, Nat.reduceEqDiff, reduceCtorEq, Nat.reduceAdd, Nat.reduceLeDiff, Nat.reduceMul, Int.reduceNeg, Int.reduceLT, Int.reduceAdd, Int.reduceSub]
  intro g0_0 hg0_0
  intro g0_1 hg0_1
  refine hK1 _ ?_
  refine vc_seq fun K2 hK2 => ?_
  refine vc_reg ?_
  try simp (disch := omega) only [go_sem, ↓reduceIte, Nat.reduceEqDiff, reduceCtorEq, Nat.reduceAdd, Nat.reduceLeDiff, Nat.reduceMul, Int.reduceNeg, Int.reduceLT, Int.reduceAdd, Int.reduceSub]
  intro g1_0 hg1_0
  refine hK2 _ ?_
  refine vc_seq fun K3 hK3 => ?_
  refine vc_reg ?_
  try simp (disch := omega) only [go_sem, ↓reduceIte, Nat.reduceEqDiff, reduceCtorEq, Nat.reduceAdd, Nat.reduceLeDiff, Nat.reduceMul, Int.reduceNeg, Int.reduceLT, Int.reduceAdd, Int.reduceSub]
  refine hK3 _ ?_
  refine vc_seq fun K4 hK4 => ?_
  refine vc_reg ?_
  try simp (disch := omega) only [go_sem, ↓reduceIte, Nat.reduceEqDiff, reduceCtorEq, Nat.reduceAdd, Nat.reduceLeDiff, Nat.reduceMul, Int.reduceNeg, Int.reduceLT, Int.reduceAdd, Int.reduceSub]
  refine hK4 _ ?_
  refine vc_seq fun K5 hK5 => ?_
  refine vc_reg ?_
  try simp (disch := omega) only [go_sem, ↓reduceIte, Nat.reduceEqDiff, reduceCtorEq, Nat.reduceAdd, Nat.reduceLeDiff, Nat.reduceMul, Int.reduceNeg, Int.reduceLT, Int.reduceAdd, Int.reduceSub]
  refine vcX_call _ _ (laws_toExprS g us cs hcs (by omega) (fun a ha c h1 => ih a ha c h1 (by have := E.wtL_mem ha; omega))) rfl rfl (by first | rfl | simp [V.pures, V.pure, V.pures_t]) ?_
  rintro r4_2 h4_2 hh4_2 ⟨g', cs', rfl, hcs'⟩ -
  try simp (disch := omega) only [go_sem, ↓reduceIte, Nat.reduceEqDiff, reduceCtorEq, Nat.reduceAdd, Nat.reduceLeDiff, Nat.reduceMul, Int.reduceNeg, Int.reduceLT, Int.reduceAdd, Int.reduceSub]
  refine hK5 _ ?_
  refine vc_seq fun K6 hK6 => ?_
  refine vc_reg ?_
  try simp (disch := omega) only [go_sem, ↓reduceIte, Nat.reduceEqDiff, reduceCtorEq, Nat.reduceAdd, Nat.reduceLeDiff, Nat.reduceMul, Int.reduceNeg, Int.reduceLT, Int.reduceAdd, Int.reduceSub]
  refine hK6 _ ?_
  refine vc_ret ?_
  refine ⟨_, (by first | rfl | (simp only [go_sem, resQ, List.mapM_cons, List.mapM_nil, ↓reduceIte, Nat.reduceEqDiff, Nat.reduceAdd, Nat.reduceLeDiff, reduceCtorEq]; rfl)), [], [], .nil, by simp, by simp, fun hi_ h1_ => ⟨⟨[.int .i64 k, .str nm, .sl g' cs'], rfl, E.rep_of hcs'⟩, rfl, rfl⟩, by simp⟩

/-- laws.eqExprS -/
theorem laws_eqExprS (g g2 : Nat) (us bs : List E) (cs ds : List (List T)) (ha : E.repL us cs) (hb : E.repL bs ds) (hl : us.length < 2^60) (hl2 : bs.length < 2^60) (ih : ∀ a ∈ us, ∀ b ∈ bs, ∀ (c d : List T), a.rep c → b.rep d → FCtr Tryz.prog 69 [.agg (c.map .t), .agg (d.map .t)] (fun r => r = .t (.bool (E.eqb a b)))) : FCtr Tryz.prog 94 [.t (.sl g cs), .t (.sl g2 ds)] (fun r => r = .t (.bool (E.eqbL us bs))) := by
  have hcl := E.repL_len ha
  have hdl := E.repL_len hb
  refine Ctr.of_vc (rs := [.tmp 4]) (fn := Tryz.f94) mixed Tryz.func94 rfl rfl (by kernel_rfl) (by kernel_rfl) (by simp [Tryz.ntmps94]) (fun h0 => ?_)
  refine vc_seq fun K1 hK1 => ?_
  refine vc_reg ?_
  try simp (disch := omega) only [go_sem, ↓reduceIte, Nat.reduceEqDiff, reduceCtorEq, Nat.reduceAdd, Nat.reduceLeDiff, Nat.reduceMul, Int.reduceNeg, Int.reduceLT, Int.reduceAdd, Int.reduceSub, hcl, hdl]
  refine hK1 _ ?_
  refine vc_seq fun K2 hK2 => ?_
  refine vc_seq fun K3 hK3 => ?_
  refine vc_reg ?_
  try simp (disch := omega) only [go_sem, ↓reduceIte, Nat.reduceEqDiff, reduceCtorEq, Nat.reduceAdd, Nat.reduceLeDiff, Nat.reduceMul, Int.reduceNeg, Int.reduceLT, Int.reduceAdd, Int.reduceSub, hcl, hdl]
  refine hK3 _ ?_
  refine vc_cond (t := _) rfl (fun hc1 => ?_) (fun hc1 => ?_)
  · (try simp only [go_sem] at hc1)
    refine vc_seq fun K4 hK4 => ?_
    refine vc_reg ?_
    try simp (disch := omega) only [go_sem, ↓reduceIte, Nat.reduceEqDiff, reduceCtorEq, Nat.reduceAdd, Nat.reduceLeDiff, Nat.reduceMul, Int.reduceNeg, Int.reduceLT, Int.reduceAdd, Int.reduceSub, hcl, hdl]
    refine hK4 _ ?_
    refine vc_ret ?_
    refine ⟨_, by first | rfl | (simp only [go_sem, resQ, List.mapM_cons, List.mapM_nil, ↓reduceIte, Nat.reduceEqDiff, Nat.reduceAdd, Nat.reduceLeDiff, reduceCtorEq]; rfl), [], [], .nil, by simp, by simp, fun hi_ h1_ => ⟨?_, rfl, rfl⟩, by simp⟩
    rw [E.eqbL_len (fun h => hc1 (by rw [h]))]; rfl
  · (try simp only [go_sem] at hc1)
    refine vc_skip ?_
    refine hK2 _ ?_
    refine vc_seq fun K5 hK5 => ?_
    refine vc_seq fun K6 hK6 => ?_
    refine vc_reg ?_
    try simp (disch := omega) only [go_sem, ↓reduceIte, Nat.reduceEqDiff, reduceCtorEq, Nat.reduceAdd, Nat.reduceLeDiff, Nat.reduceMul, Int.reduceNeg, Int.reduceLT, Int.reduceAdd, Int.reduceSub, hcl, hdl]
    refine hK6 _ ?_
    refine vc_block ?_
    refine vc_loop (fun m s => ∃ (n : Nat), (m = us.length - n) ∧ (s.σ = []) ∧ (s.env 0 = .t (.sl g cs)) ∧ (s.env 1 = .t (.sl g2 ds)) ∧ (s.env 5 = .t (.int .i64 n)) ∧ (n ≤ us.length) ∧ (us.length = bs.length) ∧ (E.eqbL us bs = E.eqbL (us.drop n) (bs.drop n))) (us.length - 0) ⟨0, rfl, rfl, (by first | rfl | assumption), (by first | rfl | assumption), (by first | rfl | assumption), (by first | rfl | omega | simp), (by omega), (by first | rfl | omega | simp)⟩ ?_
    rintro m ⟨e, σ, h⟩ ⟨n, hm, hσ, e0, e1, e5, hn, hll, he⟩ K7 hK7
    simp only at hσ e0 e1 e5
    subst hσ
    refine vc_seq fun K8 hK8 => ?_
    refine vc_seq fun K9 hK9 => ?_
    refine vc_reg ?_
    try simp (disch := omega) only [go_sem, ↓reduceIte, Nat.reduceEqDiff, reduceCtorEq, Nat.reduceAdd, Nat.reduceLeDiff, Nat.reduceMul, Int.reduceNeg, Int.reduceLT, Int.reduceAdd, Int.reduceSub, e0, e1, e5, hcl, hdl]
    refine hK9 _ ?_
    refine vc_cond (t := _) rfl (fun hc2 => ?_) (fun hc2 => ?_)
    · (try simp only [go_sem] at hc2)
      refine vc_skip ?_
      refine hK8 _ ?_
      refine vc_seq fun K10 hK10 => ?_
      refine vc_block ?_
      refine vc_seq fun K11 hK11 => ?_
      obtain ⟨c, hc, hrc⟩ := E.repL_get ha (n := n) (by omega)
      obtain ⟨gc, cc, rfl, hcc⟩ := E.rep_cells hrc
      obtain ⟨d, hd, hrd⟩ := E.repL_get hb (n := n) (by omega)
      obtain ⟨gd, dd, rfl, hdd⟩ := E.rep_cells hrd
      have hny : n < bs.length := by omega
      refine vc_regD [(0, false), (1, false), (2, false), (3, false), (4, false), (5, false), (6, false), (7, false), (8, false), (9, false)] (by kernel_rfl) ?_
      try simp (disch := omega) only [go_sem, ↓reduceIte, Nat.reduceEqDiff, reduceCtorEq, Nat.reduceAdd, Nat.reduceLeDiff, Nat.reduceMul, Int.reduceNeg, Int.reduceLT, Int.reduceAdd, Int.reduceSub, e0, e1, e5, hcl, hdl, hc, hd]
      refine vcX_call _ _ (ih _ (List.getElem_mem (show n < us.length by omega)) _ (List.getElem_mem (show n < bs.length by omega)) _ _ hrc hrd) rfl rfl (by first | rfl | simp [V.pures, V.pure, V.pures_t]) ?_
      rintro r6_8 h6_8 hh6_8 rfl -
      try simp (disch := omega) only [go_sem, ↓reduceIte, Nat.reduceEqDiff, reduceCtorEq, Nat.reduceAdd, Nat.reduceLeDiff, Nat.reduceMul, Int.reduceNeg, Int.reduceLT, Int.reduceAdd, Int.reduceSub, e0, e1, e5, hcl, hdl, hc, hd]
      refine hK11 _ ?_
      refine vc_cond (t := _) rfl (fun hc3 => ?_) (fun hc3 => ?_)
      · (try simp only [go_sem] at hc3)
        refine vc_seq fun K12 hK12 => ?_
        refine vc_reg ?_
        try simp (disch := omega) only [go_sem, ↓reduceIte, Nat.reduceEqDiff, reduceCtorEq, Nat.reduceAdd, Nat.reduceLeDiff, Nat.reduceMul, Int.reduceNeg, Int.reduceLT, Int.reduceAdd, Int.reduceSub, e0, e1, e5, hcl, hdl]
        refine hK12 _ ?_
        refine vc_ret ?_
        refine ⟨_, by first | rfl | (simp only [go_sem, resQ, List.mapM_cons, List.mapM_nil, ↓reduceIte, Nat.reduceEqDiff, Nat.reduceAdd, Nat.reduceLeDiff, reduceCtorEq]; rfl), [], [], .nil, by simp, by simp, fun hi_ h1_ => ⟨?_, rfl, rfl⟩, by simp⟩
        rw [he, E.eqbL_drop (n := n) (by omega) (by omega), hc3, Bool.false_and]; rfl
      · (try simp only [go_sem] at hc3)
        refine vc_skip ?_
        refine hK10 _ ?_
        refine vc_reg ?_
        try simp (disch := omega) only [go_sem, ↓reduceIte, Nat.reduceEqDiff, reduceCtorEq, Nat.reduceAdd, Nat.reduceLeDiff, Nat.reduceMul, Int.reduceNeg, Int.reduceLT, Int.reduceAdd, Int.reduceSub, e0, e1, e5, hcl, hdl]
        refine hK7 _ _ ?_ ⟨n + 1, rfl, rfl, (by first | rfl | assumption), (by first | rfl | assumption), (by first | rfl | assumption), ?_, ?_, ?_⟩
        · omega
        · first | omega | assumption | rfl | simp_all
        · first | omega | assumption | rfl | simp_all
        · rw [he, E.eqbL_drop (n := n) (by omega) (by omega), hc3, Bool.true_and]
    · (try simp only [go_sem] at hc2)
      refine vc_exit ?_
      refine hK5 _ ?_
      refine vc_seq fun K13 hK13 => ?_
      refine vc_reg ?_
      try simp (disch := omega) only [go_sem, ↓reduceIte, Nat.reduceEqDiff, reduceCtorEq, Nat.reduceAdd, Nat.reduceLeDiff, Nat.reduceMul, Int.reduceNeg, Int.reduceLT, Int.reduceAdd, Int.reduceSub, e0, e1, e5, hcl, hdl]
      refine hK13 _ ?_
      refine vc_ret ?_
      refine ⟨_, by first | rfl | (simp only [go_sem, resQ, List.mapM_cons, List.mapM_nil, ↓reduceIte, Nat.reduceEqDiff, Nat.reduceAdd, Nat.reduceLeDiff, reduceCtorEq]; rfl), [], [], .nil, by simp, by simp, fun hi_ h1_ => ⟨?_, rfl, rfl⟩, by simp⟩
      rw [he, List.drop_of_length_le (by omega), List.drop_of_length_le (by omega)]; rfl

/-- laws.eqExpr -/
theorem laws_eqExpr (a b : E) (c d : List T) (hc : a.rep c) (hd : b.rep d) (hw : a.wt < 2^60) (hw2 : b.wt < 2^60) : FCtr Tryz.prog 69 [.agg (c.map .t), .agg (d.map .t)] (fun r => r = .t (.bool (E.eqb a b))) := by
  induction a using E.ind generalizing b c d
  rename_i k nm us ih
  obtain ⟨k2, nm2, us2⟩ := b
  obtain ⟨g, cs, rfl, hcs⟩ := E.rep_mk hc
  obtain ⟨g2, ds, rfl, hds⟩ := E.rep_mk hd
  rw [E.wt] at hw hw2
  have hwl := E.wtL_len us
  have hwl2 := E.wtL_len us2
  rw [E.eqb]
  refine Ctr.of_vc (rs := [.tmp 4]) (fn := Tryz.f69) mixed Tryz.func69 rfl rfl (by kernel_rfl) (by kernel_rfl) (by simp [Tryz.ntmps69]) (fun h0 => ?_)
  refine vc_seq fun K1 hK1 => ?_
  refine vc_reg ?_
  try simp (disch := omega) only [go_sem, ↓reduceIte, Nat.reduceEqDiff, reduceCtorEq, Nat.reduceAdd, Nat.reduceLeDiff, Nat.reduceMul, Int.reduceNeg, Int.reduceLT, Int.reduceAdd, Int.reduceSub]
  intro g0_0 hg0_0
  intro g0_1 hg0_1
  refine hK1 _ ?_
  refine vc_seq fun K2 hK2 => ?_
  refine vc_seq fun K3 hK3 => ?_
  refine vc_reg ?_
  try simp (disch := omega) only [go_sem, ↓reduceIte, Nat.reduceEqDiff, reduceCtorEq, Nat.reduceAdd, Nat.reduceLeDiff, Nat.reduceMul, Int.reduceNeg, Int.reduceLT, Int.reduceAdd, Int.reduceSub]
  refine hK3 _ ?_
  refine vc_cond (t := _) rfl (fun hc1 => ?_) (fun hc1 => ?_)
  · (try simp only [go_sem] at hc1)
    refine vc_seq fun K4 hK4 => ?_
    refine vc_reg ?_
    try simp (disch := omega) only [go_sem, ↓reduceIte, Nat.reduceEqDiff, reduceCtorEq, Nat.reduceAdd, Nat.reduceLeDiff, Nat.reduceMul, Int.reduceNeg, Int.reduceLT, Int.reduceAdd, Int.reduceSub]
    refine hK4 _ ?_
    refine vc_ret ?_
    refine ⟨_, by first | rfl | (simp only [go_sem, resQ, List.mapM_cons, List.mapM_nil, ↓reduceIte, Nat.reduceEqDiff, Nat.reduceAdd, Nat.reduceLeDiff, reduceCtorEq]; rfl), [], [], .nil, by simp, by simp, fun hi_ h1_ => ⟨?_, rfl, rfl⟩, by simp⟩
    rw [decide_eq_false hc1]; rfl
  · (try simp only [go_sem] at hc1)
    refine vc_skip ?_
    refine hK2 _ ?_
    refine vc_seq fun K5 hK5 => ?_
    refine vc_seq fun K6 hK6 => ?_
    refine vc_reg ?_
    try simp (disch := omega) only [go_sem, ↓reduceIte, Nat.reduceEqDiff, reduceCtorEq, Nat.reduceAdd, Nat.reduceLeDiff, Nat.reduceMul, Int.reduceNeg, Int.reduceLT, Int.reduceAdd, Int.reduceSub]
    refine hK6 _ ?_
    refine vc_cond (t := _) rfl (fun hc2 => ?_) (fun hc2 => ?_)
    · (try simp only [go_sem] at hc2)
      refine vc_seq fun K7 hK7 => ?_
      refine vc_reg ?_
      try simp (disch := omega) only [go_sem, ↓reduceIte, Nat.reduceEqDiff, reduceCtorEq, Nat.reduceAdd, Nat.reduceLeDiff, Nat.reduceMul, Int.reduceNeg, Int.reduceLT, Int.reduceAdd, Int.reduceSub]
      refine hK7 _ ?_
      refine vc_ret ?_
      refine ⟨_, by first | rfl | (simp only [go_sem, resQ, List.mapM_cons, List.mapM_nil, ↓reduceIte, Nat.reduceEqDiff, Nat.reduceAdd, Nat.reduceLeDiff, reduceCtorEq]; rfl), [], [], .nil, by simp, by simp, fun hi_ h1_ => ⟨?_, rfl, rfl⟩, by simp⟩
      rw [decide_eq_false hc2, Bool.and_false]; rfl
    · (try simp only [go_sem] at hc2)
      refine vc_skip ?_
      refine hK5 _ ?_
      refine vc_seq fun K8 hK8 => ?_
      refine vc_seq fun K9 hK9 => ?_
      refine vc_reg ?_
      try simp (disch := omega) only [go_sem, ↓reduceIte, Nat.reduceEqDiff, reduceCtorEq, Nat.reduceAdd, Nat.reduceLeDiff, Nat.reduceMul, Int.reduceNeg, Int.reduceLT, Int.reduceAdd, Int.reduceSub]
      refine vcX_call _ _ (laws_eqExprS g g2 us us2 cs ds hcs hds (by omega) (by omega) (fun a ha b hb c d h1 h2 => ih a ha b c d h1 h2 (by have := E.wtL_mem ha; omega) (by have := E.wtL_mem hb; omega))) rfl rfl (by first | rfl | simp [V.pures, V.pure, V.pures_t]) ?_
      rintro r5_4 h5_4 hh5_4 rfl -
      try simp (disch := omega) only [go_sem, ↓reduceIte, Nat.reduceEqDiff, reduceCtorEq, Nat.reduceAdd, Nat.reduceLeDiff, Nat.reduceMul, Int.reduceNeg, Int.reduceLT, Int.reduceAdd, Int.reduceSub]
      refine hK9 _ ?_
      refine vc_cond (t := _) rfl (fun hc3 => ?_) (fun hc3 => ?_)
      · (try simp only [go_sem] at hc3)
        refine vc_seq fun K10 hK10 => ?_
        refine vc_reg ?_
        try simp (disch := omega) only [go_sem, ↓reduceIte, Nat.reduceEqDiff, reduceCtorEq, Nat.reduceAdd, Nat.reduceLeDiff, Nat.reduceMul, Int.reduceNeg, Int.reduceLT, Int.reduceAdd, Int.reduceSub]
        refine hK10 _ ?_
        refine vc_ret ?_
        refine ⟨_, by first | rfl | (simp only [go_sem, resQ, List.mapM_cons, List.mapM_nil, ↓reduceIte, Nat.reduceEqDiff, Nat.reduceAdd, Nat.reduceLeDiff, reduceCtorEq]; rfl), [], [], .nil, by simp, by simp, fun hi_ h1_ => ⟨?_, rfl, rfl⟩, by simp⟩
        rw [hc3, Bool.and_false]; rfl
      · (try simp only [go_sem] at hc3)
        refine vc_skip ?_
        refine hK8 _ ?_
        refine vc_seq fun K11 hK11 => ?_
        refine vc_reg ?_
        try simp (disch := omega) only [go_sem, ↓reduceIte, Nat.reduceEqDiff, reduceCtorEq, Nat.reduceAdd, Nat.reduceLeDiff, Nat.reduceMul, Int.reduceNeg, Int.reduceLT, Int.reduceAdd, Int.reduceSub]
        refine hK11 _ ?_
        refine vc_ret ?_
        refine ⟨_, by first | rfl | (simp only [go_sem, resQ, List.mapM_cons, List.mapM_nil, ↓reduceIte, Nat.reduceEqDiff, Nat.reduceAdd, Nat.reduceLeDiff, reduceCtorEq]; rfl), [], [], .nil, by simp, by simp, fun hi_ h1_ => ⟨?_, rfl, rfl⟩, by simp⟩
        rw [hc3, decide_eq_true hc1, decide_eq_true hc2]; rfl
end Go.Proofs.YtldhhppfnhgcdaaGreat
