/- Walks through the code: each function's contract. -/
import Derived.Test.YtldhhppfnhgcdaaGreatWBQ
set_option linter.unusedVariables false
set_option linter.unusedSimpArgs false
set_option maxRecDepth 8000
namespace Go.Proofs.YtldhhppfnhgcdaaGreat
open Go Go.VL

end Go.Proofs.YtldhhppfnhgcdaaGreat
namespace Go.VL
mutual
/-- How many terms a term holds, itself among them. -/
def E.sz : E → Nat
  | .mk _ _ us => 1 + E.szL us
def E.szL : List E → Nat
  | [] => 0
  | e :: l => E.sz e + E.szL l
end
theorem E.szL_drop {l : List E} {n : Nat} (h : n < l.length) : E.szL (l.drop n) = E.sz l[n] + E.szL (l.drop (n + 1)) := by rw [drop_get h, E.szL]
theorem E.sz_wt : ∀ e : E, e.sz ≤ e.wt + 1 := by
  intro e
  induction e using E.ind with
  | h k n us ih =>
    rw [E.sz, E.wt]
    have : ∀ l : List E, (∀ a ∈ l, a.sz ≤ a.wt + 1) → E.szL l ≤ E.wtL l := by
      intro l
      induction l with
      | nil => exact fun _ => Nat.le_refl _
      | cons a l ihl =>
        intro h
        rw [E.szL, E.wtL]
        have h1 := h a List.mem_cons_self
        have h2 := ihl fun b hb => h b (List.mem_cons_of_mem _ hb)
        omega
    have := this us ih
    omega
theorem E.szL_wtL (l : List E) : E.szL l ≤ E.wtL l := by
  have h := E.sz_wt (.mk 0 ⟨#[]⟩ l)
  rw [E.sz, E.wt] at h
  have : (⟨#[]⟩ : ByteArray).size = 0 := rfl
  omega
end Go.VL
namespace Go.Proofs.YtldhhppfnhgcdaaGreat
open Go Go.VL

end Go.Proofs.YtldhhppfnhgcdaaGreat
namespace Go.VL
mutual
/-- How deep a term is. -/
def E.dp : E → Nat
  | .mk _ _ us => 1 + E.dpL us
def E.dpL : List E → Nat
  | [] => 0
  | e :: l => max (E.dp e) (E.dpL l)
end
theorem E.dpL_drop {l : List E} {n : Nat} (h : n < l.length) : E.dpL (l.drop n) = max (E.dp l[n]) (E.dpL (l.drop (n + 1))) := by rw [drop_get h, E.dpL]
theorem E.dp_sz : ∀ e : E, e.dp ≤ e.sz := by
  intro e
  induction e using E.ind with
  | h k n us ih =>
    rw [E.sz, E.dp]
    have : ∀ l : List E, (∀ a ∈ l, a.dp ≤ a.sz) → E.dpL l ≤ E.szL l := by
      intro l
      induction l with
      | nil => exact fun _ => Nat.le_refl _
      | cons a l ihl =>
        intro h
        rw [E.szL, E.dpL]
        have h1 := h a List.mem_cons_self
        have h2 := ihl fun b hb => h b (List.mem_cons_of_mem _ hb)
        omega
    have := this us ih
    omega
theorem E.dpL_wtL (l : List E) : E.dpL l ≤ E.wtL l := by
  have h := E.dp_sz (.mk 0 ⟨#[]⟩ l)
  have h2 := E.szL_wtL l
  rw [E.sz, E.dp] at h
  omega
end Go.VL
namespace Go.Proofs.YtldhhppfnhgcdaaGreat
open Go Go.VL

/-- spec.l1Max -/
theorem spec_l1Max (a b : Int) : FCtr Tryz.prog 98 [.t (.int .i64 a), .t (.int .i64 b)] (fun r => r = .t (.int .i64 (max a b))) := by
  refine Ctr.of_vc (rs := [.tmp 4]) (fn := Tryz.f98) mixed Tryz.func98 rfl rfl (by kernel_rfl) (by kernel_rfl) (by simp [Tryz.ntmps98]) (fun h0 => ?_)
  refine vc_seq fun K1 hK1 => ?_
  refine vc_reg ?_
  try simp (disch := omega) only [go_sem, ↓reduceIte, Nat.reduceEqDiff, reduceCtorEq, Nat.reduceAdd, Nat.reduceLeDiff, Nat.reduceMul, Int.reduceNeg, Int.reduceLT, Int.reduceAdd, Int.reduceSub]
  refine hK1 _ ?_
  refine vc_seq fun K2 hK2 => ?_
  refine vc_seq fun K3 hK3 => ?_
  refine vc_reg ?_
  try simp (disch := omega) only [go_sem, ↓reduceIte, Nat.reduceEqDiff, reduceCtorEq, Nat.reduceAdd, Nat.reduceLeDiff, Nat.reduceMul, Int.reduceNeg, Int.reduceLT, Int.reduceAdd, Int.reduceSub]
  refine hK3 _ ?_
  refine vc_cond (t := _) rfl (fun hc1 => ?_) (fun hc1 => ?_)
  · (try simp only [go_sem] at hc1)
    refine vc_seq fun K4 hK4 => ?_
    refine vc_reg ?_
    try simp (disch := omega) only [go_sem, ↓reduceIte, Nat.reduceEqDiff, reduceCtorEq, Nat.reduceAdd, Nat.reduceLeDiff, Nat.reduceMul, Int.reduceNeg, Int.reduceLT, Int.reduceAdd, Int.reduceSub]
    refine hK4 _ ?_
    refine vc_ret ?_
    refine ⟨_, by first | rfl | (simp only [go_sem, resQ, List.mapM_cons, List.mapM_nil, ↓reduceIte, Nat.reduceEqDiff, Nat.reduceAdd, Nat.reduceLeDiff, reduceCtorEq]; rfl), [], [], .nil, by simp, by simp, fun hi_ h1_ => ⟨?_, rfl, rfl⟩, by simp⟩
    rw [Int.max_eq_left (by omega)]; rfl
  · (try simp only [go_sem] at hc1)
    refine vc_skip ?_
    refine hK2 _ ?_
    refine vc_seq fun K5 hK5 => ?_
    refine vc_reg ?_
    try simp (disch := omega) only [go_sem, ↓reduceIte, Nat.reduceEqDiff, reduceCtorEq, Nat.reduceAdd, Nat.reduceLeDiff, Nat.reduceMul, Int.reduceNeg, Int.reduceLT, Int.reduceAdd, Int.reduceSub]
    refine hK5 _ ?_
    refine vc_ret ?_
    refine ⟨_, by first | rfl | (simp only [go_sem, resQ, List.mapM_cons, List.mapM_nil, ↓reduceIte, Nat.reduceEqDiff, Nat.reduceAdd, Nat.reduceLeDiff, reduceCtorEq]; rfl), [], [], .nil, by simp, by simp, fun hi_ h1_ => ⟨?_, rfl, rfl⟩, by simp⟩
    rw [Int.max_eq_right (by omega)]; rfl

/-- spec.DepthOf -/
theorem spec_DepthOf (e : E) (c : List T) (hc : e.rep c) (hw : e.wt ≤ 1048576) : FCtr Tryz.prog 80 [.agg (c.map .t)] (fun r => r = .t (.int .i64 e.dp)) := by
  induction e using E.ind generalizing c
  rename_i k nm us ih
  obtain ⟨g, cs, rfl, ha⟩ := E.rep_mk hc
  have hcl := E.repL_len ha
  rw [E.wt] at hw
  have hwl := E.wtL_len us
  rw [E.dp]
  have hsl := E.dpL_wtL us
  refine Ctr.of_vc (rs := [.tmp 2]) (fn := Tryz.f80) mixed Tryz.func80 rfl rfl (by kernel_rfl) (by kernel_rfl) (by simp [Tryz.ntmps80]) (fun h0 => ?_)
  refine vc_seq fun K1 hK1 => ?_
  refine vc_reg ?_
  try simp (disch := omega) only [go_sem, ↓reduceIte, Nat.reduceEqDiff, reduceCtorEq, Nat.reduceAdd, Nat.reduceLeDiff, Nat.reduceMul, Int.reduceNeg, Int.reduceLT, Int.reduceAdd, Int.reduceSub, hcl]
  intro g0_0 hg0_0
  refine hK1 _ ?_
  refine vc_seq fun K2 hK2 => ?_
  refine vc_reg ?_
  try simp (disch := omega) only [go_sem, ↓reduceIte, Nat.reduceEqDiff, reduceCtorEq, Nat.reduceAdd, Nat.reduceLeDiff, Nat.reduceMul, Int.reduceNeg, Int.reduceLT, Int.reduceAdd, Int.reduceSub, hcl]
  refine hK2 _ ?_
  refine vc_seq fun K3 hK3 => ?_
  refine vc_seq fun K4 hK4 => ?_
  refine vc_reg ?_
  try simp (disch := omega) only [go_sem, ↓reduceIte, Nat.reduceEqDiff, reduceCtorEq, Nat.reduceAdd, Nat.reduceLeDiff, Nat.reduceMul, Int.reduceNeg, Int.reduceLT, Int.reduceAdd, Int.reduceSub, hcl]
  refine hK4 _ ?_
  refine vc_block ?_
  refine vc_loop (fun m s => ∃ (n q : Nat), (m = us.length - n) ∧ (s.σ = [.row g0_0 0 3 3 [[V.t (.int .i64 k), V.t (.str nm), V.t (.sl g cs)]]]) ∧ (s.env 1 = .ptr 0 0 0 0) ∧ (s.env 3 = .t (.int .i64 q)) ∧ (s.env 4 = .t (.int .i64 n)) ∧ (n ≤ us.length) ∧ (max q (E.dpL (us.drop n)) = E.dpL us)) (us.length - 0) ⟨0, 0, rfl, (by first | rfl | simp), (by first | rfl | assumption), (by first | rfl | assumption), (by first | rfl | assumption), (by first | rfl | omega | simp), (by simp)⟩ ?_
  rintro m ⟨e, σ, h⟩ ⟨n, q, hm, hσ, e1, e3, e4, hn, hq⟩ K5 hK5
  simp only at hσ e1 e3 e4
  subst hσ
  refine vc_seq fun K6 hK6 => ?_
  refine vc_seq fun K7 hK7 => ?_
  refine vc_reg ?_
  try simp (disch := omega) only [go_sem, ↓reduceIte, Nat.reduceEqDiff, reduceCtorEq, Nat.reduceAdd, Nat.reduceLeDiff, Nat.reduceMul, Int.reduceNeg, Int.reduceLT, Int.reduceAdd, Int.reduceSub, e1, e3, e4, hcl]
  refine hK7 _ ?_
  refine vc_cond (t := _) rfl (fun hc1 => ?_) (fun hc1 => ?_)
  · (try simp only [go_sem] at hc1)
    refine vc_skip ?_
    refine hK6 _ ?_
    refine vc_seq fun K8 hK8 => ?_
    refine vc_block ?_
    obtain ⟨c, hc, hrc⟩ := E.repL_get ha (n := n) (by omega)
    obtain ⟨gc, cc, rfl, hcc⟩ := E.rep_cells hrc
    have hd := E.dpL_drop (l := us) (n := n) (by omega)
    refine vc_reg ?_
    try simp (disch := omega) only [go_sem, ↓reduceIte, Nat.reduceEqDiff, reduceCtorEq, Nat.reduceAdd, Nat.reduceLeDiff, Nat.reduceMul, Int.reduceNeg, Int.reduceLT, Int.reduceAdd, Int.reduceSub, e1, e3, e4, hcl, hc]
    refine vcX_call _ _ (ih _ (List.getElem_mem (show n < us.length by omega)) _ hrc (by have := E.wtL_mem (List.getElem_mem (show n < us.length by omega)); omega)) rfl rfl (by first | rfl | simp [V.pures, V.pure, V.pures_t]) ?_
    rintro r5_6 h5_6 hh5_6 rfl -
    try simp (disch := omega) only [go_sem, ↓reduceIte, Nat.reduceEqDiff, reduceCtorEq, Nat.reduceAdd, Nat.reduceLeDiff, Nat.reduceMul, Int.reduceNeg, Int.reduceLT, Int.reduceAdd, Int.reduceSub, e1, e3, e4, hcl, hc]
    refine vcX_call _ _ (spec_l1Max q us[n].dp) rfl rfl (by first | rfl | simp [V.pures, V.pure, V.pures_t]) ?_
    rintro r5_7 h5_7 hh5_7 rfl -
    try simp (disch := omega) only [go_sem, ↓reduceIte, Nat.reduceEqDiff, reduceCtorEq, Nat.reduceAdd, Nat.reduceLeDiff, Nat.reduceMul, Int.reduceNeg, Int.reduceLT, Int.reduceAdd, Int.reduceSub, e1, e3, e4, hcl, max_cast]
    refine hK8 _ ?_
    refine vc_reg ?_
    try simp (disch := omega) only [go_sem, ↓reduceIte, Nat.reduceEqDiff, reduceCtorEq, Nat.reduceAdd, Nat.reduceLeDiff, Nat.reduceMul, Int.reduceNeg, Int.reduceLT, Int.reduceAdd, Int.reduceSub, e1, e3, e4, hcl]
    refine hK5 _ _ ?_ ⟨n + 1, max q us[n].dp, rfl, (by first | rfl | simp), (by first | rfl | assumption), (by first | rfl | assumption), (by first | rfl | assumption), ?_, ?_⟩
    · omega
    · first | omega | assumption | rfl | simp_all
    · omega
  · (try simp only [go_sem] at hc1)
    refine vc_exit ?_
    refine hK3 _ ?_
    refine vc_seq fun K9 hK9 => ?_
    rw [List.drop_of_length_le (by omega), E.dpL, Nat.max_zero] at hq
    refine vc_reg ?_
    try simp (disch := omega) only [go_sem, ↓reduceIte, Nat.reduceEqDiff, reduceCtorEq, Nat.reduceAdd, Nat.reduceLeDiff, Nat.reduceMul, Int.reduceNeg, Int.reduceLT, Int.reduceAdd, Int.reduceSub, e1, e3, e4, hcl]
    refine hK9 _ ?_
    refine vc_ret ?_
    refine ⟨_, by first | rfl | (simp only [go_sem, resQ, List.mapM_cons, List.mapM_nil, ↓reduceIte, Nat.reduceEqDiff, Nat.reduceAdd, Nat.reduceLeDiff, reduceCtorEq]; rfl), [], [], .nil, by simp, by simp, fun hi_ h1_ => ⟨?_, rfl, rfl⟩, by simp⟩
    rw [← hq, Nat.add_comm]; rfl
end Go.Proofs.YtldhhppfnhgcdaaGreat
