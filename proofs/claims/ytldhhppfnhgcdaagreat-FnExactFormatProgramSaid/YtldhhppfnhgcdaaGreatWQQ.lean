/- Walks through the code: each function's contract. -/
import Derived.Test.YtldhhppfnhgcdaaGreatWPQ
set_option linter.unusedVariables false
set_option linter.unusedSimpArgs false
set_option maxRecDepth 8000
namespace Go.Proofs.YtldhhppfnhgcdaaGreat
open Go Go.VL

/-- Are they all different? -/
def dst (xs : List ByteArray) : Bool := decide ((un [] xs).length = xs.length)
theorem dst_step {xs : List ByteArray} {n : Nat} (h : n < xs.length) (hd : un [] (xs.take n) = xs.take n) (hi : ix xs[n] 0 (xs.take n) < 0) : un [] (xs.take (n + 1)) = xs.take (n + 1) := by
  rw [List.take_add_one, List.getElem?_eq_getElem h, un_app, hd]
  simp only [Option.toList_some, un]
  rw [if_neg (by omega)]
theorem dst_no {xs : List ByteArray} {n : Nat} (h : n < xs.length) (hd : un [] (xs.take n) = xs.take n) (hi : 0 ≤ ix xs[n] 0 (xs.take n)) : dst xs = false := by
  have h1 : un [] (xs.take (n + 1)) = xs.take n := by
    rw [List.take_add_one, List.getElem?_eq_getElem h, un_app, hd]
    simp only [Option.toList_some, un]
    rw [if_pos hi]
  have h2 : un [] xs = un (xs.take n) (xs.drop (n + 1)) := by
    have := un_app (xs.take (n + 1)) [] (xs.drop (n + 1))
    rw [List.take_append_drop, h1] at this
    exact this
  have h3 := un_len (xs.drop (n + 1)) (xs.take n)
  rw [dst, decide_eq_false]
  rw [h2]
  simp at h3
  omega
theorem dst_yes {xs : List ByteArray} (hd : un [] xs = xs) : dst xs = true := by rw [dst, hd, decide_eq_true rfl]

/-- spec.AllDistinct -/
theorem spec_AllDistinct (g : Nat) (xs : List ByteArray) (hx : xs.length < 2^62) : FCtr Tryz.prog 73 [.t (.sl g (xs.map (fun x => [T.str x])))] (fun r => r = .t (.bool (dst xs))) := by
  refine Ctr.of_vc (rs := [.tmp 2]) (fn := Tryz.f73) mixed Tryz.func73 rfl rfl (by kernel_rfl) (by kernel_rfl) (by simp [Tryz.ntmps73]) (fun h0 => ?_)
  refine vc_seq fun K1 hK1 => ?_
  refine vc_reg ?_
  try simp (disch := omega) only [go_sem, ↓reduceIte, Nat.reduceEqDiff, reduceCtorEq, Nat.reduceAdd, Nat.reduceLeDiff, Nat.reduceMul, Int.reduceNeg, Int.reduceLT, Int.reduceAdd, Int.reduceSub]
  refine hK1 _ ?_
  refine vc_seq fun K2 hK2 => ?_
  refine vc_seq fun K3 hK3 => ?_
  refine vc_reg ?_
  try simp (disch := omega) only [go_sem, ↓reduceIte, Nat.reduceEqDiff, reduceCtorEq, Nat.reduceAdd, Nat.reduceLeDiff, Nat.reduceMul, Int.reduceNeg, Int.reduceLT, Int.reduceAdd, Int.reduceSub]
  refine hK3 _ ?_
  refine vc_block ?_
  refine vc_loop (fun m s => ∃ (n : Nat), (m = xs.length - n) ∧ (s.σ = []) ∧ (s.env 0 = .t (.sl g (xs.map (fun x => [T.str x])))) ∧ (s.env 3 = .t (.int .i64 n)) ∧ (n ≤ xs.length) ∧ (un [] (xs.take n) = xs.take n)) (xs.length - 0) ⟨0, rfl, rfl, (by first | rfl | assumption), (by first | rfl | assumption), (by first | rfl | omega | simp), (by rfl)⟩ ?_
  rintro m ⟨e, σ, h⟩ ⟨n, hm, hσ, e0, e3, hn, hd⟩ K4 hK4
  simp only at hσ e0 e3
  subst hσ
  refine vc_seq fun K5 hK5 => ?_
  refine vc_seq fun K6 hK6 => ?_
  refine vc_reg ?_
  try simp (disch := omega) only [go_sem, ↓reduceIte, Nat.reduceEqDiff, reduceCtorEq, Nat.reduceAdd, Nat.reduceLeDiff, Nat.reduceMul, Int.reduceNeg, Int.reduceLT, Int.reduceAdd, Int.reduceSub, e0, e3]
  refine hK6 _ ?_
  refine vc_cond (t := _) rfl (fun hc1 => ?_) (fun hc1 => ?_)
  · (try simp only [go_sem] at hc1)
    refine vc_skip ?_
    refine hK5 _ ?_
    refine vc_seq fun K7 hK7 => ?_
    refine vc_block ?_
    refine vc_seq fun K8 hK8 => ?_
    have hlt : n < xs.length := by omega
    refine vc_regD [(0, false), (1, false), (2, false), (3, false), (4, false), (5, false), (6, false), (7, false), (8, false)] (by kernel_rfl) ?_
    try simp (disch := omega) only [go_sem, ↓reduceIte, Nat.reduceEqDiff, reduceCtorEq, Nat.reduceAdd, Nat.reduceLeDiff, Nat.reduceMul, Int.reduceNeg, Int.reduceLT, Int.reduceAdd, Int.reduceSub, e0, e3]
    refine vcX_call _ _ (spec_IndexOf g (xs.take n) xs[n] (by rw [List.length_take]; omega)) rfl rfl (by first | rfl | simp [V.pures, V.pure, V.pures_t]) ?_
    rintro r4_7 h4_7 hh4_7 rfl -
    try simp (disch := omega) only [go_sem, ↓reduceIte, Nat.reduceEqDiff, reduceCtorEq, Nat.reduceAdd, Nat.reduceLeDiff, Nat.reduceMul, Int.reduceNeg, Int.reduceLT, Int.reduceAdd, Int.reduceSub, e0, e3]
    refine hK8 _ ?_
    refine vc_cond (t := _) rfl (fun hc2 => ?_) (fun hc2 => ?_)
    · (try simp only [go_sem] at hc2)
      refine vc_seq fun K9 hK9 => ?_
      refine vc_reg ?_
      try simp (disch := omega) only [go_sem, ↓reduceIte, Nat.reduceEqDiff, reduceCtorEq, Nat.reduceAdd, Nat.reduceLeDiff, Nat.reduceMul, Int.reduceNeg, Int.reduceLT, Int.reduceAdd, Int.reduceSub, e0, e3]
      refine hK9 _ ?_
      refine vc_ret ?_
      refine ⟨_, by first | rfl | (simp only [go_sem, resQ, List.mapM_cons, List.mapM_nil, ↓reduceIte, Nat.reduceEqDiff, Nat.reduceAdd, Nat.reduceLeDiff, reduceCtorEq]; rfl), [], [], .nil, by simp, by simp, fun hi_ h1_ => ⟨?_, rfl, rfl⟩, by simp⟩
      rw [dst_no hlt hd (by omega)]; rfl
    · (try simp only [go_sem] at hc2)
      refine vc_skip ?_
      refine hK7 _ ?_
      refine vc_reg ?_
      try simp (disch := omega) only [go_sem, ↓reduceIte, Nat.reduceEqDiff, reduceCtorEq, Nat.reduceAdd, Nat.reduceLeDiff, Nat.reduceMul, Int.reduceNeg, Int.reduceLT, Int.reduceAdd, Int.reduceSub, e0, e3]
      refine hK4 _ _ ?_ ⟨n + 1, rfl, rfl, (by first | rfl | assumption), (by first | rfl | assumption), ?_, ?_⟩
      · omega
      · first | omega | assumption | rfl | simp_all
      · exact dst_step hlt hd (by omega)
  · (try simp only [go_sem] at hc1)
    refine vc_exit ?_
    refine hK2 _ ?_
    refine vc_seq fun K10 hK10 => ?_
    refine vc_reg ?_
    try simp (disch := omega) only [go_sem, ↓reduceIte, Nat.reduceEqDiff, reduceCtorEq, Nat.reduceAdd, Nat.reduceLeDiff, Nat.reduceMul, Int.reduceNeg, Int.reduceLT, Int.reduceAdd, Int.reduceSub, e0, e3]
    refine hK10 _ ?_
    refine vc_ret ?_
    refine ⟨_, by first | rfl | (simp only [go_sem, resQ, List.mapM_cons, List.mapM_nil, ↓reduceIte, Nat.reduceEqDiff, Nat.reduceAdd, Nat.reduceLeDiff, reduceCtorEq]; rfl), [], [], .nil, by simp, by simp, fun hi_ h1_ => ⟨?_, rfl, rfl⟩, by simp⟩
    rw [List.take_of_length_le (by omega)] at hd
    rw [dst_yes hd]; rfl

/-- impl.AllDistinct -/
theorem impl_AllDistinct (g : Nat) (xs : List ByteArray) (hx : xs.length ≤ 1048576) : FCtr Tryz.prog 50 [.t (.sl g (Ts xs))] (fun r => r = .t (.bool (dst xs))) := by
  refine Ctr.of_vc (rs := [.tmp 2]) (fn := Tryz.f50) mixed Tryz.func50 rfl rfl (by kernel_rfl) (by kernel_rfl) (by simp [Tryz.ntmps50]) (fun h0 => ?_)
  refine vc_seq fun K1 hK1 => ?_
  refine vc_reg ?_
  try simp (disch := omega) only [go_sem, ↓reduceIte, Nat.reduceEqDiff, reduceCtorEq, Nat.reduceAdd, Nat.reduceLeDiff, Nat.reduceMul, Int.reduceNeg, Int.reduceLT, Int.reduceAdd, Int.reduceSub]
  refine hK1 _ ?_
  refine vc_seq fun K2 hK2 => ?_
  refine vc_reg ?_
  try simp (disch := omega) only [go_sem, ↓reduceIte, Nat.reduceEqDiff, reduceCtorEq, Nat.reduceAdd, Nat.reduceLeDiff, Nat.reduceMul, Int.reduceNeg, Int.reduceLT, Int.reduceAdd, Int.reduceSub]
  refine x_callN (caps := []) [] [.t (.sl g (Ts xs)), .t (.sl 0 (Ts []))] _ ((impl_UniteNames g 0 xs [] hx (by simp)).fresh (by rintro s ts ⟨_, g', rfl⟩; exact .inl rfl)) (by first | rfl | simp (disch := omega) only [go_sem, ↓reduceIte, Nat.reduceEqDiff, reduceCtorEq, Nat.reduceAdd, Nat.reduceLeDiff, Nat.reduceMul, Int.reduceNeg, Int.reduceLT, Int.reduceAdd, Int.reduceSub]) ?_ ?_
  · show Subs [V.t (.sl g (Ts xs)), V.nil0] _
    exact Subs.cons (.refl _) (Subs.cons (.nil 0) (Subs.nil))
  rintro r1_1 h1_1 hh1_1 ⟨s, ts, rfl, rfl, g11, rfl⟩ -
  rw [List.append_nil]
  try simp (disch := omega) only [go_sem, ↓reduceIte, Nat.reduceEqDiff, reduceCtorEq, Nat.reduceAdd, Nat.reduceLeDiff, Nat.reduceMul, Int.reduceNeg, Int.reduceLT, Int.reduceAdd, Int.reduceSub, Shp.v, List.headD_cons, Ts_len]
  refine hK2 _ ?_
  refine vc_ret ?_
  refine ⟨_, by first | rfl | (simp only [go_sem, resQ, List.mapM_cons, List.mapM_nil, ↓reduceIte, Nat.reduceEqDiff, Nat.reduceAdd, Nat.reduceLeDiff, reduceCtorEq]; rfl), [], [], .nil, by simp, by simp, fun hi_ h1_ => ⟨?_, rfl, rfl⟩, by simp⟩
  show V.t (.bool _) = V.t (.bool _)
  rw [dst]
  congr 2
  rw [Bool.eq_iff_iff]
  simp only [beq_iff_eq, decide_eq_true_eq]
  omega
end Go.Proofs.YtldhhppfnhgcdaaGreat
