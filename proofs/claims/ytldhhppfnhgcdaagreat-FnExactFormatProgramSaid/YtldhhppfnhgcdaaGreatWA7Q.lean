/- Walks through the code: each function's contract. -/
import Derived.Test.YtldhhppfnhgcdaaGreatWBQ
import Derived.Test.YtldhhppfnhgcdaaGreatShelf
import Derived.Test.YtldhhppfnhgcdaaGreatV32
set_option linter.unusedVariables false
set_option linter.unusedSimpArgs false
set_option maxRecDepth 8000
namespace Go.Proofs.YtldhhppfnhgcdaaGreat
open Go Go.VL

end Go.Proofs.YtldhhppfnhgcdaaGreat
namespace Go.VL
theorem strOf_bys (b : ByteArray) : strOfNums (b.data.toList.map fun c => (c.toNat : Int)) = b := by
  apply bext
  rw [strOfNums_data, List.map_map]
  have h : ((fun n : Int => UInt8.ofNat n.toNat) ∘ fun c : UInt8 => (c.toNat : Int)) = id := funext fun c => by simp
  rw [h, List.map_id]
theorem nums_bys (b : ByteArray) : numsOf (bys b) = some (b.data.toList.map fun c => (c.toNat : Int)) := by
  rw [show bys b = (b.data.toList.map fun c => (c.toNat : Int)).map fun n => [.t (.int .u8 n)] by rw [bys, List.map_map]; rfl]
  exact numsOf_map _
theorem jn_size_take (xs : List ByteArray) (sep : ByteArray) : ∀ n, n ≤ xs.length → (jn (xs.take n) sep).size ≤ n * sep.size + sumB (xs.take n)
  | 0, _ => by rw [List.take_zero, jn_nil]; exact Nat.zero_le _
  | n + 1, h => by
    have ih := jn_size_take xs sep n (by omega)
    have h1 : sumB (xs.take (n + 1)) = sumB (xs.take n) + xs[n].size := by
      rw [List.take_add_one, List.getElem?_eq_getElem (by omega)]
      generalize xs.take n = l
      induction l with
      | nil => simp [sumB]
      | cons a l ih => rw [List.cons_append, sumB, sumB, ih]; omega
    rw [jn_take (by omega), ByteArray.size_append, h1, Nat.succ_mul]
    split
    · rw [ByteArray.size_append]; omega
    · omega
theorem sumB_take : ∀ (xs : List ByteArray) (n : Nat), sumB (xs.take n) ≤ sumB xs
  | [], n => by rw [List.take_nil]; exact Nat.le_refl _
  | x :: xs, 0 => by rw [List.take_zero, sumB]; exact Nat.zero_le _
  | x :: xs, n + 1 => by have := sumB_take xs n; rw [List.take_succ_cons, sumB, sumB]; omega
theorem sumB_mem {xs : List ByteArray} {x : ByteArray} : x ∈ xs → x.size ≤ sumB xs := by
  induction xs with
  | nil => exact fun h => by cases h
  | cons a l ih =>
    intro h
    rw [sumB]
    rcases List.mem_cons.1 h with rfl | h
    · omega
    · have := ih h; omega
theorem jn_bound {xs : List ByteArray} {sep : ByteArray} (h1 : xs.length + sumB xs ≤ 4194304) (h2 : sep.size ≤ 1048576) (n : Nat) (h : n ≤ xs.length) : (jn (xs.take n) sep).size ≤ 4398050705408 := by
  have h3 := jn_size_take xs sep n h
  have h4 := sumB_take xs n
  have h5 : n * sep.size ≤ 4194304 * 1048576 := Nat.mul_le_mul (by omega) h2
  omega
end Go.VL
namespace Go.Proofs.YtldhhppfnhgcdaaGreat
open Go Go.VL

theorem strings_Join (g : Nat) (xs : List ByteArray) (s1 : ByteArray) (hx : xs.length + sumB xs ≤ 4194304) (hz : s1.size ≤ 1048576) : FCtr Tryz.prog 32 [.t (.sl g (xs.map fun s => [T.str s])), .t (.str s1)] (fun r => r = .t (.str (jn xs s1))) :=
  FCtr.join (by kernel_rfl) Go.Proofs.Tryz.strings_Join_none Go.Proofs.Tryz.strings_Join g xs s1 (by omega) (by
    have h := jn_bound hx hz xs.length (Nat.le_refl _)
    rw [List.take_length] at h
    omega)

/-- spec.Join -/
theorem spec_Join (g : Nat) (xs : List ByteArray) (s1 : ByteArray) (hx : xs.length + sumB xs ≤ 4194304) (hz : s1.size ≤ 1048576) : FCtr Tryz.prog 18 [.t (.sl g (xs.map (fun x => [T.str x]))), .t (.str s1)] (fun r => r = .t (.str (jn xs s1))) := by
  refine Ctr.of_vc (rs := [.tmp 4]) (fn := Tryz.f18) mixed Tryz.func18 rfl rfl (by kernel_rfl) (by kernel_rfl) (by simp [Tryz.ntmps18]) (fun h0 => ?_)
  refine vc_seq fun K1 hK1 => ?_
  refine vc_reg ?_
  try simp (disch := omega) only [go_sem, ↓reduceIte, Nat.reduceEqDiff, reduceCtorEq, Nat.reduceAdd, Nat.reduceLeDiff, Nat.reduceMul, Int.reduceNeg, Int.reduceLT, Int.reduceAdd, Int.reduceSub]
  refine hK1 _ ?_
  refine vc_seq fun K2 hK2 => ?_
  refine vc_reg ?_
  try simp (disch := omega) only [go_sem, ↓reduceIte, Nat.reduceEqDiff, reduceCtorEq, Nat.reduceAdd, Nat.reduceLeDiff, Nat.reduceMul, Int.reduceNeg, Int.reduceLT, Int.reduceAdd, Int.reduceSub]
  refine .inl ⟨by simp [bsOk], fun g1_0 hg1_0 => ?_⟩
  try simp (disch := omega) only [go_sem, ↓reduceIte, Nat.reduceEqDiff, reduceCtorEq, Nat.reduceAdd, Nat.reduceLeDiff, Nat.reduceMul, Int.reduceNeg, Int.reduceLT, Int.reduceAdd, Int.reduceSub]
  refine hK2 _ ?_
  refine vc_seq fun K3 hK3 => ?_
  refine vc_seq fun K4 hK4 => ?_
  refine vc_reg ?_
  try simp (disch := omega) only [go_sem, ↓reduceIte, Nat.reduceEqDiff, reduceCtorEq, Nat.reduceAdd, Nat.reduceLeDiff, Nat.reduceMul, Int.reduceNeg, Int.reduceLT, Int.reduceAdd, Int.reduceSub]
  refine hK4 _ ?_
  refine vc_block ?_
  refine vc_loop (fun m s => ∃ (n g' ver m' L : Nat), (m = xs.length - n) ∧ (s.σ = [.row g' ver 1 m' (bys (jn (xs.take n) s1))]) ∧ (s.env 0 = .t (.sl g (xs.map (fun x => [T.str x])))) ∧ (s.env 1 = .t (.str s1)) ∧ (s.env 5 = .own 0 ver 0 L) ∧ (s.env 6 = .t (.int .i64 n)) ∧ (n ≤ xs.length) ∧ (L = (jn (xs.take n) s1).size)) (xs.length - 0) ⟨0, g1_0, 0, 0, 0, rfl, (by first | rfl | simp), (by first | rfl | assumption), (by first | rfl | assumption), (by first | rfl | assumption), (by first | rfl | assumption), (by first | rfl | omega | simp), (by rfl)⟩ ?_
  rintro m ⟨e, σ, h⟩ ⟨n, g', ver, m', L, hm, hσ, e0, e1, e5, e6, hn, hL⟩ K5 hK5
  simp only at hσ e0 e1 e5 e6
  subst hσ
  refine vc_seq fun K6 hK6 => ?_
  refine vc_seq fun K7 hK7 => ?_
  refine vc_reg ?_
  try simp (disch := omega) only [go_sem, ↓reduceIte, Nat.reduceEqDiff, reduceCtorEq, Nat.reduceAdd, Nat.reduceLeDiff, Nat.reduceMul, Int.reduceNeg, Int.reduceLT, Int.reduceAdd, Int.reduceSub, e0, e1, e5, e6]
  refine hK7 _ ?_
  refine vc_cond (t := _) rfl (fun hc1 => ?_) (fun hc1 => ?_)
  · (try simp only [go_sem] at hc1)
    refine vc_skip ?_
    refine hK6 _ ?_
    refine vc_seq fun K8 hK8 => ?_
    refine vc_block ?_
    refine vc_seq fun K9 hK9 => ?_
    refine vc_seq fun K10 hK10 => ?_
    have hjb := jn_bound hx hz n (by omega)
    have hxn := sumB_mem (List.getElem_mem (show n < xs.length by omega))
    have htk : (bys (jn (xs.take n) s1)).take L = bys (jn (xs.take n) s1) := by rw [hL]; exact bys_take _
    have htk2 : (bys (jn (xs.take n) s1 ++ s1)).take (L + (bys s1).length) = bys (jn (xs.take n) s1 ++ s1) := by rw [hL, bys_len, ← ByteArray.size_append]; exact bys_take _
    refine vc_reg ?_
    try simp (disch := omega) only [go_sem, ↓reduceIte, Nat.reduceEqDiff, reduceCtorEq, Nat.reduceAdd, Nat.reduceLeDiff, Nat.reduceMul, Int.reduceNeg, Int.reduceLT, Int.reduceAdd, Int.reduceSub, e0, e1, e5, e6]
    refine hK10 _ ?_
    refine vc_cond (t := _) rfl (fun hc2 => ?_) (fun hc2 => ?_)
    · (try simp only [go_sem] at hc2)
      refine vc_reg ?_
      try simp (disch := omega) only [go_sem, ↓reduceIte, Nat.reduceEqDiff, reduceCtorEq, Nat.reduceAdd, Nat.reduceLeDiff, Nat.reduceMul, Int.reduceNeg, Int.reduceLT, Int.reduceAdd, Int.reduceSub, e0, e1, e5, e6]
      refine x_app_own (bys s1) (show tElem Tryz.prog 71 = some 5 by kernel_rfl) (show tSize Tryz.prog 5 = some 1 by kernel_rfl) (show tZero Tryz.prog 5 = some [.t (.int .u8 0)] by kernel_rfl) (show tBytes Tryz.prog 5 = some 1 by kernel_rfl) rfl rfl rfl (by simp) (bys_ok s1) ⟨rfl, rfl⟩ (by (try rw [bys_len]); (try rw [bys_len]); omega) ?_
      rintro g6_2 m6_2 h6_2 hh6_2 hg6_2
      try simp (disch := omega) only [go_sem, ↓reduceIte, Nat.reduceEqDiff, reduceCtorEq, Nat.reduceAdd, Nat.reduceLeDiff, Nat.reduceMul, Int.reduceNeg, Int.reduceLT, Int.reduceAdd, Int.reduceSub, e0, e1, e5, e6, htk, ← bys_app, List.set_cons_zero]
      refine hK9 _ ?_
      have hjt := jn_take (show n < xs.length by omega) s1
      first | rw [if_pos (by omega)] at hjt | rw [if_neg (by omega)] at hjt
      refine vc_reg ?_
      try simp (disch := omega) only [go_sem, ↓reduceIte, Nat.reduceEqDiff, reduceCtorEq, Nat.reduceAdd, Nat.reduceLeDiff, Nat.reduceMul, Int.reduceNeg, Int.reduceLT, Int.reduceAdd, Int.reduceSub, e0, e1, e5, e6]
      refine x_app_own (bys xs[n]) (show tElem Tryz.prog 71 = some 5 by kernel_rfl) (show tSize Tryz.prog 5 = some 1 by kernel_rfl) (show tZero Tryz.prog 5 = some [.t (.int .u8 0)] by kernel_rfl) (show tBytes Tryz.prog 5 = some 1 by kernel_rfl) rfl rfl rfl (by simp) (bys_ok _) ⟨rfl, rfl⟩ (by (try rw [bys_len]); (try rw [bys_len]); omega) ?_
      rintro g7_5 m7_5 h7_5 hh7_5 hg7_5
      try simp (disch := omega) only [go_sem, ↓reduceIte, Nat.reduceEqDiff, reduceCtorEq, Nat.reduceAdd, Nat.reduceLeDiff, Nat.reduceMul, Int.reduceNeg, Int.reduceLT, Int.reduceAdd, Int.reduceSub, e0, e1, e5, e6, htk, htk2, ← bys_app, ← hjt, List.set_cons_zero]
      refine hK8 _ ?_
      refine vc_reg ?_
      try simp (disch := omega) only [go_sem, ↓reduceIte, Nat.reduceEqDiff, reduceCtorEq, Nat.reduceAdd, Nat.reduceLeDiff, Nat.reduceMul, Int.reduceNeg, Int.reduceLT, Int.reduceAdd, Int.reduceSub, e0, e1, e5, e6]
      refine hK5 _ _ ?_ ⟨n + 1, _, _, _, _, rfl, (by first | rfl | simp), (by first | rfl | assumption), (by first | rfl | assumption), (by first | rfl | assumption), (by first | rfl | assumption), ?_, ?_⟩
      · omega
      · first | omega | assumption | rfl | simp_all
      · rw [hjt, ByteArray.size_append, bys_len]; (try rw [ByteArray.size_append, bys_len]); omega
    · (try simp only [go_sem] at hc2)
      refine vc_skip ?_
      refine hK9 _ ?_
      have hjt := jn_take (show n < xs.length by omega) s1
      first | rw [if_pos (by omega)] at hjt | rw [if_neg (by omega)] at hjt
      refine vc_reg ?_
      try simp (disch := omega) only [go_sem, ↓reduceIte, Nat.reduceEqDiff, reduceCtorEq, Nat.reduceAdd, Nat.reduceLeDiff, Nat.reduceMul, Int.reduceNeg, Int.reduceLT, Int.reduceAdd, Int.reduceSub, e0, e1, e5, e6]
      refine x_app_own (bys xs[n]) (show tElem Tryz.prog 71 = some 5 by kernel_rfl) (show tSize Tryz.prog 5 = some 1 by kernel_rfl) (show tZero Tryz.prog 5 = some [.t (.int .u8 0)] by kernel_rfl) (show tBytes Tryz.prog 5 = some 1 by kernel_rfl) rfl rfl rfl (by simp) (bys_ok _) ⟨rfl, rfl⟩ (by (try rw [bys_len]); (try rw [bys_len]); omega) ?_
      rintro g7_5 m7_5 h7_5 hh7_5 hg7_5
      try simp (disch := omega) only [go_sem, ↓reduceIte, Nat.reduceEqDiff, reduceCtorEq, Nat.reduceAdd, Nat.reduceLeDiff, Nat.reduceMul, Int.reduceNeg, Int.reduceLT, Int.reduceAdd, Int.reduceSub, e0, e1, e5, e6, htk, htk2, ← bys_app, ← hjt, List.set_cons_zero]
      refine hK8 _ ?_
      refine vc_reg ?_
      try simp (disch := omega) only [go_sem, ↓reduceIte, Nat.reduceEqDiff, reduceCtorEq, Nat.reduceAdd, Nat.reduceLeDiff, Nat.reduceMul, Int.reduceNeg, Int.reduceLT, Int.reduceAdd, Int.reduceSub, e0, e1, e5, e6]
      refine hK5 _ _ ?_ ⟨n + 1, _, _, _, _, rfl, (by first | rfl | simp), (by first | rfl | assumption), (by first | rfl | assumption), (by first | rfl | assumption), (by first | rfl | assumption), ?_, ?_⟩
      · omega
      · first | omega | assumption | rfl | simp_all
      · rw [hjt, ByteArray.size_append, bys_len]; (try rw [ByteArray.size_append, bys_len]); omega
  · (try simp only [go_sem] at hc1)
    refine vc_exit ?_
    refine hK3 _ ?_
    refine vc_seq fun K11 hK11 => ?_
    have hfin := jn_all xs s1 n (by omega)
    have htk : (bys (jn xs s1)).take L = bys (jn xs s1) := by rw [hL, hfin]; exact bys_take _
    refine vc_reg ?_
    try simp (disch := omega) only [go_sem, ↓reduceIte, Nat.reduceEqDiff, reduceCtorEq, Nat.reduceAdd, Nat.reduceLeDiff, Nat.reduceMul, Int.reduceNeg, Int.reduceLT, Int.reduceAdd, Int.reduceSub, e0, e1, e5, e6, convQ, St.elems, nums_bys, strOf_bys, htk, hfin]
    refine hK11 _ ?_
    refine vc_ret ?_
    refine ⟨_, by first | rfl | (simp only [go_sem, resQ, List.mapM_cons, List.mapM_nil, ↓reduceIte, Nat.reduceEqDiff, Nat.reduceAdd, Nat.reduceLeDiff, reduceCtorEq]; rfl), [], [], .nil, by simp, by simp, fun hi_ h1_ => ⟨?_, rfl, rfl⟩, by simp⟩
    first | rfl | simp_all
end Go.Proofs.YtldhhppfnhgcdaaGreat
