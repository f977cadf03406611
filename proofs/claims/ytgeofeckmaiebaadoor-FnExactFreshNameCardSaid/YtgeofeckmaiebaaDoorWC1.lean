/- Walks through the code: each function's contract. -/
import Derived.Test.YtgeofeckmaiebaaDoorTab
import Derived.Test.YtgeofeckmaiebaaDoorShelf
import Derived.Test.YtgeofeckmaiebaaDoorV32
set_option linter.unusedVariables false
set_option linter.unusedSimpArgs false
set_option maxRecDepth 8000
namespace Go.Proofs.YtgeofeckmaiebaaDoor
open Go Go.VL
variable {W0 : World}

end Go.Proofs.YtgeofeckmaiebaaDoor
namespace Go.VL
/-- The decimal digits as the reference writes them. -/
def fdig (k : Nat) : ByteArray := strOfNums [IntKind.u8.wrap (IntKind.i64.wrap (48 + (k : Int).tmod 10))]
def fgo : Nat → Nat → ByteArray → ByteArray
  | 0, _, out => out
  | f + 1, k, out => if k = 0 then out else fgo f (k / 10) (fdig k ++ out)
theorem fgo_zero (f : Nat) (out : ByteArray) : fgo f 0 out = out := by cases f <;> simp [fgo]
def ita (n : Int) : ByteArray := ⟨(Lib.itoa n).toArray⟩
theorem fdig_eq (k : Nat) : (fdig k).data.toList = [UInt8.ofNat (48 + k % 10)] := by
  have h1 : (48 + (k : Int).tmod 10) = ((48 + k % 10 : Nat) : Int) := by rw [Int.tmod_eq_emod_of_nonneg (by omega)]; omega
  have h2 : IntKind.i64.wrap ((48 + k % 10 : Nat) : Int) = ((48 + k % 10 : Nat) : Int) := w64 (by omega)
  have h3 : IntKind.u8.wrap ((48 + k % 10 : Nat) : Int) = ((48 + k % 10 : Nat) : Int) := by
    have h4 : k % 10 < 10 := Nat.mod_lt _ (by decide)
    generalize k % 10 = j at h4 ⊢
    revert h4 j
    decide
  rw [fdig, h1, h2, h3, strOfNums_data, List.map_cons, List.map_nil, Int.toNat_natCast]
theorem fdig_size (k : Nat) : (fdig k).size = 1 := by
  have h := congrArg List.length (fdig_eq k)
  simpa using h
theorem fgo_eq : ∀ (f k : Nat) (out : ByteArray), 0 < k → k ≤ f → (fgo f k out).data.toList = Lib.decDigits k ++ out.data.toList
  | 0, k, _, h1, h2 => by omega
  | f + 1, k, out, h1, h2 => by
    rw [fgo, if_neg (by omega)]
    by_cases h3 : k < 10
    · rw [show k / 10 = 0 by omega, fgo_zero, Lib.decDigits, dif_pos h3, ByteArray.data_append, Array.toList_append, fdig_eq, Nat.mod_eq_of_lt h3]
    · rw [fgo_eq f (k / 10) _ (by omega) (by omega), Lib.decDigits.eq_def k, dif_neg h3, ByteArray.data_append, Array.toList_append, fdig_eq, List.append_assoc]
theorem ita_zero : ita 0 = ⟨#[48]⟩ := by
  apply bext
  rw [ita, Lib.itoa, if_neg (by decide), show (0 : Int).toNat = 0 from rfl, Lib.decDigits, dif_pos (by decide)]
  rfl
theorem ita_neg {n : Int} (h : n < 0) : ita n = ⟨#[45]⟩ ++ fgo n.natAbs n.natAbs ⟨#[]⟩ := by
  apply bext
  rw [ByteArray.data_append, Array.toList_append, fgo_eq _ _ _ (by omega) (Nat.le_refl _), ita, Lib.itoa, if_pos h]
  simp
theorem ita_pos {n : Int} (h : 0 < n) : ita n = fgo n.natAbs n.natAbs ⟨#[]⟩ := by
  apply bext
  rw [fgo_eq _ _ _ (by omega) (Nat.le_refl _), ita, Lib.itoa, if_neg (by omega), show n.toNat = n.natAbs by omega]
  simp
theorem i64max' : IntKind.i64.max = 9223372036854775807 := rfl
theorem tdv {n : Int} (h : -9223372036854775808 ≤ n ∧ n ≤ 9223372036854775807) : IntKind.i64.wrap (n.tdiv 10) = n.tdiv 10 ∧ (n.tdiv 10).natAbs = n.natAbs / 10 ∧ (n < 0 → n.tdiv 10 ≤ 0) ∧ (0 < n → 0 ≤ n.tdiv 10) := by
  have h1 : (n.tdiv 10).natAbs = n.natAbs / 10 := by rw [Int.natAbs_tdiv]; rfl
  rcases Int.lt_or_le n 0 with h2 | h2
  · have h3 : n.tdiv 10 = -((n.natAbs / 10 : Nat) : Int) := by
      obtain ⟨m, rfl⟩ : ∃ m : Nat, n = -(m : Int) := ⟨n.natAbs, by omega⟩
      rw [Int.neg_tdiv, Int.tdiv_eq_ediv_of_nonneg (by omega)]
      omega
    exact ⟨w64 (by omega), h1, fun _ => by omega, fun h => by omega⟩
  · rw [Int.tdiv_eq_ediv_of_nonneg h2] at h1 ⊢
    exact ⟨w64 (by omega), h1, fun h => by omega, fun _ => by omega⟩
theorem tmd (n : Int) : if n.tmod 10 < 0 then 0 - n.tmod 10 = ((n.natAbs : Nat) : Int).tmod 10 else n.tmod 10 = ((n.natAbs : Nat) : Int).tmod 10 := by
  rcases Int.lt_or_le n 0 with h2 | h2
  · obtain ⟨m, rfl⟩ : ∃ m : Nat, n = -(m : Int) := ⟨n.natAbs, by omega⟩
    rw [Int.neg_tmod, Int.natAbs_neg, Int.natAbs_natCast, Int.tmod_eq_emod_of_nonneg (by omega)]
    split <;> omega
  · rw [show ((n.natAbs : Nat) : Int) = n by omega, Int.tmod_eq_emod_of_nonneg h2]
    split <;> omega
theorem tmdF {n : Int} (h : ¬ n.tmod 10 < 0) : n.tmod 10 = ((n.natAbs : Nat) : Int).tmod 10 := by
  have h1 := tmd n
  rwa [if_neg h] at h1
theorem tmdT {n : Int} (h : n.tmod 10 < 0) : IntKind.i64.wrap (0 - n.tmod 10) = ((n.natAbs : Nat) : Int).tmod 10 := by
  have h1 := tmd n
  rw [if_pos h] at h1
  rw [h1]
  refine w64 ?_
  rw [Int.tmod_eq_emod_of_nonneg (by omega)]
  omega
end Go.VL
namespace Go.Proofs.YtgeofeckmaiebaaDoor
open Go Go.VL
variable {W0 : World}

theorem strconv_Itoa (htab : Lib.TabBelow Tryd.prog W0.heap.size W0 "internal/strconv.uint64pow10" .u64 Lib.pow10Tab) (n : Int) (hn : -9223372036854775808 ≤ n ∧ n ≤ 9223372036854775807) : FCtr W0 Tryd.prog 62 [.t (.int .i64 n)] (fun r => r = .t (.str (ita n))) :=
  FCtr.of_callsW (by kernel_rfl) fun w X vs hb ha => by
    obtain rfl := VRs.int1 ha
    refine (Go.Proofs.Tryd.strconv_Itoa n hn.1 hn.2 w (htab.on hb).here).mono fun e w' ⟨he, k, os, hw⟩ => ⟨he, ?_⟩
    subst hw
    exact Lib.below_grow _ _ (Nat.le_refl _) _ _

/-- spec.FormatInt -/
theorem spec_FormatInt (n0 : Int) (hn0 : -9223372036854775808 ≤ n0 ∧ n0 ≤ 9223372036854775807) : FCtr W0 Tryd.prog 42 [.t (.int .i64 n0)] (fun r => r = .t (.str (ita n0))) := by
  refine Ctr.of_vc (rs := [.tmp 2]) (fn := Tryd.f42) mixed Tryd.func42 rfl rfl (by kernel_rfl) (by kernel_rfl) (by simp [Tryd.ntmps42]) (fun h0 => ?_)
  refine vc_seq fun K1 hK1 => ?_
  refine vc_reg ?_
  try simp (disch := omega) only [go_sem, ↓reduceIte, Nat.reduceEqDiff, reduceCtorEq, Nat.reduceAdd, Nat.reduceLeDiff, Nat.reduceMul, Int.reduceNeg, Int.reduceLT, Int.reduceAdd, Int.reduceSub]
  refine hK1 _ ?_
  refine vc_seq fun K2 hK2 => ?_
  refine vc_seq fun K3 hK3 => ?_
  refine vc_reg ?_
  try simp (disch := omega) only [go_sem, ↓reduceIte, Nat.reduceEqDiff, reduceCtorEq, Nat.reduceAdd, Nat.reduceLeDiff, Nat.reduceMul, Int.reduceNeg, Int.reduceLT, Int.reduceAdd, Int.reduceSub]
  refine hK3 _ ?_
  refine vc_cond (t := _) (by first | rfl | (simp (disch := omega) only [go_sem, ↓reduceIte, Nat.reduceEqDiff, reduceCtorEq, Nat.reduceAdd, Nat.reduceLeDiff, Nat.reduceMul, Int.reduceNeg, Int.reduceLT, Int.reduceAdd, Int.reduceSub]; rfl)) (fun hc1 => ?_) (fun hc1 => ?_)
  · (try simp only [go_sem] at hc1)
    refine vc_seq fun K4 hK4 => ?_
    refine vc_reg ?_
    try simp (disch := omega) only [go_sem, ↓reduceIte, Nat.reduceEqDiff, reduceCtorEq, Nat.reduceAdd, Nat.reduceLeDiff, Nat.reduceMul, Int.reduceNeg, Int.reduceLT, Int.reduceAdd, Int.reduceSub]
    refine hK4 _ ?_
    refine vc_ret ?_
    refine ⟨_, by first | rfl | (simp only [go_sem, resQ, List.mapM_cons, List.mapM_nil, ↓reduceIte, Nat.reduceEqDiff, Nat.reduceAdd, Nat.reduceLeDiff, reduceCtorEq]; rfl), [], [], .nil, by simp, by simp, fun hi_ h1_ => ⟨?_, rfl, rfl⟩, by simp⟩
    rw [show n0 = 0 by simp_all, ita_zero]; rfl
  · (try simp only [go_sem] at hc1)
    refine vc_skip ?_
    refine hK2 _ ?_
    refine vc_seq fun K5 hK5 => ?_
    refine vc_reg ?_
    try simp (disch := omega) only [go_sem, ↓reduceIte, Nat.reduceEqDiff, reduceCtorEq, Nat.reduceAdd, Nat.reduceLeDiff, Nat.reduceMul, Int.reduceNeg, Int.reduceLT, Int.reduceAdd, Int.reduceSub]
    refine hK5 _ ?_
    refine vc_seq fun K6 hK6 => ?_
    refine vc_reg ?_
    try simp (disch := omega) only [go_sem, ↓reduceIte, Nat.reduceEqDiff, reduceCtorEq, Nat.reduceAdd, Nat.reduceLeDiff, Nat.reduceMul, Int.reduceNeg, Int.reduceLT, Int.reduceAdd, Int.reduceSub]
    refine hK6 _ ?_
    refine vc_seq fun K7 hK7 => ?_
    refine vc_block ?_
    refine vc_loopG (fun m s => ∃ (f : Nat) (n : Int) (out : ByteArray), (m = n.natAbs) ∧ (s.σ = []) ∧ (s.env 0 = .t (.int .i64 n)) ∧ (s.env 3 = .t (.bool (decide (n0 < 0)))) ∧ (s.env 4 = .t (.str out)) ∧ (n.natAbs ≤ f) ∧ (fgo f n.natAbs out = fgo n0.natAbs n0.natAbs ⟨#[]⟩) ∧ (-9223372036854775808 ≤ n ∧ n ≤ 9223372036854775807) ∧ (2 * out.size + n.natAbs ≤ n0.natAbs + 1) ∧ (n ≠ 0 → 2 * out.size + n.natAbs ≤ n0.natAbs)) (n0.natAbs) ⟨n0.natAbs, n0, ⟨#[]⟩, rfl, rfl, (by first | rfl | assumption | (simp (disch := omega) only [go_sem, ↓reduceIte, Nat.reduceEqDiff, reduceCtorEq, Nat.reduceAdd, Nat.reduceLeDiff, Nat.reduceMul, Int.reduceNeg, Int.reduceLT, Int.reduceAdd, Int.reduceSub])), (by first | rfl | assumption | (simp (disch := omega) only [go_sem, ↓reduceIte, Nat.reduceEqDiff, reduceCtorEq, Nat.reduceAdd, Nat.reduceLeDiff, Nat.reduceMul, Int.reduceNeg, Int.reduceLT, Int.reduceAdd, Int.reduceSub])), (by first | rfl | assumption | (simp (disch := omega) only [go_sem, ↓reduceIte, Nat.reduceEqDiff, reduceCtorEq, Nat.reduceAdd, Nat.reduceLeDiff, Nat.reduceMul, Int.reduceNeg, Int.reduceLT, Int.reduceAdd, Int.reduceSub])), (by first | rfl | omega | simp), (by rfl), (by first | rfl | omega | simp), (by show 2 * 0 + n0.natAbs ≤ n0.natAbs + 1; omega), (by show _ → 2 * 0 + n0.natAbs ≤ n0.natAbs; omega)⟩ ?_
    rintro m ⟨e, σ, h⟩ ⟨f, n, out, hm, hσ, e0, e3, e4, hf, hq, hr, hs, hs2⟩ K8 hK8 hG8
    simp only at hσ e0 e3 e4
    subst hσ
    refine vc_seq fun K9 hK9 => ?_
    refine vc_seq fun K10 hK10 => ?_
    refine vc_reg ?_
    try simp (disch := omega) only [go_sem, ↓reduceIte, Nat.reduceEqDiff, reduceCtorEq, Nat.reduceAdd, Nat.reduceLeDiff, Nat.reduceMul, Int.reduceNeg, Int.reduceLT, Int.reduceAdd, Int.reduceSub, e0, e3, e4]
    refine hK10 _ ?_
    refine vc_cond (t := _) (by first | rfl | (simp (disch := omega) only [go_sem, ↓reduceIte, Nat.reduceEqDiff, reduceCtorEq, Nat.reduceAdd, Nat.reduceLeDiff, Nat.reduceMul, Int.reduceNeg, Int.reduceLT, Int.reduceAdd, Int.reduceSub, e0, e3, e4]; rfl)) (fun hc2 => ?_) (fun hc2 => ?_)
    · (try simp only [go_sem] at hc2)
      have hn0' : n ≠ 0 := hc2
      refine vc_skip ?_
      refine hK9 _ ?_
      refine vc_block ?_
      refine vc_seq fun K11 hK11 => ?_
      refine vc_reg ?_
      try simp (disch := omega) only [go_sem, ↓reduceIte, Nat.reduceEqDiff, reduceCtorEq, Nat.reduceAdd, Nat.reduceLeDiff, Nat.reduceMul, Int.reduceNeg, Int.reduceLT, Int.reduceAdd, Int.reduceSub, e0, e3, e4, Int.reduceEq]
      refine hK11 _ ?_
      refine vc_seq fun K12 hK12 => ?_
      refine vc_seq fun K13 hK13 => ?_
      refine vc_reg ?_
      try simp (disch := omega) only [go_sem, ↓reduceIte, Nat.reduceEqDiff, reduceCtorEq, Nat.reduceAdd, Nat.reduceLeDiff, Nat.reduceMul, Int.reduceNeg, Int.reduceLT, Int.reduceAdd, Int.reduceSub, e0, e3, e4]
      refine hK13 _ ?_
      refine vc_cond (t := _) (by first | rfl | (simp (disch := omega) only [go_sem, ↓reduceIte, Nat.reduceEqDiff, reduceCtorEq, Nat.reduceAdd, Nat.reduceLeDiff, Nat.reduceMul, Int.reduceNeg, Int.reduceLT, Int.reduceAdd, Int.reduceSub, e0, e3, e4]; rfl)) (fun hc3 => ?_) (fun hc3 => ?_)
      · (try simp only [go_sem] at hc3)
        have htm := tmdT hc3
        refine vc_reg ?_
        try simp (disch := omega) only [go_sem, ↓reduceIte, Nat.reduceEqDiff, reduceCtorEq, Nat.reduceAdd, Nat.reduceLeDiff, Nat.reduceMul, Int.reduceNeg, Int.reduceLT, Int.reduceAdd, Int.reduceSub, e0, e3, e4]
        refine hK12 _ ?_
        refine vc_seq fun K14 hK14 => ?_
        obtain ⟨f, rfl⟩ : ∃ x, f = x + 1 := ⟨f - 1, by omega⟩
        have hz : ∀ x : Int, ¬ (IntKind.i64.max < (((strOfNums [x]).size + out.size : Nat) : Int)) := fun x => by rw [strOfNums_size, i64max', List.length_singleton]; omega
        refine vc_reg ?_
        try simp (disch := omega) only [go_sem, ↓reduceIte, Nat.reduceEqDiff, reduceCtorEq, Nat.reduceAdd, Nat.reduceLeDiff, Nat.reduceMul, Int.reduceNeg, Int.reduceLT, Int.reduceAdd, Int.reduceSub, e0, e3, e4, Int.reduceEq, convQ, numsOf, St.elems, hz, get_new, htm]
        refine .inl ⟨by simp [bsOk], fun g9_3 hg9_3 => ?_⟩
        try simp (disch := omega) only [go_sem, ↓reduceIte, Nat.reduceEqDiff, reduceCtorEq, Nat.reduceAdd, Nat.reduceLeDiff, Nat.reduceMul, Int.reduceNeg, Int.reduceLT, Int.reduceAdd, Int.reduceSub, e0, e3, e4, Int.reduceEq, convQ, numsOf, St.elems, hz, get_new, htm]
        refine hK14 _ ?_
        have hdv := tdv hr
        refine vc_reg ?_
        try simp (disch := omega) only [go_sem, ↓reduceIte, Nat.reduceEqDiff, reduceCtorEq, Nat.reduceAdd, Nat.reduceLeDiff, Nat.reduceMul, Int.reduceNeg, Int.reduceLT, Int.reduceAdd, Int.reduceSub, e0, e3, e4, Int.reduceEq, hdv.1]
        refine hG8 _ _ [] [] ?_ (by simp) (by simp) (by simp) ⟨f, n.tdiv 10, fdig n.natAbs ++ out, rfl, (by first | rfl | (simp (disch := omega) only [go_sem, ↓reduceIte, Nat.reduceEqDiff, reduceCtorEq, Nat.reduceAdd, Nat.reduceLeDiff, Nat.reduceMul, Int.reduceNeg, Int.reduceLT, Int.reduceAdd, Int.reduceSub, e0, e3, e4, gc_σ, locObs, Ob.loc, V.loc, V.locs, idx]; done) | (simp [gc_σ, locObs, Ob.loc, V.loc, Function.comp_def, List.take_of_length_le]; done)), (by first | rfl | (simp (disch := omega) only [go_sem, ↓reduceIte, Nat.reduceEqDiff, reduceCtorEq, Nat.reduceAdd, Nat.reduceLeDiff, Nat.reduceMul, Int.reduceNeg, Int.reduceLT, Int.reduceAdd, Int.reduceSub, e0, e3, e4, gc_env, V.loc, V.locs, idx]; done) | (simp (disch := omega) only [go_sem, ↓reduceIte, Nat.reduceEqDiff, reduceCtorEq, Nat.reduceAdd, Nat.reduceLeDiff, Nat.reduceMul, Int.reduceNeg, Int.reduceLT, Int.reduceAdd, Int.reduceSub, e0, e3, e4, gc_env, V.loc, V.locs, idx]; simp; done)), (by first | rfl | (simp (disch := omega) only [go_sem, ↓reduceIte, Nat.reduceEqDiff, reduceCtorEq, Nat.reduceAdd, Nat.reduceLeDiff, Nat.reduceMul, Int.reduceNeg, Int.reduceLT, Int.reduceAdd, Int.reduceSub, e0, e3, e4, gc_env, V.loc, V.locs, idx]; done) | (simp (disch := omega) only [go_sem, ↓reduceIte, Nat.reduceEqDiff, reduceCtorEq, Nat.reduceAdd, Nat.reduceLeDiff, Nat.reduceMul, Int.reduceNeg, Int.reduceLT, Int.reduceAdd, Int.reduceSub, e0, e3, e4, gc_env, V.loc, V.locs, idx]; simp; done)), (by first | rfl | (simp (disch := omega) only [go_sem, ↓reduceIte, Nat.reduceEqDiff, reduceCtorEq, Nat.reduceAdd, Nat.reduceLeDiff, Nat.reduceMul, Int.reduceNeg, Int.reduceLT, Int.reduceAdd, Int.reduceSub, e0, e3, e4, gc_env, V.loc, V.locs, idx]; done) | (simp (disch := omega) only [go_sem, ↓reduceIte, Nat.reduceEqDiff, reduceCtorEq, Nat.reduceAdd, Nat.reduceLeDiff, Nat.reduceMul, Int.reduceNeg, Int.reduceLT, Int.reduceAdd, Int.reduceSub, e0, e3, e4, gc_env, V.loc, V.locs, idx]; simp; done)), ?_, ?_, ?_, ?_, ?_⟩
        · omega
        · omega
        · rw [← hq, fgo, if_neg (by omega), hdv.2.1]
        · omega
        · rw [ByteArray.size_append, fdig_size]; omega
        · rw [ByteArray.size_append, fdig_size]; omega
      · (try simp only [go_sem] at hc3)
        have htm := tmdF (n := n) (by omega)
        refine vc_skip ?_
        refine hK12 _ ?_
        refine vc_seq fun K15 hK15 => ?_
        obtain ⟨f, rfl⟩ : ∃ x, f = x + 1 := ⟨f - 1, by omega⟩
        have hz : ∀ x : Int, ¬ (IntKind.i64.max < (((strOfNums [x]).size + out.size : Nat) : Int)) := fun x => by rw [strOfNums_size, i64max', List.length_singleton]; omega
        refine vc_reg ?_
        try simp (disch := omega) only [go_sem, ↓reduceIte, Nat.reduceEqDiff, reduceCtorEq, Nat.reduceAdd, Nat.reduceLeDiff, Nat.reduceMul, Int.reduceNeg, Int.reduceLT, Int.reduceAdd, Int.reduceSub, e0, e3, e4, Int.reduceEq, convQ, numsOf, St.elems, hz, get_new, htm]
        refine .inl ⟨by simp [bsOk], fun g9_3 hg9_3 => ?_⟩
        try simp (disch := omega) only [go_sem, ↓reduceIte, Nat.reduceEqDiff, reduceCtorEq, Nat.reduceAdd, Nat.reduceLeDiff, Nat.reduceMul, Int.reduceNeg, Int.reduceLT, Int.reduceAdd, Int.reduceSub, e0, e3, e4, Int.reduceEq, convQ, numsOf, St.elems, hz, get_new, htm]
        refine hK15 _ ?_
        have hdv := tdv hr
        refine vc_reg ?_
        try simp (disch := omega) only [go_sem, ↓reduceIte, Nat.reduceEqDiff, reduceCtorEq, Nat.reduceAdd, Nat.reduceLeDiff, Nat.reduceMul, Int.reduceNeg, Int.reduceLT, Int.reduceAdd, Int.reduceSub, e0, e3, e4, Int.reduceEq, hdv.1]
        refine hG8 _ _ [] [] ?_ (by simp) (by simp) (by simp) ⟨f, n.tdiv 10, fdig n.natAbs ++ out, rfl, (by first | rfl | (simp (disch := omega) only [go_sem, ↓reduceIte, Nat.reduceEqDiff, reduceCtorEq, Nat.reduceAdd, Nat.reduceLeDiff, Nat.reduceMul, Int.reduceNeg, Int.reduceLT, Int.reduceAdd, Int.reduceSub, e0, e3, e4, gc_σ, locObs, Ob.loc, V.loc, V.locs, idx]; done) | (simp [gc_σ, locObs, Ob.loc, V.loc, Function.comp_def, List.take_of_length_le]; done)), (by first | rfl | (simp (disch := omega) only [go_sem, ↓reduceIte, Nat.reduceEqDiff, reduceCtorEq, Nat.reduceAdd, Nat.reduceLeDiff, Nat.reduceMul, Int.reduceNeg, Int.reduceLT, Int.reduceAdd, Int.reduceSub, e0, e3, e4, gc_env, V.loc, V.locs, idx]; done) | (simp (disch := omega) only [go_sem, ↓reduceIte, Nat.reduceEqDiff, reduceCtorEq, Nat.reduceAdd, Nat.reduceLeDiff, Nat.reduceMul, Int.reduceNeg, Int.reduceLT, Int.reduceAdd, Int.reduceSub, e0, e3, e4, gc_env, V.loc, V.locs, idx]; simp; done)), (by first | rfl | (simp (disch := omega) only [go_sem, ↓reduceIte, Nat.reduceEqDiff, reduceCtorEq, Nat.reduceAdd, Nat.reduceLeDiff, Nat.reduceMul, Int.reduceNeg, Int.reduceLT, Int.reduceAdd, Int.reduceSub, e0, e3, e4, gc_env, V.loc, V.locs, idx]; done) | (simp (disch := omega) only [go_sem, ↓reduceIte, Nat.reduceEqDiff, reduceCtorEq, Nat.reduceAdd, Nat.reduceLeDiff, Nat.reduceMul, Int.reduceNeg, Int.reduceLT, Int.reduceAdd, Int.reduceSub, e0, e3, e4, gc_env, V.loc, V.locs, idx]; simp; done)), (by first | rfl | (simp (disch := omega) only [go_sem, ↓reduceIte, Nat.reduceEqDiff, reduceCtorEq, Nat.reduceAdd, Nat.reduceLeDiff, Nat.reduceMul, Int.reduceNeg, Int.reduceLT, Int.reduceAdd, Int.reduceSub, e0, e3, e4, gc_env, V.loc, V.locs, idx]; done) | (simp (disch := omega) only [go_sem, ↓reduceIte, Nat.reduceEqDiff, reduceCtorEq, Nat.reduceAdd, Nat.reduceLeDiff, Nat.reduceMul, Int.reduceNeg, Int.reduceLT, Int.reduceAdd, Int.reduceSub, e0, e3, e4, gc_env, V.loc, V.locs, idx]; simp; done)), ?_, ?_, ?_, ?_, ?_⟩
        · omega
        · omega
        · rw [← hq, fgo, if_neg (by omega), hdv.2.1]
        · omega
        · rw [ByteArray.size_append, fdig_size]; omega
        · rw [ByteArray.size_append, fdig_size]; omega
    · (try simp only [go_sem] at hc2)
      have hnz : n = 0 := by first | exact hc2 | simpa using hc2
      refine vc_exit ?_
      refine hK7 _ ?_
      refine vc_seq fun K16 hK16 => ?_
      refine vc_seq fun K17 hK17 => ?_
      subst hnz
      rw [Int.natAbs_zero, fgo_zero] at hq
      refine vc_reg ?_
      try simp (disch := omega) only [go_sem, ↓reduceIte, Nat.reduceEqDiff, reduceCtorEq, Nat.reduceAdd, Nat.reduceLeDiff, Nat.reduceMul, Int.reduceNeg, Int.reduceLT, Int.reduceAdd, Int.reduceSub, e0, e3, e4]
      refine hK17 _ ?_
      refine vc_cond (t := _) (by first | rfl | (simp (disch := omega) only [go_sem, ↓reduceIte, Nat.reduceEqDiff, reduceCtorEq, Nat.reduceAdd, Nat.reduceLeDiff, Nat.reduceMul, Int.reduceNeg, Int.reduceLT, Int.reduceAdd, Int.reduceSub, e0, e3, e4]; rfl)) (fun hc4 => ?_) (fun hc4 => ?_)
      · (try simp only [go_sem] at hc4)
        have hlt := hc4
        refine vc_seq fun K18 hK18 => ?_
        have hs45 : (#[45] : Array UInt8).size = 1 := rfl
        have hz : ¬ (IntKind.i64.max < (((#[45] : Array UInt8).size + out.size : Nat) : Int)) := by rw [i64max', hs45]; omega
        refine vc_reg ?_
        try simp (disch := omega) only [go_sem, ↓reduceIte, Nat.reduceEqDiff, reduceCtorEq, Nat.reduceAdd, Nat.reduceLeDiff, Nat.reduceMul, Int.reduceNeg, Int.reduceLT, Int.reduceAdd, Int.reduceSub, e0, e3, e4, hz]
        refine hK18 _ ?_
        refine vc_ret ?_
        refine ⟨_, by first | rfl | (simp only [go_sem, resQ, List.mapM_cons, List.mapM_nil, ↓reduceIte, Nat.reduceEqDiff, Nat.reduceAdd, Nat.reduceLeDiff, reduceCtorEq]; rfl), [], [], .nil, by simp, by simp, fun hi_ h1_ => ⟨?_, rfl, rfl⟩, by simp⟩
        rw [ita_neg hlt, ← hq]; rfl
      · (try simp only [go_sem] at hc4)
        have hge := hc4
        refine vc_skip ?_
        refine hK16 _ ?_
        refine vc_seq fun K19 hK19 => ?_
        refine vc_reg ?_
        try simp (disch := omega) only [go_sem, ↓reduceIte, Nat.reduceEqDiff, reduceCtorEq, Nat.reduceAdd, Nat.reduceLeDiff, Nat.reduceMul, Int.reduceNeg, Int.reduceLT, Int.reduceAdd, Int.reduceSub, e0, e3, e4]
        refine hK19 _ ?_
        refine vc_ret ?_
        refine ⟨_, by first | rfl | (simp only [go_sem, resQ, List.mapM_cons, List.mapM_nil, ↓reduceIte, Nat.reduceEqDiff, Nat.reduceAdd, Nat.reduceLeDiff, reduceCtorEq]; rfl), [], [], .nil, by simp, by simp, fun hi_ h1_ => ⟨?_, rfl, rfl⟩, by simp⟩
        rw [ita_pos (by omega), ← hq]; rfl

/-- impl.FormatInt -/
theorem impl_FormatInt (htab : Lib.TabBelow Tryd.prog W0.heap.size W0 "internal/strconv.uint64pow10" .u64 Lib.pow10Tab) (n0 : Int) (hn0 : -9223372036854775808 ≤ n0 ∧ n0 ≤ 9223372036854775807) : FCtr W0 Tryd.prog 41 [.t (.int .i64 n0)] (fun r => r = .t (.str (ita n0))) := by
  refine Ctr.of_vc (rs := [.tmp 2]) (fn := Tryd.f41) mixed Tryd.func41 rfl rfl (by kernel_rfl) (by kernel_rfl) (by simp [Tryd.ntmps41]) (fun h0 => ?_)
  refine vc_seq fun K1 hK1 => ?_
  refine vc_reg ?_
  try simp (disch := omega) only [go_sem, ↓reduceIte, Nat.reduceEqDiff, reduceCtorEq, Nat.reduceAdd, Nat.reduceLeDiff, Nat.reduceMul, Int.reduceNeg, Int.reduceLT, Int.reduceAdd, Int.reduceSub]
  refine hK1 _ ?_
  refine vc_seq fun K2 hK2 => ?_
  refine vc_reg ?_
  try simp (disch := omega) only [go_sem, ↓reduceIte, Nat.reduceEqDiff, reduceCtorEq, Nat.reduceAdd, Nat.reduceLeDiff, Nat.reduceMul, Int.reduceNeg, Int.reduceLT, Int.reduceAdd, Int.reduceSub]
  refine vcX_call _ _ (strconv_Itoa htab n0 hn0) (by first | rfl | (simp (disch := omega) only [go_sem, ↓reduceIte, Nat.reduceEqDiff, reduceCtorEq, Nat.reduceAdd, Nat.reduceLeDiff, Nat.reduceMul, Int.reduceNeg, Int.reduceLT, Int.reduceAdd, Int.reduceSub])) (by first | rfl | (simp (disch := omega) only [go_sem, ↓reduceIte, Nat.reduceEqDiff, reduceCtorEq, Nat.reduceAdd, Nat.reduceLeDiff, Nat.reduceMul, Int.reduceNeg, Int.reduceLT, Int.reduceAdd, Int.reduceSub])) (by first | rfl | simp [V.pures, V.pure, V.pures_t]) ?_
  rintro r1_1 h1_1 hh1_1 rfl -
  try simp (disch := omega) only [go_sem, ↓reduceIte, Nat.reduceEqDiff, reduceCtorEq, Nat.reduceAdd, Nat.reduceLeDiff, Nat.reduceMul, Int.reduceNeg, Int.reduceLT, Int.reduceAdd, Int.reduceSub]
  refine hK2 _ ?_
  refine vc_ret ?_
  refine ⟨_, by first | rfl | (simp only [go_sem, resQ, List.mapM_cons, List.mapM_nil, ↓reduceIte, Nat.reduceEqDiff, Nat.reduceAdd, Nat.reduceLeDiff, reduceCtorEq]; rfl), [], [], .nil, by simp, by simp, fun hi_ h1_ => ⟨?_, rfl, rfl⟩, by simp⟩
  first | rfl | simp_all
end Go.Proofs.YtgeofeckmaiebaaDoor
