/- Walks through the code: each function's contract. -/
import Derived.Test.YtldhhppfnhgcdaaWQ
set_option linter.unusedVariables false
set_option linter.unusedSimpArgs false
set_option maxRecDepth 8000
namespace Go.Proofs.Ytldhhppfnhgcdaa
open Go Go.VL

end Go.Proofs.Ytldhhppfnhgcdaa
namespace Go.VL
/-- The text that marks a place. -/
def dig (k : Nat) : ByteArray := strOfNums [IntKind.u8.wrap (IntKind.i64.wrap (48 + (k : Int).tmod 10))]
def mgo : Nat → Nat → ByteArray → ByteArray
  | 0, _, out => out
  | f + 1, k, out => if k = 0 then out else mgo f (k / 10) (dig k ++ out)
def mtx (k : Nat) : ByteArray := ⟨#[109]⟩ ++ mgo k k ⟨#[]⟩
theorem mgo_zero (f : Nat) (out : ByteArray) : mgo f 0 out = out := by cases f <;> simp [mgo]
/-- Places marked from k on. -/
def mS (k n : Nat) : List ByteArray := (List.range n).map fun i => mtx (k + i)
theorem mS_len (k n : Nat) : (mS k n).length = n := by simp [mS]
theorem mS_get {k n i : Nat} (h : i < n) : (mS k n)[i]? = some (mtx (k + i)) := by simp [mS, h]
theorem mS_succ (k n : Nat) : mS k (n + 1) = mS k n ++ [mtx (k + n)] := by simp [mS, List.range_succ]
theorem i64max : IntKind.i64.max = 9223372036854775807 := rfl
end Go.VL
namespace Go.Proofs.Ytldhhppfnhgcdaa
open Go Go.VL

/-- laws.markText -/
theorem laws_markText (k : Nat) (hk : 0 < k ∧ k ≤ 2^60) : FCtr Try.prog 97 [.t (.int .i64 k)] (fun r => r = .t (.str (mtx k))) := by
  refine Ctr.of_vc (rs := [.tmp 2]) (fn := Try.f97) mixed Try.func97 rfl rfl (by kernel_rfl) (by kernel_rfl) (by simp [Try.ntmps97]) (fun h0 => ?_)
  refine vc_seq fun K1 hK1 => ?_
  refine vc_reg ?_
  try simp (disch := omega) only [go_sem, ↓reduceIte, Nat.reduceEqDiff, reduceCtorEq, Nat.reduceAdd, Nat.reduceLeDiff, Nat.reduceMul, Int.reduceNeg, Int.reduceLT, Int.reduceAdd, Int.reduceSub]
  refine hK1 _ ?_
  refine vc_seq fun K2 hK2 => ?_
  refine vc_seq fun K3 hK3 => ?_
  refine vc_reg ?_
  try simp (disch := omega) only [go_sem, ↓reduceIte, Nat.reduceEqDiff, reduceCtorEq, Nat.reduceAdd, Nat.reduceLeDiff, Nat.reduceMul, Int.reduceNeg, Int.reduceLT, Int.reduceAdd, Int.reduceSub]
  refine hK3 _ ?_
  refine vc_cond (t := _) (by first | rfl | (simp (disch := omega) only [go_sem, ↓reduceIte, Nat.reduceEqDiff, reduceCtorEq, Nat.reduceAdd, Nat.reduceLeDiff, Nat.reduceMul, Int.reduceNeg, Int.reduceLT, Int.reduceAdd, Int.reduceSub]; rfl)) (fun hc1 => ?_) (fun hc1 => ?_)
  · exact absurd hc1 (by first | (simp; done) | (simp; omega))
  · (try simp only [go_sem] at hc1)
    refine vc_skip ?_
    refine hK2 _ ?_
    refine vc_seq fun K4 hK4 => ?_
    refine vc_reg ?_
    try simp (disch := omega) only [go_sem, ↓reduceIte, Nat.reduceEqDiff, reduceCtorEq, Nat.reduceAdd, Nat.reduceLeDiff, Nat.reduceMul, Int.reduceNeg, Int.reduceLT, Int.reduceAdd, Int.reduceSub]
    refine hK4 _ ?_
    refine vc_seq fun K5 hK5 => ?_
    refine vc_block ?_
    refine vc_loopG (fun m s => ∃ (f q : Nat) (out : ByteArray), (m = q) ∧ (s.σ = []) ∧ (s.env 0 = .t (.int .i64 q)) ∧ (s.env 3 = .t (.str out)) ∧ (q ≤ f) ∧ (mgo f q out = mgo k k ⟨#[]⟩) ∧ (out.size + q ≤ k)) (k) ⟨k, k, ⟨#[]⟩, rfl, rfl, (by first | rfl | assumption | (simp (disch := omega) only [go_sem, ↓reduceIte, Nat.reduceEqDiff, reduceCtorEq, Nat.reduceAdd, Nat.reduceLeDiff, Nat.reduceMul, Int.reduceNeg, Int.reduceLT, Int.reduceAdd, Int.reduceSub])), (by first | rfl | assumption | (simp (disch := omega) only [go_sem, ↓reduceIte, Nat.reduceEqDiff, reduceCtorEq, Nat.reduceAdd, Nat.reduceLeDiff, Nat.reduceMul, Int.reduceNeg, Int.reduceLT, Int.reduceAdd, Int.reduceSub])), (by first | rfl | omega | simp), (by rfl), (by show 0 + k ≤ k; omega)⟩ ?_
    rintro m ⟨e, σ, h⟩ ⟨f, q, out, hm, hσ, e0, e3, hf, hq, hs⟩ K6 hK6 hG6
    simp only at hσ e0 e3
    subst hσ
    refine vc_seq fun K7 hK7 => ?_
    refine vc_seq fun K8 hK8 => ?_
    refine vc_reg ?_
    try simp (disch := omega) only [go_sem, ↓reduceIte, Nat.reduceEqDiff, reduceCtorEq, Nat.reduceAdd, Nat.reduceLeDiff, Nat.reduceMul, Int.reduceNeg, Int.reduceLT, Int.reduceAdd, Int.reduceSub, e0, e3]
    refine hK8 _ ?_
    refine vc_cond (t := _) (by first | rfl | (simp (disch := omega) only [go_sem, ↓reduceIte, Nat.reduceEqDiff, reduceCtorEq, Nat.reduceAdd, Nat.reduceLeDiff, Nat.reduceMul, Int.reduceNeg, Int.reduceLT, Int.reduceAdd, Int.reduceSub, e0, e3]; rfl)) (fun hc2 => ?_) (fun hc2 => ?_)
    · (try simp only [go_sem] at hc2)
      refine vc_skip ?_
      refine hK7 _ ?_
      refine vc_block ?_
      refine vc_seq fun K9 hK9 => ?_
      obtain ⟨f, rfl⟩ : ∃ x, f = x + 1 := ⟨f - 1, by omega⟩
      have hz : ∀ x : Int, ¬ (IntKind.i64.max < (((strOfNums [x]).size + out.size : Nat) : Int)) := fun x => by rw [strOfNums_size, i64max, List.length_singleton]; omega
      have hdv : IntKind.i64.wrap ((q : Int).tdiv 10) = ((q / 10 : Nat) : Int) := by rw [Int.tdiv_eq_ediv_of_nonneg (by omega), w64 (by omega)]; omega
      refine vc_reg ?_
      try simp (disch := omega) only [go_sem, ↓reduceIte, Nat.reduceEqDiff, reduceCtorEq, Nat.reduceAdd, Nat.reduceLeDiff, Nat.reduceMul, Int.reduceNeg, Int.reduceLT, Int.reduceAdd, Int.reduceSub, e0, e3, Int.reduceEq, convQ, numsOf, St.elems, hz, get_new]
      refine ⟨by simp [bsOk], fun g5_4 hg5_4 => ?_⟩
      try simp (disch := omega) only [go_sem, ↓reduceIte, Nat.reduceEqDiff, reduceCtorEq, Nat.reduceAdd, Nat.reduceLeDiff, Nat.reduceMul, Int.reduceNeg, Int.reduceLT, Int.reduceAdd, Int.reduceSub, e0, e3, Int.reduceEq, convQ, numsOf, St.elems, hz, get_new]
      refine hK9 _ ?_
      refine vc_reg ?_
      try simp (disch := omega) only [go_sem, ↓reduceIte, Nat.reduceEqDiff, reduceCtorEq, Nat.reduceAdd, Nat.reduceLeDiff, Nat.reduceMul, Int.reduceNeg, Int.reduceLT, Int.reduceAdd, Int.reduceSub, e0, e3, Int.reduceEq, hdv]
      refine hG6 _ _ [] [] ?_ (by simp) (by simp) (by simp) ⟨f, q / 10, dig q ++ out, rfl, (by first | rfl | (simp (disch := omega) only [go_sem, ↓reduceIte, Nat.reduceEqDiff, reduceCtorEq, Nat.reduceAdd, Nat.reduceLeDiff, Nat.reduceMul, Int.reduceNeg, Int.reduceLT, Int.reduceAdd, Int.reduceSub, e0, e3, gc_σ, locObs, Ob.loc, V.loc, V.locs, idx]; done) | (simp [gc_σ, locObs, Ob.loc, V.loc, Function.comp_def, List.take_of_length_le]; done)), (by first | rfl | (simp (disch := omega) only [go_sem, ↓reduceIte, Nat.reduceEqDiff, reduceCtorEq, Nat.reduceAdd, Nat.reduceLeDiff, Nat.reduceMul, Int.reduceNeg, Int.reduceLT, Int.reduceAdd, Int.reduceSub, e0, e3, gc_env, V.loc, V.locs, idx]; done) | (simp (disch := omega) only [go_sem, ↓reduceIte, Nat.reduceEqDiff, reduceCtorEq, Nat.reduceAdd, Nat.reduceLeDiff, Nat.reduceMul, Int.reduceNeg, Int.reduceLT, Int.reduceAdd, Int.reduceSub, e0, e3, gc_env, V.loc, V.locs, idx]; simp; done)), (by first | rfl | (simp (disch := omega) only [go_sem, ↓reduceIte, Nat.reduceEqDiff, reduceCtorEq, Nat.reduceAdd, Nat.reduceLeDiff, Nat.reduceMul, Int.reduceNeg, Int.reduceLT, Int.reduceAdd, Int.reduceSub, e0, e3, gc_env, V.loc, V.locs, idx]; done) | (simp (disch := omega) only [go_sem, ↓reduceIte, Nat.reduceEqDiff, reduceCtorEq, Nat.reduceAdd, Nat.reduceLeDiff, Nat.reduceMul, Int.reduceNeg, Int.reduceLT, Int.reduceAdd, Int.reduceSub, e0, e3, gc_env, V.loc, V.locs, idx]; simp; done)), ?_, ?_, ?_⟩
      · omega
      · omega
      · rw [← hq, mgo, if_neg (by omega)]
      · rw [ByteArray.size_append, dig, strOfNums_size, List.length_singleton]; omega
    · (try simp only [go_sem] at hc2)
      refine vc_exit ?_
      refine hK5 _ ?_
      refine vc_seq fun K10 hK10 => ?_
      obtain rfl : q = 0 := by omega
      rw [mgo_zero] at hq
      have hz : ¬ (IntKind.i64.max < ((((⟨#[109]⟩ : ByteArray).size + out.size : Nat)) : Int)) := by rw [i64max]; show ¬ ((9223372036854775807 : Int) < ((1 + out.size : Nat) : Int)); omega
      refine vc_reg ?_
      try simp (disch := omega) only [go_sem, ↓reduceIte, Nat.reduceEqDiff, reduceCtorEq, Nat.reduceAdd, Nat.reduceLeDiff, Nat.reduceMul, Int.reduceNeg, Int.reduceLT, Int.reduceAdd, Int.reduceSub, e0, e3, hz]
      refine hK10 _ ?_
      refine vc_ret ?_
      refine ⟨_, by first | rfl | (simp only [go_sem, resQ, List.mapM_cons, List.mapM_nil, ↓reduceIte, Nat.reduceEqDiff, Nat.reduceAdd, Nat.reduceLeDiff, reduceCtorEq]; rfl), [], [], .nil, by simp, by simp, fun hi_ h1_ => ⟨?_, rfl, rfl⟩, by simp⟩
      rw [mtx, ← hq]; rfl

/-- laws.toStringS -/
theorem laws_toStringS_o (g : Nat) (xs : List ByteArray) (hx : xs.length < 2^40) : OCtr Try.prog 106 [.t (.sl g (Ts xs))] (fun s ts => s = .one ∧ ∃ g', ts = [.sl g' (Ts xs)]) := by
  unfold OCtr
  refine Ctr.of_vc (rs := [.tmp 2]) (fn := Try.f106) mixed Try.func106 rfl rfl (by kernel_rfl) (by kernel_rfl) (by simp [Try.ntmps106]) (fun h0 => ?_)
  refine vc_seq fun K1 hK1 => ?_
  refine vc_reg ?_
  try simp (disch := omega) only [go_sem, ↓reduceIte, Nat.reduceEqDiff, reduceCtorEq, Nat.reduceAdd, Nat.reduceLeDiff, Nat.reduceMul, Int.reduceNeg, Int.reduceLT, Int.reduceAdd, Int.reduceSub]
  refine hK1 _ ?_
  refine vc_seq fun K2 hK2 => ?_
  refine vc_reg ?_
  try simp (disch := omega) only [go_sem, ↓reduceIte, Nat.reduceEqDiff, reduceCtorEq, Nat.reduceAdd, Nat.reduceLeDiff, Nat.reduceMul, Int.reduceNeg, Int.reduceLT, Int.reduceAdd, Int.reduceSub, Int.toNat_natCast, Ts_len]
  refine ⟨by simp [mkOk]; omega, fun g1_2 hg1_2 => ?_⟩
  try simp (disch := omega) only [go_sem, ↓reduceIte, Nat.reduceEqDiff, reduceCtorEq, Nat.reduceAdd, Nat.reduceLeDiff, Nat.reduceMul, Int.reduceNeg, Int.reduceLT, Int.reduceAdd, Int.reduceSub, Int.toNat_natCast, Ts_len]
  refine hK2 _ ?_
  refine vc_seq fun K3 hK3 => ?_
  refine vc_seq fun K4 hK4 => ?_
  refine vc_reg ?_
  try simp (disch := omega) only [go_sem, ↓reduceIte, Nat.reduceEqDiff, reduceCtorEq, Nat.reduceAdd, Nat.reduceLeDiff, Nat.reduceMul, Int.reduceNeg, Int.reduceLT, Int.reduceAdd, Int.reduceSub]
  refine hK4 _ ?_
  refine vc_block ?_
  refine vc_loop (fun m s => ∃ (n g' : Nat) (acc : List (List V)), (m = xs.length - n) ∧ (s.σ = [.row g' 0 1 (xs.length * 1) (acc ++ List.replicate (xs.length - n) [V.t (.str ⟨#[]⟩)])]) ∧ (s.env 0 = .t (.sl g (Ts xs))) ∧ (s.env 3 = .own 0 0 0 xs.length) ∧ (s.env 4 = .t (.int .i64 n)) ∧ (n ≤ xs.length) ∧ (acc = Vs (xs.take n))) (xs.length - 0) ⟨0, g1_2, [], rfl, (by first | rfl | simp), (by first | rfl | assumption | (simp (disch := omega) only [go_sem, ↓reduceIte, Nat.reduceEqDiff, reduceCtorEq, Nat.reduceAdd, Nat.reduceLeDiff, Nat.reduceMul, Int.reduceNeg, Int.reduceLT, Int.reduceAdd, Int.reduceSub])), (by first | rfl | assumption | (simp (disch := omega) only [go_sem, ↓reduceIte, Nat.reduceEqDiff, reduceCtorEq, Nat.reduceAdd, Nat.reduceLeDiff, Nat.reduceMul, Int.reduceNeg, Int.reduceLT, Int.reduceAdd, Int.reduceSub])), (by first | rfl | assumption | (simp (disch := omega) only [go_sem, ↓reduceIte, Nat.reduceEqDiff, reduceCtorEq, Nat.reduceAdd, Nat.reduceLeDiff, Nat.reduceMul, Int.reduceNeg, Int.reduceLT, Int.reduceAdd, Int.reduceSub])), (by first | rfl | omega | simp), (by first | rfl | omega | simp)⟩ ?_
  rintro m ⟨e, σ, h⟩ ⟨n, g', acc, hm, hσ, e0, e3, e4, hn, ha⟩ K5 hK5
  simp only at hσ e0 e3 e4
  subst hσ
  refine vc_seq fun K6 hK6 => ?_
  refine vc_seq fun K7 hK7 => ?_
  refine vc_reg ?_
  try simp (disch := omega) only [go_sem, ↓reduceIte, Nat.reduceEqDiff, reduceCtorEq, Nat.reduceAdd, Nat.reduceLeDiff, Nat.reduceMul, Int.reduceNeg, Int.reduceLT, Int.reduceAdd, Int.reduceSub, e0, e3, e4, Ts_len]
  refine hK7 _ ?_
  refine vc_cond (t := _) (by first | rfl | (simp (disch := omega) only [go_sem, ↓reduceIte, Nat.reduceEqDiff, reduceCtorEq, Nat.reduceAdd, Nat.reduceLeDiff, Nat.reduceMul, Int.reduceNeg, Int.reduceLT, Int.reduceAdd, Int.reduceSub, e0, e3, e4]; rfl)) (fun hc1 => ?_) (fun hc1 => ?_)
  · (try simp only [go_sem] at hc1)
    refine vc_skip ?_
    refine hK6 _ ?_
    refine vc_seq fun K8 hK8 => ?_
    refine vc_block ?_
    have hlt : n < xs.length := by omega
    have hgx : (Ts xs)[n]? = some [T.str xs[n]] := by rw [Ts, List.getElem?_map, List.getElem?_eq_getElem hlt]; rfl
    have hal : acc.length = n := by rw [ha, Vs_len]; simp; omega
    have hget := fill_get acc (xs.length - n) [V.t (.str ⟨#[]⟩)] (by omega)
    have hset := fill_set acc (xs.length - n) [V.t (.str ⟨#[]⟩)] [V.t (.str xs[n])] (by omega)
    rw [hal] at hget hset
    have hsub : xs.length - n - 1 = xs.length - (n + 1) := by omega
    rw [hsub] at hset
    refine vc_reg ?_
    try simp (disch := omega) only [go_sem, ↓reduceIte, Nat.reduceEqDiff, reduceCtorEq, Nat.reduceAdd, Nat.reduceLeDiff, Nat.reduceMul, Int.reduceNeg, Int.reduceLT, Int.reduceAdd, Int.reduceSub, e0, e3, e4, hgx, hget, hset, show n < xs.length by omega]
    refine hK8 _ ?_
    refine vc_reg ?_
    try simp (disch := omega) only [go_sem, ↓reduceIte, Nat.reduceEqDiff, reduceCtorEq, Nat.reduceAdd, Nat.reduceLeDiff, Nat.reduceMul, Int.reduceNeg, Int.reduceLT, Int.reduceAdd, Int.reduceSub, e0, e3, e4]
    refine hK5 _ _ ?_ ⟨n + 1, g', acc ++ [[V.t (.str xs[n])]], rfl, (by first | rfl | simp), (by first | rfl | assumption | (simp (disch := omega) only [go_sem, ↓reduceIte, Nat.reduceEqDiff, reduceCtorEq, Nat.reduceAdd, Nat.reduceLeDiff, Nat.reduceMul, Int.reduceNeg, Int.reduceLT, Int.reduceAdd, Int.reduceSub, e0, e3, e4])), (by first | rfl | assumption | (simp (disch := omega) only [go_sem, ↓reduceIte, Nat.reduceEqDiff, reduceCtorEq, Nat.reduceAdd, Nat.reduceLeDiff, Nat.reduceMul, Int.reduceNeg, Int.reduceLT, Int.reduceAdd, Int.reduceSub, e0, e3, e4])), (by first | rfl | assumption | (simp (disch := omega) only [go_sem, ↓reduceIte, Nat.reduceEqDiff, reduceCtorEq, Nat.reduceAdd, Nat.reduceLeDiff, Nat.reduceMul, Int.reduceNeg, Int.reduceLT, Int.reduceAdd, Int.reduceSub, e0, e3, e4])), ?_, ?_⟩
    · omega
    · first | omega | assumption | rfl | simp_all
    · rw [ha, List.take_add_one, List.getElem?_eq_getElem (by omega), Vs_app]; rfl
  · (try simp only [go_sem] at hc1)
    refine vc_exit ?_
    refine hK3 _ ?_
    refine vc_seq fun K9 hK9 => ?_
    refine vc_reg ?_
    try simp (disch := omega) only [go_sem, ↓reduceIte, Nat.reduceEqDiff, reduceCtorEq, Nat.reduceAdd, Nat.reduceLeDiff, Nat.reduceMul, Int.reduceNeg, Int.reduceLT, Int.reduceAdd, Int.reduceSub, e0, e3, e4]
    refine hK9 _ ?_
    refine vc_ret ?_
    have hfin : acc ++ List.replicate (xs.length - n) [V.t (.str ⟨#[]⟩)] = Vs xs := by rw [show xs.length - n = 0 by omega, ha, List.take_of_length_le (by omega)]; simp
    rw [hfin]
    refine retO (h0 := h0) (Q := (fun s ts => s = .one ∧ ∃ g', ts = [.sl g' (Ts xs)])) .one (ds := [.ow g' 1 (Ds xs)]) (S := [0]) (ws := [.own 0 0 0 xs.length]) rfl rfl trivial (TrL_one ?_) ⟨rfl, g', by rw [D.erL, D.erL, D.er, Ds_er]⟩
    rw [Tr]
    exact ⟨0, 0, _, Vs xs, [], rfl, by simp, by rw [Vs_len], rfl, TrLL_Ds xs, Vs_1 xs⟩
end Go.Proofs.Ytldhhppfnhgcdaa
