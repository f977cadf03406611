/- Walks through the code: each function's contract. -/
import Derived.Test.YtldhhppfnhgcdaaGreatWB3Q
import Derived.Test.YtldhhppfnhgcdaaGreatWQQ
import Derived.Test.YtldhhppfnhgcdaaGreatWFQ
set_option linter.unusedVariables false
set_option linter.unusedSimpArgs false
set_option maxRecDepth 8000
namespace Go.Proofs.YtldhhppfnhgcdaaGreat
open Go Go.VL

/-- Is the left side of a rule right? -/
def headOk (x : Ru) : Bool :=
  !((decide (x.cn = ⟨#[]⟩) && decide (0 < x.vs.length)) || (!decide (x.cn = ⟨#[]⟩) && !conOk x.cn)) && (nameOk x.nm && (decide ((x.vs.length : Int) ≤ 5) && (decide ((x.ps.length : Int) ≤ 4) && (dst (x.vs ++ x.ps) && (x.vs ++ x.ps).all nameOk))))
theorem Vs_of2 (xs : List ByteArray) : (xs.map fun s => [T.str s]).map (·.map V.t) = Vs xs := Ts_V xs
theorem any_fi {α : Type} {p : α → Bool} : ∀ (l : List α) (i : Int), 0 ≤ i → (decide (0 ≤ fi p i l) = l.any p)
  | [], i, _ => rfl
  | a :: l, i, hi => by
    rw [fi, List.any_cons]
    split
    · rename_i h; rw [decide_eq_true hi, h]; rfl
    · rename_i h
      rw [any_fi l (i + 1) (by omega), show p a = false by simpa using h, Bool.false_or]
theorem any_not {α : Type} {p : α → Bool} (l : List α) : (!l.any fun a => !p a) = l.all p := by
  induction l with
  | nil => rfl
  | cons a l ih => simp only [List.any_cons, List.all_cons, Bool.not_or, Bool.not_not, ih]
theorem all_drop {α : Type} {p : α → Bool} {l : List α} {n : Nat} (h : n < l.length) : (l.drop n).all p = (p l[n] && (l.drop (n + 1)).all p) := by rw [drop_get h, List.all_cons]
theorem sumB_mem : ∀ {l : List ByteArray} {s : ByteArray}, s ∈ l → s.size ≤ sumB l
  | [], s, h => by cases h
  | x :: l, s, h => by
    rw [sumB]
    rcases List.mem_cons.1 h with rfl | h
    · omega
    · have := sumB_mem h; omega
theorem Ts_get {xs : List ByteArray} {n : Nat} (h : n < xs.length) : (Ts xs)[n]? = some [T.str xs[n]] := by rw [Ts, List.getElem?_map, List.getElem?_eq_getElem h]; rfl
theorem Ru.names_size {x : Ru} (hw : x.wt ≤ 1048576) : ∀ s ∈ x.vs ++ x.ps, s.size < 2^40 := fun s hs => by
  rw [Ru.wt] at hw
  rcases List.mem_append.1 hs with h | h
  · have := sumB_mem h; omega
  · have := sumB_mem h; omega

/-- slices.IndexFunc[[]string,string] -/
theorem slices_IndexFunc_string (g f : Nat) (p : ByteArray → Bool) (xs : List ByteArray) (hl : xs.length < 2^40) (hf : ∀ a ∈ xs, FCtr Tryz.prog f [.t (.str a)] (fun r => r = .t (.bool (p a)))) : FCtr Tryz.prog 88 [.t (.sl g (Ts xs)), .fn f []] (fun r => r = .t (.int .i64 (fi p 0 xs))) := by
  refine Ctr.of_vc (rs := [.tmp 4]) (fn := Tryz.f88) mixed Tryz.func88 rfl rfl (by kernel_rfl) (by kernel_rfl) (by simp [Tryz.ntmps88]) (fun h0 => ?_)
  refine vc_seq fun K1 hK1 => ?_
  refine vc_reg ?_
  try simp (disch := omega) only [go_sem, ↓reduceIte, Nat.reduceEqDiff, reduceCtorEq, Nat.reduceAdd, Nat.reduceLeDiff, Nat.reduceMul, Int.reduceNeg, Int.reduceLT, Int.reduceAdd, Int.reduceSub, Ts_len]
  refine hK1 _ ?_
  refine vc_seq fun K2 hK2 => ?_
  refine vc_seq fun K3 hK3 => ?_
  refine vc_reg ?_
  try simp (disch := omega) only [go_sem, ↓reduceIte, Nat.reduceEqDiff, reduceCtorEq, Nat.reduceAdd, Nat.reduceLeDiff, Nat.reduceMul, Int.reduceNeg, Int.reduceLT, Int.reduceAdd, Int.reduceSub, Ts_len]
  refine hK3 _ ?_
  refine vc_block ?_
  refine vc_loop (fun m s => ∃ (n : Nat), (m = xs.length - n) ∧ (s.σ = []) ∧ (s.env 0 = .t (.sl g (Ts xs))) ∧ (s.env 1 = .fn f []) ∧ (s.env 7 = .t (.int .i64 xs.length)) ∧ (s.env 8 = .t (.int .i64 n)) ∧ (n ≤ xs.length) ∧ (fi p 0 xs = fi p n (xs.drop n))) (xs.length - 0) ⟨0, rfl, rfl, (by first | rfl | assumption), (by first | rfl | assumption), (by first | rfl | assumption), (by first | rfl | assumption), (by first | rfl | omega | simp), (by first | rfl | omega | simp)⟩ ?_
  rintro m ⟨e, σ, h⟩ ⟨n, hm, hσ, e0, e1, e7, e8, hn, hx⟩ K4 hK4
  simp only at hσ e0 e1 e7 e8
  subst hσ
  refine vc_seq fun K5 hK5 => ?_
  refine vc_reg ?_
  try simp (disch := omega) only [go_sem, ↓reduceIte, Nat.reduceEqDiff, reduceCtorEq, Nat.reduceAdd, Nat.reduceLeDiff, Nat.reduceMul, Int.reduceNeg, Int.reduceLT, Int.reduceAdd, Int.reduceSub, e0, e1, e7, e8, Ts_len]
  refine hK5 _ ?_
  refine vc_seq fun K6 hK6 => ?_
  refine vc_cond (t := _) rfl (fun hc1 => ?_) (fun hc1 => ?_)
  · (try simp only [go_sem] at hc1)
    refine vc_skip ?_
    refine hK6 _ ?_
    refine vc_seq fun K7 hK7 => ?_
    refine vc_block ?_
    refine vc_seq fun K8 hK8 => ?_
    refine vc_reg ?_
    try simp (disch := omega) only [go_sem, ↓reduceIte, Nat.reduceEqDiff, reduceCtorEq, Nat.reduceAdd, Nat.reduceLeDiff, Nat.reduceMul, Int.reduceNeg, Int.reduceLT, Int.reduceAdd, Int.reduceSub, e0, e1, e7, e8, Ts_len]
    refine hK8 _ ?_
    refine vc_seq fun K9 hK9 => ?_
    have hlt : n < xs.length := by omega
    have hget := Ts_get hlt
    refine vc_reg ?_
    try simp (disch := omega) only [go_sem, ↓reduceIte, Nat.reduceEqDiff, reduceCtorEq, Nat.reduceAdd, Nat.reduceLeDiff, Nat.reduceMul, Int.reduceNeg, Int.reduceLT, Int.reduceAdd, Int.reduceSub, e0, e1, e7, e8, Ts_len, hget]
    refine vcX_call _ _ (hf _ (List.getElem_mem hlt)) rfl rfl (by first | rfl | simp [V.pures, V.pure, V.pures_t]) ?_
    rintro r4_5 h4_5 hh4_5 rfl -
    try simp (disch := omega) only [go_sem, ↓reduceIte, Nat.reduceEqDiff, reduceCtorEq, Nat.reduceAdd, Nat.reduceLeDiff, Nat.reduceMul, Int.reduceNeg, Int.reduceLT, Int.reduceAdd, Int.reduceSub, e0, e1, e7, e8, Ts_len, hget]
    refine hK9 _ ?_
    refine vc_cond (t := _) rfl (fun hc2 => ?_) (fun hc2 => ?_)
    · (try simp only [go_sem] at hc2)
      refine vc_seq fun K10 hK10 => ?_
      refine vc_reg ?_
      try simp (disch := omega) only [go_sem, ↓reduceIte, Nat.reduceEqDiff, reduceCtorEq, Nat.reduceAdd, Nat.reduceLeDiff, Nat.reduceMul, Int.reduceNeg, Int.reduceLT, Int.reduceAdd, Int.reduceSub, e0, e1, e7, e8, Ts_len]
      refine hK10 _ ?_
      refine vc_ret ?_
      refine ⟨_, by first | rfl | (simp only [go_sem, resQ, List.mapM_cons, List.mapM_nil, ↓reduceIte, Nat.reduceEqDiff, Nat.reduceAdd, Nat.reduceLeDiff, reduceCtorEq]; rfl), [], [], .nil, by simp, by simp, fun hi_ h1_ => ⟨?_, rfl, rfl⟩, by simp⟩
      rw [hx, fi_drop (by omega), if_pos (by simpa using hc2)]; rfl
    · (try simp only [go_sem] at hc2)
      refine vc_skip ?_
      refine hK7 _ ?_
      refine vc_reg ?_
      try simp (disch := omega) only [go_sem, ↓reduceIte, Nat.reduceEqDiff, reduceCtorEq, Nat.reduceAdd, Nat.reduceLeDiff, Nat.reduceMul, Int.reduceNeg, Int.reduceLT, Int.reduceAdd, Int.reduceSub, e0, e1, e7, e8, Ts_len]
      refine hK4 _ _ ?_ ⟨n + 1, rfl, rfl, (by first | rfl | assumption), (by first | rfl | assumption), (by first | rfl | assumption), (by first | rfl | assumption), ?_, ?_⟩
      · omega
      · first | omega | assumption | rfl | simp_all
      · rw [hx, fi_drop (by omega), if_neg (by simpa using hc2)]; rfl
  · (try simp only [go_sem] at hc1)
    refine vc_exit ?_
    refine hK2 _ ?_
    refine vc_seq fun K11 hK11 => ?_
    refine vc_reg ?_
    try simp (disch := omega) only [go_sem, ↓reduceIte, Nat.reduceEqDiff, reduceCtorEq, Nat.reduceAdd, Nat.reduceLeDiff, Nat.reduceMul, Int.reduceNeg, Int.reduceLT, Int.reduceAdd, Int.reduceSub, e0, e1, e7, e8, Ts_len]
    refine hK11 _ ?_
    refine vc_ret ?_
    refine ⟨_, by first | rfl | (simp only [go_sem, resQ, List.mapM_cons, List.mapM_nil, ↓reduceIte, Nat.reduceEqDiff, Nat.reduceAdd, Nat.reduceLeDiff, reduceCtorEq]; rfl), [], [], .nil, by simp, by simp, fun hi_ h1_ => ⟨?_, rfl, rfl⟩, by simp⟩
    rw [hx, List.drop_of_length_le (by omega), fi]; rfl

/-- slices.ContainsFunc[[]string,string] -/
theorem slices_ContainsFunc_string (g f : Nat) (p : ByteArray → Bool) (xs : List ByteArray) (hl : xs.length < 2^40) (hf : ∀ a ∈ xs, FCtr Tryz.prog f [.t (.str a)] (fun r => r = .t (.bool (p a)))) : FCtr Tryz.prog 51 [.t (.sl g (Ts xs)), .fn f []] (fun r => r = .t (.bool (xs.any p))) := by
  refine Ctr.of_vc (rs := [.tmp 4]) (fn := Tryz.f51) mixed Tryz.func51 rfl rfl (by kernel_rfl) (by kernel_rfl) (by simp [Tryz.ntmps51]) (fun h0 => ?_)
  refine vc_seq fun K1 hK1 => ?_
  refine vc_reg ?_
  try simp (disch := omega) only [go_sem, ↓reduceIte, Nat.reduceEqDiff, reduceCtorEq, Nat.reduceAdd, Nat.reduceLeDiff, Nat.reduceMul, Int.reduceNeg, Int.reduceLT, Int.reduceAdd, Int.reduceSub]
  refine hK1 _ ?_
  refine vc_seq fun K2 hK2 => ?_
  refine vc_reg ?_
  try simp (disch := omega) only [go_sem, ↓reduceIte, Nat.reduceEqDiff, reduceCtorEq, Nat.reduceAdd, Nat.reduceLeDiff, Nat.reduceMul, Int.reduceNeg, Int.reduceLT, Int.reduceAdd, Int.reduceSub]
  refine vcX_call _ _ (slices_IndexFunc_string g f p xs hl hf) rfl rfl (by first | rfl | simp [V.pures, V.pure, V.pures_t]) ?_
  rintro r1_2 h1_2 hh1_2 rfl -
  try simp (disch := omega) only [go_sem, ↓reduceIte, Nat.reduceEqDiff, reduceCtorEq, Nat.reduceAdd, Nat.reduceLeDiff, Nat.reduceMul, Int.reduceNeg, Int.reduceLT, Int.reduceAdd, Int.reduceSub]
  refine hK2 _ ?_
  refine vc_ret ?_
  refine ⟨_, by first | rfl | (simp only [go_sem, resQ, List.mapM_cons, List.mapM_nil, ↓reduceIte, Nat.reduceEqDiff, Nat.reduceAdd, Nat.reduceLeDiff, reduceCtorEq]; rfl), [], [], .nil, by simp, by simp, fun hi_ h1_ => ⟨?_, rfl, rfl⟩, by simp⟩
  rw [← any_fi xs 0 (by omega)]; rfl

/-- impl.isHead$1 -/
theorem impl_isHead_1 (s : ByteArray) (hs : s.size < 2^40) : FCtr Tryz.prog 52 [.t (.str s)] (fun r => r = .t (.bool (!nameOk s))) := by
  refine Ctr.of_vc (rs := [.tmp 2]) (fn := Tryz.f52) mixed Tryz.func52 rfl rfl (by kernel_rfl) (by kernel_rfl) (by simp [Tryz.ntmps52]) (fun h0 => ?_)
  refine vc_seq fun K1 hK1 => ?_
  refine vc_reg ?_
  try simp (disch := omega) only [go_sem, ↓reduceIte, Nat.reduceEqDiff, reduceCtorEq, Nat.reduceAdd, Nat.reduceLeDiff, Nat.reduceMul, Int.reduceNeg, Int.reduceLT, Int.reduceAdd, Int.reduceSub]
  refine hK1 _ ?_
  refine vc_seq fun K2 hK2 => ?_
  refine vc_reg ?_
  try simp (disch := omega) only [go_sem, ↓reduceIte, Nat.reduceEqDiff, reduceCtorEq, Nat.reduceAdd, Nat.reduceLeDiff, Nat.reduceMul, Int.reduceNeg, Int.reduceLT, Int.reduceAdd, Int.reduceSub]
  refine vcX_call _ _ (impl_IsName s hs) rfl rfl (by first | rfl | simp [V.pures, V.pure, V.pures_t]) ?_
  rintro r1_1 h1_1 hh1_1 rfl -
  try simp (disch := omega) only [go_sem, ↓reduceIte, Nat.reduceEqDiff, reduceCtorEq, Nat.reduceAdd, Nat.reduceLeDiff, Nat.reduceMul, Int.reduceNeg, Int.reduceLT, Int.reduceAdd, Int.reduceSub]
  refine hK2 _ ?_
  refine vc_ret ?_
  refine ⟨_, by first | rfl | (simp only [go_sem, resQ, List.mapM_cons, List.mapM_nil, ↓reduceIte, Nat.reduceEqDiff, Nat.reduceAdd, Nat.reduceLeDiff, reduceCtorEq]; rfl), [], [], .nil, by simp, by simp, fun hi_ h1_ => ⟨?_, rfl, rfl⟩, by simp⟩
  first | rfl | simp_all

/-- spec.l5Names -/
theorem spec_l5Names (g : Nat) (xs : List ByteArray) (hl : xs.length < 2^40) (hs : ∀ s ∈ xs, s.size < 2^40) : FCtr Tryz.prog 74 [.t (.sl g (Ts xs))] (fun r => r = .t (.bool (xs.all nameOk))) := by
  refine Ctr.of_vc (rs := [.tmp 2]) (fn := Tryz.f74) mixed Tryz.func74 rfl rfl (by kernel_rfl) (by kernel_rfl) (by simp [Tryz.ntmps74]) (fun h0 => ?_)
  refine vc_seq fun K1 hK1 => ?_
  refine vc_reg ?_
  try simp (disch := omega) only [go_sem, ↓reduceIte, Nat.reduceEqDiff, reduceCtorEq, Nat.reduceAdd, Nat.reduceLeDiff, Nat.reduceMul, Int.reduceNeg, Int.reduceLT, Int.reduceAdd, Int.reduceSub, Ts_len]
  refine hK1 _ ?_
  refine vc_seq fun K2 hK2 => ?_
  refine vc_seq fun K3 hK3 => ?_
  refine vc_reg ?_
  try simp (disch := omega) only [go_sem, ↓reduceIte, Nat.reduceEqDiff, reduceCtorEq, Nat.reduceAdd, Nat.reduceLeDiff, Nat.reduceMul, Int.reduceNeg, Int.reduceLT, Int.reduceAdd, Int.reduceSub, Ts_len]
  refine hK3 _ ?_
  refine vc_block ?_
  refine vc_loop (fun m s => ∃ (n : Nat), (m = xs.length - n) ∧ (s.σ = []) ∧ (s.env 0 = .t (.sl g (Ts xs))) ∧ (s.env 3 = .t (.int .i64 n)) ∧ (n ≤ xs.length) ∧ (xs.all nameOk = (xs.drop n).all nameOk)) (xs.length - 0) ⟨0, rfl, rfl, (by first | rfl | assumption), (by first | rfl | assumption), (by first | rfl | omega | simp), (by rfl)⟩ ?_
  rintro m ⟨e, σ, h⟩ ⟨n, hm, hσ, e0, e3, hn, hx⟩ K4 hK4
  simp only at hσ e0 e3
  subst hσ
  refine vc_seq fun K5 hK5 => ?_
  refine vc_seq fun K6 hK6 => ?_
  refine vc_reg ?_
  try simp (disch := omega) only [go_sem, ↓reduceIte, Nat.reduceEqDiff, reduceCtorEq, Nat.reduceAdd, Nat.reduceLeDiff, Nat.reduceMul, Int.reduceNeg, Int.reduceLT, Int.reduceAdd, Int.reduceSub, e0, e3, Ts_len]
  refine hK6 _ ?_
  refine vc_cond (t := _) rfl (fun hc1 => ?_) (fun hc1 => ?_)
  · (try simp only [go_sem] at hc1)
    refine vc_skip ?_
    refine hK5 _ ?_
    refine vc_seq fun K7 hK7 => ?_
    refine vc_block ?_
    refine vc_seq fun K8 hK8 => ?_
    have hlt : n < xs.length := by omega
    have hget := Ts_get hlt
    refine vc_reg ?_
    try simp (disch := omega) only [go_sem, ↓reduceIte, Nat.reduceEqDiff, reduceCtorEq, Nat.reduceAdd, Nat.reduceLeDiff, Nat.reduceMul, Int.reduceNeg, Int.reduceLT, Int.reduceAdd, Int.reduceSub, e0, e3, Ts_len, hget]
    refine vcX_call _ _ (spec_IsName xs[n] (hs _ (List.getElem_mem hlt))) rfl rfl (by first | rfl | simp [V.pures, V.pure, V.pures_t]) ?_
    rintro r4_4 h4_4 hh4_4 rfl -
    try simp (disch := omega) only [go_sem, ↓reduceIte, Nat.reduceEqDiff, reduceCtorEq, Nat.reduceAdd, Nat.reduceLeDiff, Nat.reduceMul, Int.reduceNeg, Int.reduceLT, Int.reduceAdd, Int.reduceSub, e0, e3, Ts_len, hget]
    refine hK8 _ ?_
    refine vc_cond (t := _) rfl (fun hc2 => ?_) (fun hc2 => ?_)
    · (try simp only [go_sem] at hc2)
      refine vc_seq fun K9 hK9 => ?_
      refine vc_reg ?_
      try simp (disch := omega) only [go_sem, ↓reduceIte, Nat.reduceEqDiff, reduceCtorEq, Nat.reduceAdd, Nat.reduceLeDiff, Nat.reduceMul, Int.reduceNeg, Int.reduceLT, Int.reduceAdd, Int.reduceSub, e0, e3, Ts_len]
      refine hK9 _ ?_
      refine vc_ret ?_
      refine ⟨_, by first | rfl | (simp only [go_sem, resQ, List.mapM_cons, List.mapM_nil, ↓reduceIte, Nat.reduceEqDiff, Nat.reduceAdd, Nat.reduceLeDiff, reduceCtorEq]; rfl), [], [], .nil, by simp, by simp, fun hi_ h1_ => ⟨?_, rfl, rfl⟩, by simp⟩
      rw [hx, all_drop hlt, (by simpa using hc2 : nameOk xs[n] = false), Bool.false_and]; rfl
    · (try simp only [go_sem] at hc2)
      refine vc_skip ?_
      refine hK7 _ ?_
      refine vc_reg ?_
      try simp (disch := omega) only [go_sem, ↓reduceIte, Nat.reduceEqDiff, reduceCtorEq, Nat.reduceAdd, Nat.reduceLeDiff, Nat.reduceMul, Int.reduceNeg, Int.reduceLT, Int.reduceAdd, Int.reduceSub, e0, e3, Ts_len]
      refine hK4 _ _ ?_ ⟨n + 1, rfl, rfl, (by first | rfl | assumption), (by first | rfl | assumption), ?_, ?_⟩
      · omega
      · first | omega | assumption | rfl | simp_all
      · rw [hx, all_drop hlt, (by simpa using hc2 : nameOk xs[n] = true), Bool.true_and]
  · (try simp only [go_sem] at hc1)
    refine vc_exit ?_
    refine hK2 _ ?_
    refine vc_seq fun K10 hK10 => ?_
    refine vc_reg ?_
    try simp (disch := omega) only [go_sem, ↓reduceIte, Nat.reduceEqDiff, reduceCtorEq, Nat.reduceAdd, Nat.reduceLeDiff, Nat.reduceMul, Int.reduceNeg, Int.reduceLT, Int.reduceAdd, Int.reduceSub, e0, e3, Ts_len]
    refine hK10 _ ?_
    refine vc_ret ?_
    refine ⟨_, by first | rfl | (simp only [go_sem, resQ, List.mapM_cons, List.mapM_nil, ↓reduceIte, Nat.reduceEqDiff, Nat.reduceAdd, Nat.reduceLeDiff, reduceCtorEq]; rfl), [], [], .nil, by simp, by simp, fun hi_ h1_ => ⟨?_, rfl, rfl⟩, by simp⟩
    rw [hx, List.drop_of_length_le (by omega)]; rfl

/-- spec.l5Within -/
theorem spec_l5Within (g g2 : Nat) (xs ys : List ByteArray) (hx : xs.length < 2^40) (hy : ys.length < 2^40) : FCtr Tryz.prog 39 [.t (.sl g (Ts xs)), .t (.sl g2 (Ts ys))] (fun r => r = .t (.bool (xs.all fun s => decide (0 ≤ ix s 0 ys)))) := by
  refine Ctr.of_vc (rs := [.tmp 4]) (fn := Tryz.f39) mixed Tryz.func39 rfl rfl (by kernel_rfl) (by kernel_rfl) (by simp [Tryz.ntmps39]) (fun h0 => ?_)
  refine vc_seq fun K1 hK1 => ?_
  refine vc_reg ?_
  try simp (disch := omega) only [go_sem, ↓reduceIte, Nat.reduceEqDiff, reduceCtorEq, Nat.reduceAdd, Nat.reduceLeDiff, Nat.reduceMul, Int.reduceNeg, Int.reduceLT, Int.reduceAdd, Int.reduceSub, Ts_len]
  refine hK1 _ ?_
  refine vc_seq fun K2 hK2 => ?_
  refine vc_seq fun K3 hK3 => ?_
  refine vc_reg ?_
  try simp (disch := omega) only [go_sem, ↓reduceIte, Nat.reduceEqDiff, reduceCtorEq, Nat.reduceAdd, Nat.reduceLeDiff, Nat.reduceMul, Int.reduceNeg, Int.reduceLT, Int.reduceAdd, Int.reduceSub, Ts_len]
  refine hK3 _ ?_
  refine vc_block ?_
  refine vc_loop (fun m s => ∃ (n : Nat), (m = xs.length - n) ∧ (s.σ = []) ∧ (s.env 0 = .t (.sl g (Ts xs))) ∧ (s.env 1 = .t (.sl g2 (Ts ys))) ∧ (s.env 5 = .t (.int .i64 n)) ∧ (n ≤ xs.length) ∧ ((xs.all fun s => decide (0 ≤ ix s 0 ys)) = (xs.drop n).all fun s => decide (0 ≤ ix s 0 ys))) (xs.length - 0) ⟨0, rfl, rfl, (by first | rfl | assumption), (by first | rfl | assumption), (by first | rfl | assumption), (by first | rfl | omega | simp), (by rfl)⟩ ?_
  rintro m ⟨e, σ, h⟩ ⟨n, hm, hσ, e0, e1, e5, hn, hw⟩ K4 hK4
  simp only at hσ e0 e1 e5
  subst hσ
  refine vc_seq fun K5 hK5 => ?_
  refine vc_seq fun K6 hK6 => ?_
  refine vc_reg ?_
  try simp (disch := omega) only [go_sem, ↓reduceIte, Nat.reduceEqDiff, reduceCtorEq, Nat.reduceAdd, Nat.reduceLeDiff, Nat.reduceMul, Int.reduceNeg, Int.reduceLT, Int.reduceAdd, Int.reduceSub, e0, e1, e5, Ts_len]
  refine hK6 _ ?_
  refine vc_cond (t := _) rfl (fun hc1 => ?_) (fun hc1 => ?_)
  · (try simp only [go_sem] at hc1)
    refine vc_skip ?_
    refine hK5 _ ?_
    refine vc_seq fun K7 hK7 => ?_
    refine vc_block ?_
    refine vc_seq fun K8 hK8 => ?_
    have hlt : n < xs.length := by omega
    have hget := Ts_get hlt
    refine vc_reg ?_
    try simp (disch := omega) only [go_sem, ↓reduceIte, Nat.reduceEqDiff, reduceCtorEq, Nat.reduceAdd, Nat.reduceLeDiff, Nat.reduceMul, Int.reduceNeg, Int.reduceLT, Int.reduceAdd, Int.reduceSub, e0, e1, e5, Ts_len, hget]
    refine vcX_call _ _ (spec_IndexOf g2 ys xs[n] (by omega)) rfl rfl (by first | rfl | simp [V.pures, V.pure, V.pures_t]) ?_
    rintro r4_5 h4_5 hh4_5 rfl -
    try simp (disch := omega) only [go_sem, ↓reduceIte, Nat.reduceEqDiff, reduceCtorEq, Nat.reduceAdd, Nat.reduceLeDiff, Nat.reduceMul, Int.reduceNeg, Int.reduceLT, Int.reduceAdd, Int.reduceSub, e0, e1, e5, Ts_len, hget]
    refine hK8 _ ?_
    refine vc_cond (t := _) rfl (fun hc2 => ?_) (fun hc2 => ?_)
    · (try simp only [go_sem] at hc2)
      refine vc_seq fun K9 hK9 => ?_
      refine vc_reg ?_
      try simp (disch := omega) only [go_sem, ↓reduceIte, Nat.reduceEqDiff, reduceCtorEq, Nat.reduceAdd, Nat.reduceLeDiff, Nat.reduceMul, Int.reduceNeg, Int.reduceLT, Int.reduceAdd, Int.reduceSub, e0, e1, e5, Ts_len]
      refine hK9 _ ?_
      refine vc_ret ?_
      refine ⟨_, by first | rfl | (simp only [go_sem, resQ, List.mapM_cons, List.mapM_nil, ↓reduceIte, Nat.reduceEqDiff, Nat.reduceAdd, Nat.reduceLeDiff, reduceCtorEq]; rfl), [], [], .nil, by simp, by simp, fun hi_ h1_ => ⟨?_, rfl, rfl⟩, by simp⟩
      rw [hw, all_drop hlt, decide_eq_false (show ¬ 0 ≤ ix xs[n] 0 ys by omega), Bool.false_and]; rfl
    · (try simp only [go_sem] at hc2)
      refine vc_skip ?_
      refine hK7 _ ?_
      refine vc_reg ?_
      try simp (disch := omega) only [go_sem, ↓reduceIte, Nat.reduceEqDiff, reduceCtorEq, Nat.reduceAdd, Nat.reduceLeDiff, Nat.reduceMul, Int.reduceNeg, Int.reduceLT, Int.reduceAdd, Int.reduceSub, e0, e1, e5, Ts_len]
      refine hK4 _ _ ?_ ⟨n + 1, rfl, rfl, (by first | rfl | assumption), (by first | rfl | assumption), (by first | rfl | assumption), ?_, ?_⟩
      · omega
      · first | omega | assumption | rfl | simp_all
      · rw [hw, all_drop hlt, decide_eq_true (show 0 ≤ ix xs[n] 0 ys by omega), Bool.true_and]
  · (try simp only [go_sem] at hc1)
    refine vc_exit ?_
    refine hK2 _ ?_
    refine vc_seq fun K10 hK10 => ?_
    refine vc_reg ?_
    try simp (disch := omega) only [go_sem, ↓reduceIte, Nat.reduceEqDiff, reduceCtorEq, Nat.reduceAdd, Nat.reduceLeDiff, Nat.reduceMul, Int.reduceNeg, Int.reduceLT, Int.reduceAdd, Int.reduceSub, e0, e1, e5, Ts_len]
    refine hK10 _ ?_
    refine vc_ret ?_
    refine ⟨_, by first | rfl | (simp only [go_sem, resQ, List.mapM_cons, List.mapM_nil, ↓reduceIte, Nat.reduceEqDiff, Nat.reduceAdd, Nat.reduceLeDiff, reduceCtorEq]; rfl), [], [], .nil, by simp, by simp, fun hi_ h1_ => ⟨?_, rfl, rfl⟩, by simp⟩
    rw [hw, List.drop_of_length_le (by omega)]; rfl

set_option maxHeartbeats 4000000 in
/-- impl.isHead -/
theorem impl_isHead (x : Ru) (c : List T) (hc : x.rep c) (hw : x.wt ≤ 1048576) : FCtr Tryz.prog 21 [.agg (c.map .t)] (fun r => r = .t (.bool (headOk x))) := by
  have hx0 := hc
  obtain ⟨gax_, gbx_, kx_, nx_, gx_, csx_, rfl, hvx_⟩ := Ru.cells hc
  have hsz := Ru.names_size hw
  have hw1 := hw
  rw [Ru.wt] at hw1
  refine Ctr.of_vc (rs := [.tmp 2]) (fn := Tryz.f21) mixed Tryz.func21 rfl rfl (by kernel_rfl) (by kernel_rfl) (by simp [Tryz.ntmps21]) (fun h0 => ?_)
  refine vc_seq fun K1 hK1 => ?_
  refine vc_reg ?_
  try simp (disch := omega) only [go_sem, ↓reduceIte, Nat.reduceEqDiff, reduceCtorEq, Nat.reduceAdd, Nat.reduceLeDiff, Nat.reduceMul, Int.reduceNeg, Int.reduceLT, Int.reduceAdd, Int.reduceSub, List.length_map]
  intro g0_0 hg0_0
  refine hK1 _ ?_
  refine vc_seq fun K2 hK2 => ?_
  have hca : cat [(gax_, x.vs), (gbx_, x.ps)] = x.vs ++ x.ps := by simp [cat]
  have hcl_ : (x.vs ++ x.ps).length ≤ 2097152 := by rw [List.length_append]; omega
  refine vc_reg ?_
  try simp (disch := omega) only [go_sem, ↓reduceIte, Nat.reduceEqDiff, reduceCtorEq, Nat.reduceAdd, Nat.reduceLeDiff, Nat.reduceMul, Int.reduceNeg, Int.reduceLT, Int.reduceAdd, Int.reduceSub, List.length_map]
  refine .inl ⟨by simp [bsOk], fun g1_4 hg1_4 => ?_⟩
  try simp (disch := omega) only [go_sem, ↓reduceIte, Nat.reduceEqDiff, reduceCtorEq, Nat.reduceAdd, Nat.reduceLeDiff, Nat.reduceMul, Int.reduceNeg, Int.reduceLT, Int.reduceAdd, Int.reduceSub, List.length_map]
  refine x_callN (caps := []) [1] [.t (.sl g1_4 ([(gax_, x.vs), (gbx_, x.ps)].map fun p => [T.sl p.1 (Ts p.2)]))] _ ((slices_Concat_string g1_4 [(gax_, x.vs), (gbx_, x.ps)] (by simp) (by rw [catL, hca]; omega)).fresh (by rintro s ts ⟨_, g', rfl⟩; exact .inl rfl)) (by first | rfl | simp (disch := omega) only [go_sem, ↓reduceIte, Nat.reduceEqDiff, reduceCtorEq, Nat.reduceAdd, Nat.reduceLeDiff, Nat.reduceMul, Int.reduceNeg, Int.reduceLT, Int.reduceAdd, Int.reduceSub, List.length_map]) ?_ ?_
  · refine Subs.of_eq ?_
    show [V.loc _ [] [1] (V.own 1 0 0 2)] = _
    rw [loc_frz (len := 2) [[T.sl gax_ (Ts x.vs)], [T.sl gbx_ (Ts x.ps)]] rfl rfl (by simp) rfl]; rfl
  rintro rcc hcc_ hhcc ⟨s, ts, rfl, rfl, gcc, rfl⟩ -
  rw [hca]
  try simp (disch := omega) only [go_sem, ↓reduceIte, Nat.reduceEqDiff, reduceCtorEq, Nat.reduceAdd, Nat.reduceLeDiff, Nat.reduceMul, Int.reduceNeg, Int.reduceLT, Int.reduceAdd, Int.reduceSub, List.length_map, Shp.v, List.headD_cons, Ts_len]
  refine hK2 _ ?_
  refine vc_seq fun K3 hK3 => ?_
  refine vc_seq fun K4 hK4 => ?_
  refine vc_reg ?_
  refine vcX_cut 4 fun K5 hK5 => ?_
  try simp (disch := omega) only [go_sem, ↓reduceIte, Nat.reduceEqDiff, reduceCtorEq, Nat.reduceAdd, Nat.reduceLeDiff, Nat.reduceMul, Int.reduceNeg, Int.reduceLT, Int.reduceAdd, Int.reduceSub, List.length_map]
  refine hK5 _ ?_
  refine vcX_bool (fun hb2_3 => ?_) (fun hb2_3 => ?_)
  · (try simp only [go_sem] at hb2_3)
    refine vcX_cut 6 fun K7 hK7 => ?_
    try simp (disch := omega) only [go_sem, ↓reduceIte, Nat.reduceEqDiff, reduceCtorEq, Nat.reduceAdd, Nat.reduceLeDiff, Nat.reduceMul, Int.reduceNeg, Int.reduceLT, Int.reduceAdd, Int.reduceSub, List.length_map]
    refine hK7 _ ?_
    refine vcX_bool (fun hb2_9 => ?_) (fun hb2_9 => ?_)
    · (try simp only [go_sem] at hb2_9)
      try simp (disch := omega) only [go_sem, ↓reduceIte, Nat.reduceEqDiff, reduceCtorEq, Nat.reduceAdd, Nat.reduceLeDiff, Nat.reduceMul, Int.reduceNeg, Int.reduceLT, Int.reduceAdd, Int.reduceSub, List.length_map]
      refine hK4 _ ?_
      refine vc_cond (t := _) rfl (fun hc1 => ?_) (fun hc1 => ?_)
      · (try simp only [go_sem] at hc1)
        refine vc_seq fun K9 hK9 => ?_
        refine vc_reg ?_
        try simp (disch := omega) only [go_sem, ↓reduceIte, Nat.reduceEqDiff, reduceCtorEq, Nat.reduceAdd, Nat.reduceLeDiff, Nat.reduceMul, Int.reduceNeg, Int.reduceLT, Int.reduceAdd, Int.reduceSub, List.length_map]
        refine hK9 _ ?_
        refine vc_ret ?_
        refine ⟨_, by first | rfl | (simp only [go_sem, resQ, List.mapM_cons, List.mapM_nil, ↓reduceIte, Nat.reduceEqDiff, Nat.reduceAdd, Nat.reduceLeDiff, reduceCtorEq]; rfl), [], [], .nil, by simp, by simp, fun hi_ h1_ => ⟨?_, rfl, rfl⟩, by simp⟩
        first
        | (have h_ : headOk x = false := by
             rw [headOk]; first | (simp_all; done) | (simp_all; intros; omega)
           rw [h_]; rfl)
        | (have h_ : headOk x = true := by
             rw [headOk]; first | (simp_all; done) | (simp_all; intros; omega)
           rw [h_]; rfl)
        | (have h_ : headOk x = (!(x.vs ++ x.ps).any fun s => !nameOk s) := by
             rw [any_not, headOk]; simp_all
           rw [h_]; rfl)
      · exact absurd hc1 (by simp)
    · (try simp only [go_sem] at hb2_9)
      refine vcX_cut 4 fun K10 hK10 => ?_
      try simp (disch := omega) only [go_sem, ↓reduceIte, Nat.reduceEqDiff, reduceCtorEq, Nat.reduceAdd, Nat.reduceLeDiff, Nat.reduceMul, Int.reduceNeg, Int.reduceLT, Int.reduceAdd, Int.reduceSub, List.length_map]
      refine hK10 _ ?_
      refine vcX_bool (fun hb2_13 => ?_) (fun hb2_13 => ?_)
      · (try simp only [go_sem] at hb2_13)
        try simp (disch := omega) only [go_sem, ↓reduceIte, Nat.reduceEqDiff, reduceCtorEq, Nat.reduceAdd, Nat.reduceLeDiff, Nat.reduceMul, Int.reduceNeg, Int.reduceLT, Int.reduceAdd, Int.reduceSub, List.length_map]
        refine vcX_call _ _ (impl_IsConName x.cn (by omega)) rfl rfl (by first | rfl | simp [V.pures, V.pure, V.pures_t]) ?_
        rintro r2_16 h2_16 hh2_16 rfl -
        try simp (disch := omega) only [go_sem, ↓reduceIte, Nat.reduceEqDiff, reduceCtorEq, Nat.reduceAdd, Nat.reduceLeDiff, Nat.reduceMul, Int.reduceNeg, Int.reduceLT, Int.reduceAdd, Int.reduceSub, List.length_map]
        refine hK4 _ ?_
        refine vc_cond (t := _) rfl (fun hc2 => ?_) (fun hc2 => ?_)
        · (try simp only [go_sem] at hc2)
          refine vc_seq fun K12 hK12 => ?_
          refine vc_reg ?_
          try simp (disch := omega) only [go_sem, ↓reduceIte, Nat.reduceEqDiff, reduceCtorEq, Nat.reduceAdd, Nat.reduceLeDiff, Nat.reduceMul, Int.reduceNeg, Int.reduceLT, Int.reduceAdd, Int.reduceSub, List.length_map]
          refine hK12 _ ?_
          refine vc_ret ?_
          refine ⟨_, by first | rfl | (simp only [go_sem, resQ, List.mapM_cons, List.mapM_nil, ↓reduceIte, Nat.reduceEqDiff, Nat.reduceAdd, Nat.reduceLeDiff, reduceCtorEq]; rfl), [], [], .nil, by simp, by simp, fun hi_ h1_ => ⟨?_, rfl, rfl⟩, by simp⟩
          first
          | (have h_ : headOk x = false := by
               rw [headOk]; first | (simp_all; done) | (simp_all; intros; omega)
             rw [h_]; rfl)
          | (have h_ : headOk x = true := by
               rw [headOk]; first | (simp_all; done) | (simp_all; intros; omega)
             rw [h_]; rfl)
          | (have h_ : headOk x = (!(x.vs ++ x.ps).any fun s => !nameOk s) := by
               rw [any_not, headOk]; simp_all
             rw [h_]; rfl)
        · (try simp only [go_sem] at hc2)
          refine vc_skip ?_
          refine hK3 _ ?_
          refine vc_seq fun K13 hK13 => ?_
          refine vc_reg ?_
          refine vcX_cut 4 fun K14 hK14 => ?_
          try simp (disch := omega) only [go_sem, ↓reduceIte, Nat.reduceEqDiff, reduceCtorEq, Nat.reduceAdd, Nat.reduceLeDiff, Nat.reduceMul, Int.reduceNeg, Int.reduceLT, Int.reduceAdd, Int.reduceSub, List.length_map]
          refine vcX_call _ _ (impl_IsName x.nm (by omega)) rfl rfl (by first | rfl | simp [V.pures, V.pure, V.pures_t]) ?_
          rintro r4_2 h4_2 hh4_2 rfl -
          try simp (disch := omega) only [go_sem, ↓reduceIte, Nat.reduceEqDiff, reduceCtorEq, Nat.reduceAdd, Nat.reduceLeDiff, Nat.reduceMul, Int.reduceNeg, Int.reduceLT, Int.reduceAdd, Int.reduceSub, List.length_map]
          refine hK14 _ ?_
          refine vcX_bool (fun hb4_3 => ?_) (fun hb4_3 => ?_)
          · (try simp only [go_sem] at hb4_3)
            refine vcX_cut 6 fun K16 hK16 => ?_
            try simp (disch := omega) only [go_sem, ↓reduceIte, Nat.reduceEqDiff, reduceCtorEq, Nat.reduceAdd, Nat.reduceLeDiff, Nat.reduceMul, Int.reduceNeg, Int.reduceLT, Int.reduceAdd, Int.reduceSub, List.length_map]
            refine hK16 _ ?_
            refine vcX_bool (fun hb4_9 => ?_) (fun hb4_9 => ?_)
            · (try simp only [go_sem] at hb4_9)
              refine vcX_cut 6 fun K18 hK18 => ?_
              try simp (disch := omega) only [go_sem, ↓reduceIte, Nat.reduceEqDiff, reduceCtorEq, Nat.reduceAdd, Nat.reduceLeDiff, Nat.reduceMul, Int.reduceNeg, Int.reduceLT, Int.reduceAdd, Int.reduceSub, List.length_map]
              refine hK18 _ ?_
              refine vcX_bool (fun hb4_15 => ?_) (fun hb4_15 => ?_)
              · (try simp only [go_sem] at hb4_15)
                refine vcX_cut 4 fun K20 hK20 => ?_
                try simp (disch := omega) only [go_sem, ↓reduceIte, Nat.reduceEqDiff, reduceCtorEq, Nat.reduceAdd, Nat.reduceLeDiff, Nat.reduceMul, Int.reduceNeg, Int.reduceLT, Int.reduceAdd, Int.reduceSub, List.length_map]
                refine vcX_call _ _ (impl_AllDistinct gcc (x.vs ++ x.ps) (by rw [List.length_append]; omega)) rfl rfl (by first | rfl | simp [V.pures, V.pure, V.pures_t]) ?_
                rintro r4_17 h4_17 hh4_17 rfl -
                try simp (disch := omega) only [go_sem, ↓reduceIte, Nat.reduceEqDiff, reduceCtorEq, Nat.reduceAdd, Nat.reduceLeDiff, Nat.reduceMul, Int.reduceNeg, Int.reduceLT, Int.reduceAdd, Int.reduceSub, List.length_map]
                refine hK20 _ ?_
                refine vcX_bool (fun hb4_19 => ?_) (fun hb4_19 => ?_)
                · (try simp only [go_sem] at hb4_19)
                  try simp (disch := omega) only [go_sem, ↓reduceIte, Nat.reduceEqDiff, reduceCtorEq, Nat.reduceAdd, Nat.reduceLeDiff, Nat.reduceMul, Int.reduceNeg, Int.reduceLT, Int.reduceAdd, Int.reduceSub, List.length_map]
                  refine vcX_call _ _ (slices_ContainsFunc_string gcc 52 (fun s => !nameOk s) (x.vs ++ x.ps) (by omega) (fun a ha => impl_isHead_1 a (hsz a ha))) rfl rfl (by first | rfl | simp [V.pures, V.pure, V.pures_t]) ?_
                  rintro r4_21 h4_21 hh4_21 rfl -
                  try simp (disch := omega) only [go_sem, ↓reduceIte, Nat.reduceEqDiff, reduceCtorEq, Nat.reduceAdd, Nat.reduceLeDiff, Nat.reduceMul, Int.reduceNeg, Int.reduceLT, Int.reduceAdd, Int.reduceSub, List.length_map]
                  refine hK13 _ ?_
                  refine vc_ret ?_
                  refine ⟨_, by first | rfl | (simp only [go_sem, resQ, List.mapM_cons, List.mapM_nil, ↓reduceIte, Nat.reduceEqDiff, Nat.reduceAdd, Nat.reduceLeDiff, reduceCtorEq]; rfl), [], [], .nil, by simp, by simp, fun hi_ h1_ => ⟨?_, rfl, rfl⟩, by simp⟩
                  first
                  | (have h_ : headOk x = false := by
                       rw [headOk]; first | (simp_all; done) | (simp_all; intros; omega)
                     rw [h_]; rfl)
                  | (have h_ : headOk x = true := by
                       rw [headOk]; first | (simp_all; done) | (simp_all; intros; omega)
                     rw [h_]; rfl)
                  | (have h_ : headOk x = (!(x.vs ++ x.ps).any fun s => !nameOk s) := by
                       rw [any_not, headOk]; simp_all
                     rw [h_]; rfl)
                · (try simp only [go_sem] at hb4_19)
                  try simp (disch := omega) only [go_sem, ↓reduceIte, Nat.reduceEqDiff, reduceCtorEq, Nat.reduceAdd, Nat.reduceLeDiff, Nat.reduceMul, Int.reduceNeg, Int.reduceLT, Int.reduceAdd, Int.reduceSub, List.length_map]
                  refine hK13 _ ?_
                  refine vc_ret ?_
                  refine ⟨_, by first | rfl | (simp only [go_sem, resQ, List.mapM_cons, List.mapM_nil, ↓reduceIte, Nat.reduceEqDiff, Nat.reduceAdd, Nat.reduceLeDiff, reduceCtorEq]; rfl), [], [], .nil, by simp, by simp, fun hi_ h1_ => ⟨?_, rfl, rfl⟩, by simp⟩
                  first
                  | (have h_ : headOk x = false := by
                       rw [headOk]; first | (simp_all; done) | (simp_all; intros; omega)
                     rw [h_]; rfl)
                  | (have h_ : headOk x = true := by
                       rw [headOk]; first | (simp_all; done) | (simp_all; intros; omega)
                     rw [h_]; rfl)
                  | (have h_ : headOk x = (!(x.vs ++ x.ps).any fun s => !nameOk s) := by
                       rw [any_not, headOk]; simp_all
                     rw [h_]; rfl)
              · (try simp only [go_sem] at hb4_15)
                try simp (disch := omega) only [go_sem, ↓reduceIte, Nat.reduceEqDiff, reduceCtorEq, Nat.reduceAdd, Nat.reduceLeDiff, Nat.reduceMul, Int.reduceNeg, Int.reduceLT, Int.reduceAdd, Int.reduceSub, List.length_map]
                refine hK13 _ ?_
                refine vc_ret ?_
                refine ⟨_, by first | rfl | (simp only [go_sem, resQ, List.mapM_cons, List.mapM_nil, ↓reduceIte, Nat.reduceEqDiff, Nat.reduceAdd, Nat.reduceLeDiff, reduceCtorEq]; rfl), [], [], .nil, by simp, by simp, fun hi_ h1_ => ⟨?_, rfl, rfl⟩, by simp⟩
                first
                | (have h_ : headOk x = false := by
                     rw [headOk]; first | (simp_all; done) | (simp_all; intros; omega)
                   rw [h_]; rfl)
                | (have h_ : headOk x = true := by
                     rw [headOk]; first | (simp_all; done) | (simp_all; intros; omega)
                   rw [h_]; rfl)
                | (have h_ : headOk x = (!(x.vs ++ x.ps).any fun s => !nameOk s) := by
                     rw [any_not, headOk]; simp_all
                   rw [h_]; rfl)
            · (try simp only [go_sem] at hb4_9)
              try simp (disch := omega) only [go_sem, ↓reduceIte, Nat.reduceEqDiff, reduceCtorEq, Nat.reduceAdd, Nat.reduceLeDiff, Nat.reduceMul, Int.reduceNeg, Int.reduceLT, Int.reduceAdd, Int.reduceSub, List.length_map]
              refine hK13 _ ?_
              refine vc_ret ?_
              refine ⟨_, by first | rfl | (simp only [go_sem, resQ, List.mapM_cons, List.mapM_nil, ↓reduceIte, Nat.reduceEqDiff, Nat.reduceAdd, Nat.reduceLeDiff, reduceCtorEq]; rfl), [], [], .nil, by simp, by simp, fun hi_ h1_ => ⟨?_, rfl, rfl⟩, by simp⟩
              first
              | (have h_ : headOk x = false := by
                   rw [headOk]; first | (simp_all; done) | (simp_all; intros; omega)
                 rw [h_]; rfl)
              | (have h_ : headOk x = true := by
                   rw [headOk]; first | (simp_all; done) | (simp_all; intros; omega)
                 rw [h_]; rfl)
              | (have h_ : headOk x = (!(x.vs ++ x.ps).any fun s => !nameOk s) := by
                   rw [any_not, headOk]; simp_all
                 rw [h_]; rfl)
          · (try simp only [go_sem] at hb4_3)
            try simp (disch := omega) only [go_sem, ↓reduceIte, Nat.reduceEqDiff, reduceCtorEq, Nat.reduceAdd, Nat.reduceLeDiff, Nat.reduceMul, Int.reduceNeg, Int.reduceLT, Int.reduceAdd, Int.reduceSub, List.length_map]
            refine hK13 _ ?_
            refine vc_ret ?_
            refine ⟨_, by first | rfl | (simp only [go_sem, resQ, List.mapM_cons, List.mapM_nil, ↓reduceIte, Nat.reduceEqDiff, Nat.reduceAdd, Nat.reduceLeDiff, reduceCtorEq]; rfl), [], [], .nil, by simp, by simp, fun hi_ h1_ => ⟨?_, rfl, rfl⟩, by simp⟩
            first
            | (have h_ : headOk x = false := by
                 rw [headOk]; first | (simp_all; done) | (simp_all; intros; omega)
               rw [h_]; rfl)
            | (have h_ : headOk x = true := by
                 rw [headOk]; first | (simp_all; done) | (simp_all; intros; omega)
               rw [h_]; rfl)
            | (have h_ : headOk x = (!(x.vs ++ x.ps).any fun s => !nameOk s) := by
                 rw [any_not, headOk]; simp_all
               rw [h_]; rfl)
      · (try simp only [go_sem] at hb2_13)
        try simp (disch := omega) only [go_sem, ↓reduceIte, Nat.reduceEqDiff, reduceCtorEq, Nat.reduceAdd, Nat.reduceLeDiff, Nat.reduceMul, Int.reduceNeg, Int.reduceLT, Int.reduceAdd, Int.reduceSub, List.length_map]
        refine hK4 _ ?_
        refine vc_cond (t := _) rfl (fun hc3 => ?_) (fun hc3 => ?_)
        · exact absurd hc3 (by simp)
        · (try simp only [go_sem] at hc3)
          refine vc_skip ?_
          refine hK3 _ ?_
          refine vc_seq fun K22 hK22 => ?_
          refine vc_reg ?_
          refine vcX_cut 4 fun K23 hK23 => ?_
          try simp (disch := omega) only [go_sem, ↓reduceIte, Nat.reduceEqDiff, reduceCtorEq, Nat.reduceAdd, Nat.reduceLeDiff, Nat.reduceMul, Int.reduceNeg, Int.reduceLT, Int.reduceAdd, Int.reduceSub, List.length_map]
          refine vcX_call _ _ (impl_IsName x.nm (by omega)) rfl rfl (by first | rfl | simp [V.pures, V.pure, V.pures_t]) ?_
          rintro r4_2 h4_2 hh4_2 rfl -
          try simp (disch := omega) only [go_sem, ↓reduceIte, Nat.reduceEqDiff, reduceCtorEq, Nat.reduceAdd, Nat.reduceLeDiff, Nat.reduceMul, Int.reduceNeg, Int.reduceLT, Int.reduceAdd, Int.reduceSub, List.length_map]
          refine hK23 _ ?_
          refine vcX_bool (fun hb4_3 => ?_) (fun hb4_3 => ?_)
          · (try simp only [go_sem] at hb4_3)
            refine vcX_cut 6 fun K25 hK25 => ?_
            try simp (disch := omega) only [go_sem, ↓reduceIte, Nat.reduceEqDiff, reduceCtorEq, Nat.reduceAdd, Nat.reduceLeDiff, Nat.reduceMul, Int.reduceNeg, Int.reduceLT, Int.reduceAdd, Int.reduceSub, List.length_map]
            refine hK25 _ ?_
            refine vcX_bool (fun hb4_9 => ?_) (fun hb4_9 => ?_)
            · (try simp only [go_sem] at hb4_9)
              refine vcX_cut 6 fun K27 hK27 => ?_
              try simp (disch := omega) only [go_sem, ↓reduceIte, Nat.reduceEqDiff, reduceCtorEq, Nat.reduceAdd, Nat.reduceLeDiff, Nat.reduceMul, Int.reduceNeg, Int.reduceLT, Int.reduceAdd, Int.reduceSub, List.length_map]
              refine hK27 _ ?_
              refine vcX_bool (fun hb4_15 => ?_) (fun hb4_15 => ?_)
              · (try simp only [go_sem] at hb4_15)
                refine vcX_cut 4 fun K29 hK29 => ?_
                try simp (disch := omega) only [go_sem, ↓reduceIte, Nat.reduceEqDiff, reduceCtorEq, Nat.reduceAdd, Nat.reduceLeDiff, Nat.reduceMul, Int.reduceNeg, Int.reduceLT, Int.reduceAdd, Int.reduceSub, List.length_map]
                refine vcX_call _ _ (impl_AllDistinct gcc (x.vs ++ x.ps) (by rw [List.length_append]; omega)) rfl rfl (by first | rfl | simp [V.pures, V.pure, V.pures_t]) ?_
                rintro r4_17 h4_17 hh4_17 rfl -
                try simp (disch := omega) only [go_sem, ↓reduceIte, Nat.reduceEqDiff, reduceCtorEq, Nat.reduceAdd, Nat.reduceLeDiff, Nat.reduceMul, Int.reduceNeg, Int.reduceLT, Int.reduceAdd, Int.reduceSub, List.length_map]
                refine hK29 _ ?_
                refine vcX_bool (fun hb4_19 => ?_) (fun hb4_19 => ?_)
                · (try simp only [go_sem] at hb4_19)
                  try simp (disch := omega) only [go_sem, ↓reduceIte, Nat.reduceEqDiff, reduceCtorEq, Nat.reduceAdd, Nat.reduceLeDiff, Nat.reduceMul, Int.reduceNeg, Int.reduceLT, Int.reduceAdd, Int.reduceSub, List.length_map]
                  refine vcX_call _ _ (slices_ContainsFunc_string gcc 52 (fun s => !nameOk s) (x.vs ++ x.ps) (by omega) (fun a ha => impl_isHead_1 a (hsz a ha))) rfl rfl (by first | rfl | simp [V.pures, V.pure, V.pures_t]) ?_
                  rintro r4_21 h4_21 hh4_21 rfl -
                  try simp (disch := omega) only [go_sem, ↓reduceIte, Nat.reduceEqDiff, reduceCtorEq, Nat.reduceAdd, Nat.reduceLeDiff, Nat.reduceMul, Int.reduceNeg, Int.reduceLT, Int.reduceAdd, Int.reduceSub, List.length_map]
                  refine hK22 _ ?_
                  refine vc_ret ?_
                  refine ⟨_, by first | rfl | (simp only [go_sem, resQ, List.mapM_cons, List.mapM_nil, ↓reduceIte, Nat.reduceEqDiff, Nat.reduceAdd, Nat.reduceLeDiff, reduceCtorEq]; rfl), [], [], .nil, by simp, by simp, fun hi_ h1_ => ⟨?_, rfl, rfl⟩, by simp⟩
                  first
                  | (have h_ : headOk x = false := by
                       rw [headOk]; first | (simp_all; done) | (simp_all; intros; omega)
                     rw [h_]; rfl)
                  | (have h_ : headOk x = true := by
                       rw [headOk]; first | (simp_all; done) | (simp_all; intros; omega)
                     rw [h_]; rfl)
                  | (have h_ : headOk x = (!(x.vs ++ x.ps).any fun s => !nameOk s) := by
                       rw [any_not, headOk]; simp_all
                     rw [h_]; rfl)
                · (try simp only [go_sem] at hb4_19)
                  try simp (disch := omega) only [go_sem, ↓reduceIte, Nat.reduceEqDiff, reduceCtorEq, Nat.reduceAdd, Nat.reduceLeDiff, Nat.reduceMul, Int.reduceNeg, Int.reduceLT, Int.reduceAdd, Int.reduceSub, List.length_map]
                  refine hK22 _ ?_
                  refine vc_ret ?_
                  refine ⟨_, by first | rfl | (simp only [go_sem, resQ, List.mapM_cons, List.mapM_nil, ↓reduceIte, Nat.reduceEqDiff, Nat.reduceAdd, Nat.reduceLeDiff, reduceCtorEq]; rfl), [], [], .nil, by simp, by simp, fun hi_ h1_ => ⟨?_, rfl, rfl⟩, by simp⟩
                  first
                  | (have h_ : headOk x = false := by
                       rw [headOk]; first | (simp_all; done) | (simp_all; intros; omega)
                     rw [h_]; rfl)
                  | (have h_ : headOk x = true := by
                       rw [headOk]; first | (simp_all; done) | (simp_all; intros; omega)
                     rw [h_]; rfl)
                  | (have h_ : headOk x = (!(x.vs ++ x.ps).any fun s => !nameOk s) := by
                       rw [any_not, headOk]; simp_all
                     rw [h_]; rfl)
              · (try simp only [go_sem] at hb4_15)
                try simp (disch := omega) only [go_sem, ↓reduceIte, Nat.reduceEqDiff, reduceCtorEq, Nat.reduceAdd, Nat.reduceLeDiff, Nat.reduceMul, Int.reduceNeg, Int.reduceLT, Int.reduceAdd, Int.reduceSub, List.length_map]
                refine hK22 _ ?_
                refine vc_ret ?_
                refine ⟨_, by first | rfl | (simp only [go_sem, resQ, List.mapM_cons, List.mapM_nil, ↓reduceIte, Nat.reduceEqDiff, Nat.reduceAdd, Nat.reduceLeDiff, reduceCtorEq]; rfl), [], [], .nil, by simp, by simp, fun hi_ h1_ => ⟨?_, rfl, rfl⟩, by simp⟩
                first
                | (have h_ : headOk x = false := by
                     rw [headOk]; first | (simp_all; done) | (simp_all; intros; omega)
                   rw [h_]; rfl)
                | (have h_ : headOk x = true := by
                     rw [headOk]; first | (simp_all; done) | (simp_all; intros; omega)
                   rw [h_]; rfl)
                | (have h_ : headOk x = (!(x.vs ++ x.ps).any fun s => !nameOk s) := by
                     rw [any_not, headOk]; simp_all
                   rw [h_]; rfl)
            · (try simp only [go_sem] at hb4_9)
              try simp (disch := omega) only [go_sem, ↓reduceIte, Nat.reduceEqDiff, reduceCtorEq, Nat.reduceAdd, Nat.reduceLeDiff, Nat.reduceMul, Int.reduceNeg, Int.reduceLT, Int.reduceAdd, Int.reduceSub, List.length_map]
              refine hK22 _ ?_
              refine vc_ret ?_
              refine ⟨_, by first | rfl | (simp only [go_sem, resQ, List.mapM_cons, List.mapM_nil, ↓reduceIte, Nat.reduceEqDiff, Nat.reduceAdd, Nat.reduceLeDiff, reduceCtorEq]; rfl), [], [], .nil, by simp, by simp, fun hi_ h1_ => ⟨?_, rfl, rfl⟩, by simp⟩
              first
              | (have h_ : headOk x = false := by
                   rw [headOk]; first | (simp_all; done) | (simp_all; intros; omega)
                 rw [h_]; rfl)
              | (have h_ : headOk x = true := by
                   rw [headOk]; first | (simp_all; done) | (simp_all; intros; omega)
                 rw [h_]; rfl)
              | (have h_ : headOk x = (!(x.vs ++ x.ps).any fun s => !nameOk s) := by
                   rw [any_not, headOk]; simp_all
                 rw [h_]; rfl)
          · (try simp only [go_sem] at hb4_3)
            try simp (disch := omega) only [go_sem, ↓reduceIte, Nat.reduceEqDiff, reduceCtorEq, Nat.reduceAdd, Nat.reduceLeDiff, Nat.reduceMul, Int.reduceNeg, Int.reduceLT, Int.reduceAdd, Int.reduceSub, List.length_map]
            refine hK22 _ ?_
            refine vc_ret ?_
            refine ⟨_, by first | rfl | (simp only [go_sem, resQ, List.mapM_cons, List.mapM_nil, ↓reduceIte, Nat.reduceEqDiff, Nat.reduceAdd, Nat.reduceLeDiff, reduceCtorEq]; rfl), [], [], .nil, by simp, by simp, fun hi_ h1_ => ⟨?_, rfl, rfl⟩, by simp⟩
            first
            | (have h_ : headOk x = false := by
                 rw [headOk]; first | (simp_all; done) | (simp_all; intros; omega)
               rw [h_]; rfl)
            | (have h_ : headOk x = true := by
                 rw [headOk]; first | (simp_all; done) | (simp_all; intros; omega)
               rw [h_]; rfl)
            | (have h_ : headOk x = (!(x.vs ++ x.ps).any fun s => !nameOk s) := by
                 rw [any_not, headOk]; simp_all
               rw [h_]; rfl)
  · (try simp only [go_sem] at hb2_3)
    refine vcX_cut 10 fun K31 hK31 => ?_
    try simp (disch := omega) only [go_sem, ↓reduceIte, Nat.reduceEqDiff, reduceCtorEq, Nat.reduceAdd, Nat.reduceLeDiff, Nat.reduceMul, Int.reduceNeg, Int.reduceLT, Int.reduceAdd, Int.reduceSub, List.length_map]
    refine hK31 _ ?_
    refine vcX_bool (fun hb2_13 => ?_) (fun hb2_13 => ?_)
    · (try simp only [go_sem] at hb2_13)
      try simp (disch := omega) only [go_sem, ↓reduceIte, Nat.reduceEqDiff, reduceCtorEq, Nat.reduceAdd, Nat.reduceLeDiff, Nat.reduceMul, Int.reduceNeg, Int.reduceLT, Int.reduceAdd, Int.reduceSub, List.length_map]
      refine vcX_call _ _ (impl_IsConName x.cn (by omega)) rfl rfl (by first | rfl | simp [V.pures, V.pure, V.pures_t]) ?_
      rintro r2_16 h2_16 hh2_16 rfl -
      try simp (disch := omega) only [go_sem, ↓reduceIte, Nat.reduceEqDiff, reduceCtorEq, Nat.reduceAdd, Nat.reduceLeDiff, Nat.reduceMul, Int.reduceNeg, Int.reduceLT, Int.reduceAdd, Int.reduceSub, List.length_map]
      refine hK4 _ ?_
      refine vc_cond (t := _) rfl (fun hc4 => ?_) (fun hc4 => ?_)
      · (try simp only [go_sem] at hc4)
        refine vc_seq fun K33 hK33 => ?_
        refine vc_reg ?_
        try simp (disch := omega) only [go_sem, ↓reduceIte, Nat.reduceEqDiff, reduceCtorEq, Nat.reduceAdd, Nat.reduceLeDiff, Nat.reduceMul, Int.reduceNeg, Int.reduceLT, Int.reduceAdd, Int.reduceSub, List.length_map]
        refine hK33 _ ?_
        refine vc_ret ?_
        refine ⟨_, by first | rfl | (simp only [go_sem, resQ, List.mapM_cons, List.mapM_nil, ↓reduceIte, Nat.reduceEqDiff, Nat.reduceAdd, Nat.reduceLeDiff, reduceCtorEq]; rfl), [], [], .nil, by simp, by simp, fun hi_ h1_ => ⟨?_, rfl, rfl⟩, by simp⟩
        first
        | (have h_ : headOk x = false := by
             rw [headOk]; first | (simp_all; done) | (simp_all; intros; omega)
           rw [h_]; rfl)
        | (have h_ : headOk x = true := by
             rw [headOk]; first | (simp_all; done) | (simp_all; intros; omega)
           rw [h_]; rfl)
        | (have h_ : headOk x = (!(x.vs ++ x.ps).any fun s => !nameOk s) := by
             rw [any_not, headOk]; simp_all
           rw [h_]; rfl)
      · (try simp only [go_sem] at hc4)
        refine vc_skip ?_
        refine hK3 _ ?_
        refine vc_seq fun K34 hK34 => ?_
        refine vc_reg ?_
        refine vcX_cut 4 fun K35 hK35 => ?_
        try simp (disch := omega) only [go_sem, ↓reduceIte, Nat.reduceEqDiff, reduceCtorEq, Nat.reduceAdd, Nat.reduceLeDiff, Nat.reduceMul, Int.reduceNeg, Int.reduceLT, Int.reduceAdd, Int.reduceSub, List.length_map]
        refine vcX_call _ _ (impl_IsName x.nm (by omega)) rfl rfl (by first | rfl | simp [V.pures, V.pure, V.pures_t]) ?_
        rintro r4_2 h4_2 hh4_2 rfl -
        try simp (disch := omega) only [go_sem, ↓reduceIte, Nat.reduceEqDiff, reduceCtorEq, Nat.reduceAdd, Nat.reduceLeDiff, Nat.reduceMul, Int.reduceNeg, Int.reduceLT, Int.reduceAdd, Int.reduceSub, List.length_map]
        refine hK35 _ ?_
        refine vcX_bool (fun hb4_3 => ?_) (fun hb4_3 => ?_)
        · (try simp only [go_sem] at hb4_3)
          refine vcX_cut 6 fun K37 hK37 => ?_
          try simp (disch := omega) only [go_sem, ↓reduceIte, Nat.reduceEqDiff, reduceCtorEq, Nat.reduceAdd, Nat.reduceLeDiff, Nat.reduceMul, Int.reduceNeg, Int.reduceLT, Int.reduceAdd, Int.reduceSub, List.length_map]
          refine hK37 _ ?_
          refine vcX_bool (fun hb4_9 => ?_) (fun hb4_9 => ?_)
          · (try simp only [go_sem] at hb4_9)
            refine vcX_cut 6 fun K39 hK39 => ?_
            try simp (disch := omega) only [go_sem, ↓reduceIte, Nat.reduceEqDiff, reduceCtorEq, Nat.reduceAdd, Nat.reduceLeDiff, Nat.reduceMul, Int.reduceNeg, Int.reduceLT, Int.reduceAdd, Int.reduceSub, List.length_map]
            refine hK39 _ ?_
            refine vcX_bool (fun hb4_15 => ?_) (fun hb4_15 => ?_)
            · (try simp only [go_sem] at hb4_15)
              refine vcX_cut 4 fun K41 hK41 => ?_
              try simp (disch := omega) only [go_sem, ↓reduceIte, Nat.reduceEqDiff, reduceCtorEq, Nat.reduceAdd, Nat.reduceLeDiff, Nat.reduceMul, Int.reduceNeg, Int.reduceLT, Int.reduceAdd, Int.reduceSub, List.length_map]
              refine vcX_call _ _ (impl_AllDistinct gcc (x.vs ++ x.ps) (by rw [List.length_append]; omega)) rfl rfl (by first | rfl | simp [V.pures, V.pure, V.pures_t]) ?_
              rintro r4_17 h4_17 hh4_17 rfl -
              try simp (disch := omega) only [go_sem, ↓reduceIte, Nat.reduceEqDiff, reduceCtorEq, Nat.reduceAdd, Nat.reduceLeDiff, Nat.reduceMul, Int.reduceNeg, Int.reduceLT, Int.reduceAdd, Int.reduceSub, List.length_map]
              refine hK41 _ ?_
              refine vcX_bool (fun hb4_19 => ?_) (fun hb4_19 => ?_)
              · (try simp only [go_sem] at hb4_19)
                try simp (disch := omega) only [go_sem, ↓reduceIte, Nat.reduceEqDiff, reduceCtorEq, Nat.reduceAdd, Nat.reduceLeDiff, Nat.reduceMul, Int.reduceNeg, Int.reduceLT, Int.reduceAdd, Int.reduceSub, List.length_map]
                refine vcX_call _ _ (slices_ContainsFunc_string gcc 52 (fun s => !nameOk s) (x.vs ++ x.ps) (by omega) (fun a ha => impl_isHead_1 a (hsz a ha))) rfl rfl (by first | rfl | simp [V.pures, V.pure, V.pures_t]) ?_
                rintro r4_21 h4_21 hh4_21 rfl -
                try simp (disch := omega) only [go_sem, ↓reduceIte, Nat.reduceEqDiff, reduceCtorEq, Nat.reduceAdd, Nat.reduceLeDiff, Nat.reduceMul, Int.reduceNeg, Int.reduceLT, Int.reduceAdd, Int.reduceSub, List.length_map]
                refine hK34 _ ?_
                refine vc_ret ?_
                refine ⟨_, by first | rfl | (simp only [go_sem, resQ, List.mapM_cons, List.mapM_nil, ↓reduceIte, Nat.reduceEqDiff, Nat.reduceAdd, Nat.reduceLeDiff, reduceCtorEq]; rfl), [], [], .nil, by simp, by simp, fun hi_ h1_ => ⟨?_, rfl, rfl⟩, by simp⟩
                first
                | (have h_ : headOk x = false := by
                     rw [headOk]; first | (simp_all; done) | (simp_all; intros; omega)
                   rw [h_]; rfl)
                | (have h_ : headOk x = true := by
                     rw [headOk]; first | (simp_all; done) | (simp_all; intros; omega)
                   rw [h_]; rfl)
                | (have h_ : headOk x = (!(x.vs ++ x.ps).any fun s => !nameOk s) := by
                     rw [any_not, headOk]; simp_all
                   rw [h_]; rfl)
              · (try simp only [go_sem] at hb4_19)
                try simp (disch := omega) only [go_sem, ↓reduceIte, Nat.reduceEqDiff, reduceCtorEq, Nat.reduceAdd, Nat.reduceLeDiff, Nat.reduceMul, Int.reduceNeg, Int.reduceLT, Int.reduceAdd, Int.reduceSub, List.length_map]
                refine hK34 _ ?_
                refine vc_ret ?_
                refine ⟨_, by first | rfl | (simp only [go_sem, resQ, List.mapM_cons, List.mapM_nil, ↓reduceIte, Nat.reduceEqDiff, Nat.reduceAdd, Nat.reduceLeDiff, reduceCtorEq]; rfl), [], [], .nil, by simp, by simp, fun hi_ h1_ => ⟨?_, rfl, rfl⟩, by simp⟩
                first
                | (have h_ : headOk x = false := by
                     rw [headOk]; first | (simp_all; done) | (simp_all; intros; omega)
                   rw [h_]; rfl)
                | (have h_ : headOk x = true := by
                     rw [headOk]; first | (simp_all; done) | (simp_all; intros; omega)
                   rw [h_]; rfl)
                | (have h_ : headOk x = (!(x.vs ++ x.ps).any fun s => !nameOk s) := by
                     rw [any_not, headOk]; simp_all
                   rw [h_]; rfl)
            · (try simp only [go_sem] at hb4_15)
              try simp (disch := omega) only [go_sem, ↓reduceIte, Nat.reduceEqDiff, reduceCtorEq, Nat.reduceAdd, Nat.reduceLeDiff, Nat.reduceMul, Int.reduceNeg, Int.reduceLT, Int.reduceAdd, Int.reduceSub, List.length_map]
              refine hK34 _ ?_
              refine vc_ret ?_
              refine ⟨_, by first | rfl | (simp only [go_sem, resQ, List.mapM_cons, List.mapM_nil, ↓reduceIte, Nat.reduceEqDiff, Nat.reduceAdd, Nat.reduceLeDiff, reduceCtorEq]; rfl), [], [], .nil, by simp, by simp, fun hi_ h1_ => ⟨?_, rfl, rfl⟩, by simp⟩
              first
              | (have h_ : headOk x = false := by
                   rw [headOk]; first | (simp_all; done) | (simp_all; intros; omega)
                 rw [h_]; rfl)
              | (have h_ : headOk x = true := by
                   rw [headOk]; first | (simp_all; done) | (simp_all; intros; omega)
                 rw [h_]; rfl)
              | (have h_ : headOk x = (!(x.vs ++ x.ps).any fun s => !nameOk s) := by
                   rw [any_not, headOk]; simp_all
                 rw [h_]; rfl)
          · (try simp only [go_sem] at hb4_9)
            try simp (disch := omega) only [go_sem, ↓reduceIte, Nat.reduceEqDiff, reduceCtorEq, Nat.reduceAdd, Nat.reduceLeDiff, Nat.reduceMul, Int.reduceNeg, Int.reduceLT, Int.reduceAdd, Int.reduceSub, List.length_map]
            refine hK34 _ ?_
            refine vc_ret ?_
            refine ⟨_, by first | rfl | (simp only [go_sem, resQ, List.mapM_cons, List.mapM_nil, ↓reduceIte, Nat.reduceEqDiff, Nat.reduceAdd, Nat.reduceLeDiff, reduceCtorEq]; rfl), [], [], .nil, by simp, by simp, fun hi_ h1_ => ⟨?_, rfl, rfl⟩, by simp⟩
            first
            | (have h_ : headOk x = false := by
                 rw [headOk]; first | (simp_all; done) | (simp_all; intros; omega)
               rw [h_]; rfl)
            | (have h_ : headOk x = true := by
                 rw [headOk]; first | (simp_all; done) | (simp_all; intros; omega)
               rw [h_]; rfl)
            | (have h_ : headOk x = (!(x.vs ++ x.ps).any fun s => !nameOk s) := by
                 rw [any_not, headOk]; simp_all
               rw [h_]; rfl)
        · (try simp only [go_sem] at hb4_3)
          try simp (disch := omega) only [go_sem, ↓reduceIte, Nat.reduceEqDiff, reduceCtorEq, Nat.reduceAdd, Nat.reduceLeDiff, Nat.reduceMul, Int.reduceNeg, Int.reduceLT, Int.reduceAdd, Int.reduceSub, List.length_map]
          refine hK34 _ ?_
          refine vc_ret ?_
          refine ⟨_, by first | rfl | (simp only [go_sem, resQ, List.mapM_cons, List.mapM_nil, ↓reduceIte, Nat.reduceEqDiff, Nat.reduceAdd, Nat.reduceLeDiff, reduceCtorEq]; rfl), [], [], .nil, by simp, by simp, fun hi_ h1_ => ⟨?_, rfl, rfl⟩, by simp⟩
          first
          | (have h_ : headOk x = false := by
               rw [headOk]; first | (simp_all; done) | (simp_all; intros; omega)
             rw [h_]; rfl)
          | (have h_ : headOk x = true := by
               rw [headOk]; first | (simp_all; done) | (simp_all; intros; omega)
             rw [h_]; rfl)
          | (have h_ : headOk x = (!(x.vs ++ x.ps).any fun s => !nameOk s) := by
               rw [any_not, headOk]; simp_all
             rw [h_]; rfl)
    · (try simp only [go_sem] at hb2_13)
      try simp (disch := omega) only [go_sem, ↓reduceIte, Nat.reduceEqDiff, reduceCtorEq, Nat.reduceAdd, Nat.reduceLeDiff, Nat.reduceMul, Int.reduceNeg, Int.reduceLT, Int.reduceAdd, Int.reduceSub, List.length_map]
      refine hK4 _ ?_
      refine vc_cond (t := _) rfl (fun hc5 => ?_) (fun hc5 => ?_)
      · exact absurd hc5 (by simp)
      · (try simp only [go_sem] at hc5)
        refine vc_skip ?_
        refine hK3 _ ?_
        refine vc_seq fun K43 hK43 => ?_
        refine vc_reg ?_
        refine vcX_cut 4 fun K44 hK44 => ?_
        try simp (disch := omega) only [go_sem, ↓reduceIte, Nat.reduceEqDiff, reduceCtorEq, Nat.reduceAdd, Nat.reduceLeDiff, Nat.reduceMul, Int.reduceNeg, Int.reduceLT, Int.reduceAdd, Int.reduceSub, List.length_map]
        refine vcX_call _ _ (impl_IsName x.nm (by omega)) rfl rfl (by first | rfl | simp [V.pures, V.pure, V.pures_t]) ?_
        rintro r4_2 h4_2 hh4_2 rfl -
        try simp (disch := omega) only [go_sem, ↓reduceIte, Nat.reduceEqDiff, reduceCtorEq, Nat.reduceAdd, Nat.reduceLeDiff, Nat.reduceMul, Int.reduceNeg, Int.reduceLT, Int.reduceAdd, Int.reduceSub, List.length_map]
        refine hK44 _ ?_
        refine vcX_bool (fun hb4_3 => ?_) (fun hb4_3 => ?_)
        · (try simp only [go_sem] at hb4_3)
          refine vcX_cut 6 fun K46 hK46 => ?_
          try simp (disch := omega) only [go_sem, ↓reduceIte, Nat.reduceEqDiff, reduceCtorEq, Nat.reduceAdd, Nat.reduceLeDiff, Nat.reduceMul, Int.reduceNeg, Int.reduceLT, Int.reduceAdd, Int.reduceSub, List.length_map]
          refine hK46 _ ?_
          refine vcX_bool (fun hb4_9 => ?_) (fun hb4_9 => ?_)
          · (try simp only [go_sem] at hb4_9)
            refine vcX_cut 6 fun K48 hK48 => ?_
            try simp (disch := omega) only [go_sem, ↓reduceIte, Nat.reduceEqDiff, reduceCtorEq, Nat.reduceAdd, Nat.reduceLeDiff, Nat.reduceMul, Int.reduceNeg, Int.reduceLT, Int.reduceAdd, Int.reduceSub, List.length_map]
            refine hK48 _ ?_
            refine vcX_bool (fun hb4_15 => ?_) (fun hb4_15 => ?_)
            · (try simp only [go_sem] at hb4_15)
              refine vcX_cut 4 fun K50 hK50 => ?_
              try simp (disch := omega) only [go_sem, ↓reduceIte, Nat.reduceEqDiff, reduceCtorEq, Nat.reduceAdd, Nat.reduceLeDiff, Nat.reduceMul, Int.reduceNeg, Int.reduceLT, Int.reduceAdd, Int.reduceSub, List.length_map]
              refine vcX_call _ _ (impl_AllDistinct gcc (x.vs ++ x.ps) (by rw [List.length_append]; omega)) rfl rfl (by first | rfl | simp [V.pures, V.pure, V.pures_t]) ?_
              rintro r4_17 h4_17 hh4_17 rfl -
              try simp (disch := omega) only [go_sem, ↓reduceIte, Nat.reduceEqDiff, reduceCtorEq, Nat.reduceAdd, Nat.reduceLeDiff, Nat.reduceMul, Int.reduceNeg, Int.reduceLT, Int.reduceAdd, Int.reduceSub, List.length_map]
              refine hK50 _ ?_
              refine vcX_bool (fun hb4_19 => ?_) (fun hb4_19 => ?_)
              · (try simp only [go_sem] at hb4_19)
                try simp (disch := omega) only [go_sem, ↓reduceIte, Nat.reduceEqDiff, reduceCtorEq, Nat.reduceAdd, Nat.reduceLeDiff, Nat.reduceMul, Int.reduceNeg, Int.reduceLT, Int.reduceAdd, Int.reduceSub, List.length_map]
                refine vcX_call _ _ (slices_ContainsFunc_string gcc 52 (fun s => !nameOk s) (x.vs ++ x.ps) (by omega) (fun a ha => impl_isHead_1 a (hsz a ha))) rfl rfl (by first | rfl | simp [V.pures, V.pure, V.pures_t]) ?_
                rintro r4_21 h4_21 hh4_21 rfl -
                try simp (disch := omega) only [go_sem, ↓reduceIte, Nat.reduceEqDiff, reduceCtorEq, Nat.reduceAdd, Nat.reduceLeDiff, Nat.reduceMul, Int.reduceNeg, Int.reduceLT, Int.reduceAdd, Int.reduceSub, List.length_map]
                refine hK43 _ ?_
                refine vc_ret ?_
                refine ⟨_, by first | rfl | (simp only [go_sem, resQ, List.mapM_cons, List.mapM_nil, ↓reduceIte, Nat.reduceEqDiff, Nat.reduceAdd, Nat.reduceLeDiff, reduceCtorEq]; rfl), [], [], .nil, by simp, by simp, fun hi_ h1_ => ⟨?_, rfl, rfl⟩, by simp⟩
                first
                | (have h_ : headOk x = false := by
                     rw [headOk]; first | (simp_all; done) | (simp_all; intros; omega)
                   rw [h_]; rfl)
                | (have h_ : headOk x = true := by
                     rw [headOk]; first | (simp_all; done) | (simp_all; intros; omega)
                   rw [h_]; rfl)
                | (have h_ : headOk x = (!(x.vs ++ x.ps).any fun s => !nameOk s) := by
                     rw [any_not, headOk]; simp_all
                   rw [h_]; rfl)
              · (try simp only [go_sem] at hb4_19)
                try simp (disch := omega) only [go_sem, ↓reduceIte, Nat.reduceEqDiff, reduceCtorEq, Nat.reduceAdd, Nat.reduceLeDiff, Nat.reduceMul, Int.reduceNeg, Int.reduceLT, Int.reduceAdd, Int.reduceSub, List.length_map]
                refine hK43 _ ?_
                refine vc_ret ?_
                refine ⟨_, by first | rfl | (simp only [go_sem, resQ, List.mapM_cons, List.mapM_nil, ↓reduceIte, Nat.reduceEqDiff, Nat.reduceAdd, Nat.reduceLeDiff, reduceCtorEq]; rfl), [], [], .nil, by simp, by simp, fun hi_ h1_ => ⟨?_, rfl, rfl⟩, by simp⟩
                first
                | (have h_ : headOk x = false := by
                     rw [headOk]; first | (simp_all; done) | (simp_all; intros; omega)
                   rw [h_]; rfl)
                | (have h_ : headOk x = true := by
                     rw [headOk]; first | (simp_all; done) | (simp_all; intros; omega)
                   rw [h_]; rfl)
                | (have h_ : headOk x = (!(x.vs ++ x.ps).any fun s => !nameOk s) := by
                     rw [any_not, headOk]; simp_all
                   rw [h_]; rfl)
            · (try simp only [go_sem] at hb4_15)
              try simp (disch := omega) only [go_sem, ↓reduceIte, Nat.reduceEqDiff, reduceCtorEq, Nat.reduceAdd, Nat.reduceLeDiff, Nat.reduceMul, Int.reduceNeg, Int.reduceLT, Int.reduceAdd, Int.reduceSub, List.length_map]
              refine hK43 _ ?_
              refine vc_ret ?_
              refine ⟨_, by first | rfl | (simp only [go_sem, resQ, List.mapM_cons, List.mapM_nil, ↓reduceIte, Nat.reduceEqDiff, Nat.reduceAdd, Nat.reduceLeDiff, reduceCtorEq]; rfl), [], [], .nil, by simp, by simp, fun hi_ h1_ => ⟨?_, rfl, rfl⟩, by simp⟩
              first
              | (have h_ : headOk x = false := by
                   rw [headOk]; first | (simp_all; done) | (simp_all; intros; omega)
                 rw [h_]; rfl)
              | (have h_ : headOk x = true := by
                   rw [headOk]; first | (simp_all; done) | (simp_all; intros; omega)
                 rw [h_]; rfl)
              | (have h_ : headOk x = (!(x.vs ++ x.ps).any fun s => !nameOk s) := by
                   rw [any_not, headOk]; simp_all
                 rw [h_]; rfl)
          · (try simp only [go_sem] at hb4_9)
            try simp (disch := omega) only [go_sem, ↓reduceIte, Nat.reduceEqDiff, reduceCtorEq, Nat.reduceAdd, Nat.reduceLeDiff, Nat.reduceMul, Int.reduceNeg, Int.reduceLT, Int.reduceAdd, Int.reduceSub, List.length_map]
            refine hK43 _ ?_
            refine vc_ret ?_
            refine ⟨_, by first | rfl | (simp only [go_sem, resQ, List.mapM_cons, List.mapM_nil, ↓reduceIte, Nat.reduceEqDiff, Nat.reduceAdd, Nat.reduceLeDiff, reduceCtorEq]; rfl), [], [], .nil, by simp, by simp, fun hi_ h1_ => ⟨?_, rfl, rfl⟩, by simp⟩
            first
            | (have h_ : headOk x = false := by
                 rw [headOk]; first | (simp_all; done) | (simp_all; intros; omega)
               rw [h_]; rfl)
            | (have h_ : headOk x = true := by
                 rw [headOk]; first | (simp_all; done) | (simp_all; intros; omega)
               rw [h_]; rfl)
            | (have h_ : headOk x = (!(x.vs ++ x.ps).any fun s => !nameOk s) := by
                 rw [any_not, headOk]; simp_all
               rw [h_]; rfl)
        · (try simp only [go_sem] at hb4_3)
          try simp (disch := omega) only [go_sem, ↓reduceIte, Nat.reduceEqDiff, reduceCtorEq, Nat.reduceAdd, Nat.reduceLeDiff, Nat.reduceMul, Int.reduceNeg, Int.reduceLT, Int.reduceAdd, Int.reduceSub, List.length_map]
          refine hK43 _ ?_
          refine vc_ret ?_
          refine ⟨_, by first | rfl | (simp only [go_sem, resQ, List.mapM_cons, List.mapM_nil, ↓reduceIte, Nat.reduceEqDiff, Nat.reduceAdd, Nat.reduceLeDiff, reduceCtorEq]; rfl), [], [], .nil, by simp, by simp, fun hi_ h1_ => ⟨?_, rfl, rfl⟩, by simp⟩
          first
          | (have h_ : headOk x = false := by
               rw [headOk]; first | (simp_all; done) | (simp_all; intros; omega)
             rw [h_]; rfl)
          | (have h_ : headOk x = true := by
               rw [headOk]; first | (simp_all; done) | (simp_all; intros; omega)
             rw [h_]; rfl)
          | (have h_ : headOk x = (!(x.vs ++ x.ps).any fun s => !nameOk s) := by
               rw [any_not, headOk]; simp_all
             rw [h_]; rfl)
end Go.Proofs.YtldhhppfnhgcdaaGreat
