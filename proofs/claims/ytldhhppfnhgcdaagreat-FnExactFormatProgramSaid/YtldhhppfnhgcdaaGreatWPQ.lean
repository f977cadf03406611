/- Walks through the code: each function's contract. -/
import Derived.Test.YtldhhppfnhgcdaaGreatWNQ
set_option linter.unusedVariables false
set_option linter.unusedSimpArgs false
set_option maxRecDepth 8000
namespace Go.Proofs.YtldhhppfnhgcdaaGreat
open Go Go.VL

/-- slices.Grow[[]string,string] -/
theorem slices_Grow_string (n : Nat) (hn : n ≤ 4194304) : Ctr Tryz.prog 61 [.nil0, .t (.int .i64 n)] [] (fun _ _ r σ' => (r = .nil0 ∧ σ' = [] ∧ n = 0) ∨ ∃ (g m : Nat) (es : List (List V)), r = .own 0 0 0 0 ∧ σ' = [.row g 0 1 m es] ∧ 0 < n) := by
  refine Ctr.of_vc (rs := [.tmp 4]) (fn := Tryz.f61) mixed Tryz.func61 rfl rfl (by kernel_rfl) (by kernel_rfl) (by simp [Tryz.ntmps61]) (fun h0 => ?_)
  refine vc_seq fun K1 hK1 => ?_
  refine vc_reg ?_
  try simp (disch := omega) only [go_sem, ↓reduceIte, Nat.reduceEqDiff, reduceCtorEq, Nat.reduceAdd, Nat.reduceLeDiff, Nat.reduceMul, Int.reduceNeg, Int.reduceLT, Int.reduceAdd, Int.reduceSub]
  refine hK1 _ ?_
  refine vc_seq fun K2 hK2 => ?_
  refine vc_seq fun K3 hK3 => ?_
  refine vc_reg ?_
  try simp (disch := omega) only [go_sem, ↓reduceIte, Nat.reduceEqDiff, reduceCtorEq, Nat.reduceAdd, Nat.reduceLeDiff, Nat.reduceMul, Int.reduceNeg, Int.reduceLT, Int.reduceAdd, Int.reduceSub]
  refine hK3 _ ?_
  refine vc_cond (t := _) rfl (fun hc1 => ?_) (fun hc1 => ?_)
  · exact absurd hc1 (by simp)
  · (try simp only [go_sem] at hc1)
    refine vc_skip ?_
    refine hK2 _ ?_
    refine vc_seq fun K4 hK4 => ?_
    refine vc_seq fun K5 hK5 => ?_
    refine vc_reg ?_
    try simp (disch := omega) only [go_sem, ↓reduceIte, Nat.reduceEqDiff, reduceCtorEq, Nat.reduceAdd, Nat.reduceLeDiff, Nat.reduceMul, Int.reduceNeg, Int.reduceLT, Int.reduceAdd, Int.reduceSub, show IntKind.i64.wrap (0 - 0 : Int) = 0 from rfl, Int.sub_zero, w64 (show -9223372036854775808 ≤ (n : Int) ∧ (n : Int) ≤ 9223372036854775807 by omega)]
    refine hK5 _ ?_
    refine vc_seq fun K6 hK6 => ?_
    refine vc_reg ?_
    try simp (disch := omega) only [go_sem, ↓reduceIte, Nat.reduceEqDiff, reduceCtorEq, Nat.reduceAdd, Nat.reduceLeDiff, Nat.reduceMul, Int.reduceNeg, Int.reduceLT, Int.reduceAdd, Int.reduceSub]
    refine hK6 _ ?_
    refine vc_cond (t := _) rfl (fun hc2 => ?_) (fun hc2 => ?_)
    · (try simp only [go_sem] at hc2)
      refine vc_reg ?_
      try simp (disch := omega) only [go_sem, ↓reduceIte, Nat.reduceEqDiff, reduceCtorEq, Nat.reduceAdd, Nat.reduceLeDiff, Nat.reduceMul, Int.reduceNeg, Int.reduceLT, Int.reduceAdd, Int.reduceSub, show (0 : Int) ≤ (n : Int) ∧ (n : Int) ≤ 9223372036854775807 by omega, Int.toNat_natCast, List.length_replicate]
      refine x_app_nil (List.replicate n [V.t (.str ⟨#[]⟩)]) (show tElem Tryz.prog 36 = some 9 by kernel_rfl) (show tSize Tryz.prog 9 = some 1 by kernel_rfl) (show tZero Tryz.prog 9 = some [.t (.str ⟨#[]⟩)] by kernel_rfl) (show tBytes Tryz.prog 9 = some 16 by kernel_rfl) rfl (by first | rfl | (simp (disch := omega) only [go_sem, ↓reduceIte, Nat.reduceEqDiff, reduceCtorEq, Nat.reduceAdd, Nat.reduceLeDiff, Nat.reduceMul, Int.reduceNeg, Int.reduceLT, Int.reduceAdd, Int.reduceSub, show (0 : Int) ≤ (n : Int) ∧ (n : Int) ≤ 9223372036854775807 by omega, Int.toNat_natCast, List.length_replicate, appElems, St.elems])) (by simp) (fun e he => by rw [(List.mem_replicate.1 he).2]; simp [V.leaf]) (by rw [List.length_replicate]; omega) (by rw [List.length_replicate]; omega) ?_
      rintro g5_5 m5_5 hg5_5
      try simp (disch := omega) only [go_sem, ↓reduceIte, Nat.reduceEqDiff, reduceCtorEq, Nat.reduceAdd, Nat.reduceLeDiff, Nat.reduceMul, Int.reduceNeg, Int.reduceLT, Int.reduceAdd, Int.reduceSub, show (0 : Int) ≤ (n : Int) ∧ (n : Int) ≤ 9223372036854775807 by omega, Int.toNat_natCast, List.length_replicate]
      refine hK4 _ ?_
      refine vc_seq fun K7 hK7 => ?_
      refine vc_reg ?_
      try simp (disch := omega) only [go_sem, ↓reduceIte, Nat.reduceEqDiff, reduceCtorEq, Nat.reduceAdd, Nat.reduceLeDiff, Nat.reduceMul, Int.reduceNeg, Int.reduceLT, Int.reduceAdd, Int.reduceSub]
      refine hK7 _ ?_
      refine vc_ret ?_
      refine ⟨_, by first | rfl | (simp only [go_sem, resQ, List.mapM_cons, List.mapM_nil]; rfl), [0], [], by simp, by simp, by simp, fun hi_ h1_ => .inr ⟨g5_5, m5_5, _, rfl, rfl, by omega⟩, by simp⟩
    · (try simp only [go_sem] at hc2)
      refine vc_skip ?_
      refine hK4 _ ?_
      refine vc_seq fun K8 hK8 => ?_
      refine vc_reg ?_
      try simp (disch := omega) only [go_sem, ↓reduceIte, Nat.reduceEqDiff, reduceCtorEq, Nat.reduceAdd, Nat.reduceLeDiff, Nat.reduceMul, Int.reduceNeg, Int.reduceLT, Int.reduceAdd, Int.reduceSub]
      refine hK8 _ ?_
      refine vc_ret ?_
      refine ⟨_, by first | rfl | (simp only [go_sem, resQ, List.mapM_cons, List.mapM_nil]; rfl), [], [], by simp, by simp, by simp, fun hi_ h1_ => .inl ⟨rfl, rfl, by omega⟩, by simp⟩

end Go.Proofs.YtldhhppfnhgcdaaGreat
namespace Go.VL
/-- Lists of strings, one behind another. -/
def cat (L : List (Nat × List ByteArray)) : List ByteArray := L.flatMap (·.2)
def catL (L : List (Nat × List ByteArray)) : Nat := (cat L).length
theorem cat_drop {L : List (Nat × List ByteArray)} {n : Nat} (h : n < L.length) : cat (L.take (n + 1)) = cat (L.take n) ++ L[n].2 := by
  rw [cat, List.take_add_one, List.getElem?_eq_getElem h, List.flatMap_append]; simp [cat]
theorem cat_le {L : List (Nat × List ByteArray)} (n : Nat) : (cat (L.take n)).length ≤ catL L := by
  have : cat L = cat (L.take n) ++ cat (L.drop n) := by rw [cat, cat, cat, ← List.flatMap_append, List.take_append_drop]
  rw [catL, this, List.length_append]; omega
theorem Vs_ok (xs : List ByteArray) : ∀ e ∈ Vs xs, e.length = 1 ∧ ∀ c ∈ e, V.leaf c = true := by
  intro e he
  obtain ⟨x, _, rfl⟩ := List.mem_map.1 he
  exact ⟨rfl, fun c hc => by obtain rfl := List.mem_singleton.1 hc; rfl⟩
end Go.VL
namespace Go.Proofs.YtldhhppfnhgcdaaGreat
open Go Go.VL

/-- slices.Concat[[]string,string] -/
theorem slices_Concat_string (g : Nat) (L : List (Nat × List ByteArray)) (hl : L.length < 1000) (hw : catL L ≤ 4194304) : OCtr Tryz.prog 28 [.t (.sl g (L.map fun p => [T.sl p.1 (Ts p.2)]))] (fun s ts => s = .one ∧ ∃ g', ts = [.sl g' (Ts (cat L))]) := by
  unfold OCtr
  refine Ctr.of_vc (rs := [.tmp 2]) (fn := Tryz.f28) mixed Tryz.func28 rfl rfl (by kernel_rfl) (by kernel_rfl) (by simp [Tryz.ntmps28]) (fun h0 => ?_)
  refine vc_seq fun K1 hK1 => ?_
  refine vc_reg ?_
  try simp (disch := omega) only [go_sem, ↓reduceIte, Nat.reduceEqDiff, reduceCtorEq, Nat.reduceAdd, Nat.reduceLeDiff, Nat.reduceMul, Int.reduceNeg, Int.reduceLT, Int.reduceAdd, Int.reduceSub]
  refine hK1 _ ?_
  refine vc_seq fun K2 hK2 => ?_
  refine vc_reg ?_
  try simp (disch := omega) only [go_sem, ↓reduceIte, Nat.reduceEqDiff, reduceCtorEq, Nat.reduceAdd, Nat.reduceLeDiff, Nat.reduceMul, Int.reduceNeg, Int.reduceLT, Int.reduceAdd, Int.reduceSub]
  refine hK2 _ ?_
  refine vc_seq fun K3 hK3 => ?_
  refine vc_seq fun K4 hK4 => ?_
  refine vc_reg ?_
  try simp (disch := omega) only [go_sem, ↓reduceIte, Nat.reduceEqDiff, reduceCtorEq, Nat.reduceAdd, Nat.reduceLeDiff, Nat.reduceMul, Int.reduceNeg, Int.reduceLT, Int.reduceAdd, Int.reduceSub]
  refine hK4 _ ?_
  refine vc_block ?_
  refine vc_loop (fun m s => ∃ (n : Nat), (m = L.length - n) ∧ (s.σ = []) ∧ (s.env 0 = .t (.sl g (L.map fun p => [T.sl p.1 (Ts p.2)]))) ∧ (s.env 9 = .t (.sl g (L.map fun p => [T.sl p.1 (Ts p.2)]))) ∧ (s.env 10 = .t (.int .i64 L.length)) ∧ (s.env 11 = .t (.int .i64 n)) ∧ (s.env 3 = .t (.int .i64 (cat (L.take n)).length)) ∧ (n ≤ L.length)) (L.length - 0) ⟨0, rfl, rfl, (by first | rfl | assumption), (by first | rfl | assumption), (by first | rfl | assumption), (by first | rfl | assumption), (by first | rfl | assumption), (by first | rfl | omega | simp)⟩ ?_
  rintro m ⟨e, σ, h⟩ ⟨n, hm, hσ, e0, e9, e10, e11, e3, hn⟩ K5 hK5
  simp only at hσ e0 e9 e10 e11 e3
  subst hσ
  refine vc_seq fun K6 hK6 => ?_
  refine vc_reg ?_
  try simp (disch := omega) only [go_sem, ↓reduceIte, Nat.reduceEqDiff, reduceCtorEq, Nat.reduceAdd, Nat.reduceLeDiff, Nat.reduceMul, Int.reduceNeg, Int.reduceLT, Int.reduceAdd, Int.reduceSub, e0, e9, e10, e11, e3]
  refine hK6 _ ?_
  refine vc_seq fun K7 hK7 => ?_
  refine vc_cond (t := _) rfl (fun hc1 => ?_) (fun hc1 => ?_)
  · (try simp only [go_sem] at hc1)
    refine vc_skip ?_
    refine hK7 _ ?_
    refine vc_seq fun K8 hK8 => ?_
    refine vc_block ?_
    refine vc_seq fun K9 hK9 => ?_
    have hlt : n < L.length := by omega
    have hget : (L.map fun p => [T.sl p.1 (Ts p.2)])[n]? = some [T.sl L[n].1 (Ts L[n].2)] := by simp [hlt]
    have hcd := cat_drop hlt
    have hle := cat_le (L := L) (n + 1)
    rw [hcd, List.length_append] at hle
    have hz := cat_le (L := L) n
    have hcl : ((cat (L.take n)).length : Int) + (L[n].2.length : Int) = ((cat (L.take (n + 1))).length : Int) := by rw [hcd, List.length_append, Int.natCast_add]
    refine vc_reg ?_
    try simp (disch := omega) only [go_sem, ↓reduceIte, Nat.reduceEqDiff, reduceCtorEq, Nat.reduceAdd, Nat.reduceLeDiff, Nat.reduceMul, Int.reduceNeg, Int.reduceLT, Int.reduceAdd, Int.reduceSub, e0, e9, e10, e11, e3, List.getElem?_map, List.getElem?_eq_getElem hlt, Option.map_some]
    refine hK9 _ ?_
    refine vc_seq fun K10 hK10 => ?_
    refine vc_reg ?_
    try simp (disch := omega) only [go_sem, ↓reduceIte, Nat.reduceEqDiff, reduceCtorEq, Nat.reduceAdd, Nat.reduceLeDiff, Nat.reduceMul, Int.reduceNeg, Int.reduceLT, Int.reduceAdd, Int.reduceSub, e0, e9, e10, e11, e3, Ts_len, w64 (show -9223372036854775808 ≤ (((cat (L.take n)).length : Nat) : Int) + (L[n].2.length : Nat) ∧ (((cat (L.take n)).length : Nat) : Int) + (L[n].2.length : Nat) ≤ 9223372036854775807 by omega), hcl]
    refine hK10 _ ?_
    refine vc_seq fun K11 hK11 => ?_
    refine vc_reg ?_
    try simp (disch := omega) only [go_sem, ↓reduceIte, Nat.reduceEqDiff, reduceCtorEq, Nat.reduceAdd, Nat.reduceLeDiff, Nat.reduceMul, Int.reduceNeg, Int.reduceLT, Int.reduceAdd, Int.reduceSub, e0, e9, e10, e11, e3]
    refine hK11 _ ?_
    refine vc_cond (t := _) rfl (fun hc2 => ?_) (fun hc2 => ?_)
    · exact absurd hc2 (by first | (simp; done) | (simp; omega))
    · (try simp only [go_sem] at hc2)
      refine vc_skip ?_
      refine hK8 _ ?_
      refine vc_reg ?_
      try simp (disch := omega) only [go_sem, ↓reduceIte, Nat.reduceEqDiff, reduceCtorEq, Nat.reduceAdd, Nat.reduceLeDiff, Nat.reduceMul, Int.reduceNeg, Int.reduceLT, Int.reduceAdd, Int.reduceSub, e0, e9, e10, e11, e3]
      refine hK5 _ _ ?_ ⟨n + 1, rfl, rfl, (by first | rfl | assumption), (by first | rfl | assumption), (by first | rfl | assumption), (by first | rfl | assumption), (by first | rfl | assumption), ?_⟩
      · omega
      · first | omega | assumption | rfl | simp_all
  · (try simp only [go_sem] at hc1)
    refine vc_exit ?_
    refine hK3 _ ?_
    refine vc_seq fun K12 hK12 => ?_
    have hz := cat_le (L := L) n
    refine vc_reg ?_
    try simp (disch := omega) only [go_sem, ↓reduceIte, Nat.reduceEqDiff, reduceCtorEq, Nat.reduceAdd, Nat.reduceLeDiff, Nat.reduceMul, Int.reduceNeg, Int.reduceLT, Int.reduceAdd, Int.reduceSub, e0, e9, e10, e11, e3]
    refine vcX_callF [] [] [.nil0, .t (.int .i64 (cat (L.take n)).length)] [] _ (slices_Grow_string (cat (L.take n)).length (by omega)) (by first | rfl | simp (disch := omega) only [go_sem, ↓reduceIte, Nat.reduceEqDiff, reduceCtorEq, Nat.reduceAdd, Nat.reduceLeDiff, Nat.reduceMul, Int.reduceNeg, Int.reduceLT, Int.reduceAdd, Int.reduceSub, e0, e9, e10, e11, e3]) (by simp) (by simp) (by simp) rfl (Subs.of_eq (by first | rfl | (simp (disch := omega) only [go_sem, ↓reduceIte, Nat.reduceEqDiff, reduceCtorEq, Nat.reduceAdd, Nat.reduceLeDiff, Nat.reduceMul, Int.reduceNeg, Int.reduceLT, Int.reduceAdd, Int.reduceSub, e0, e9, e10, e11, e3]) | (simp only [go_sem, V.loc, V.locs, idx]; done))) ?_
    rintro r σ1 h9_1 hh9_1 hR
    refine ⟨by simp, ?_⟩
    have hC0 : Cat (catL L) (backObs [] [] σ1) 1 [] (r.back [] ([] : List Ob).length) := by
      rcases hR with ⟨rfl, rfl, _⟩ | ⟨g, m, es, rfl, rfl, hpos⟩
      · exact .inl ⟨rfl, rfl, rfl⟩
      · exact .inr ⟨g, 0, m, _, rfl, rfl, .inr ⟨rfl, by omega⟩⟩
    generalize backObs [] [] σ1 = σ9_1 at hC0 ⊢
    generalize r.back [] ([] : List Ob).length = r9_1 at hC0 ⊢
    try simp (disch := omega) only [go_sem, ↓reduceIte, Nat.reduceEqDiff, reduceCtorEq, Nat.reduceAdd, Nat.reduceLeDiff, Nat.reduceMul, Int.reduceNeg, Int.reduceLT, Int.reduceAdd, Int.reduceSub, e0, e9, e10, e11, e3]
    refine hK12 _ ?_
    refine vc_seq fun K13 hK13 => ?_
    refine vc_seq fun K14 hK14 => ?_
    refine vc_reg ?_
    try simp (disch := omega) only [go_sem, ↓reduceIte, Nat.reduceEqDiff, reduceCtorEq, Nat.reduceAdd, Nat.reduceLeDiff, Nat.reduceMul, Int.reduceNeg, Int.reduceLT, Int.reduceAdd, Int.reduceSub, e0, e9, e10, e11, e3]
    refine hK14 _ ?_
    refine vc_block ?_
    refine vc_loop (fun m s => ∃ (n : Nat) (v : V) (σ1 : List Ob), (m = L.length - n) ∧ (s.σ = σ1) ∧ (s.env 25 = .t (.sl g (L.map fun p => [T.sl p.1 (Ts p.2)]))) ∧ (s.env 26 = .t (.int .i64 L.length)) ∧ (s.env 27 = .t (.int .i64 n)) ∧ (s.env 6 = v) ∧ (n ≤ L.length) ∧ (Cat (catL L) σ1 1 (Vs (cat (L.take n))) v)) (L.length - 0) ⟨0, r9_1, σ9_1, rfl, (by first | rfl | simp), (by first | rfl | assumption), (by first | rfl | assumption), (by first | rfl | assumption), (by first | rfl | assumption), (by first | rfl | omega | simp), (by exact hC0)⟩ ?_
    rintro m ⟨e, σ, h⟩ ⟨n, v, σ1, hm, hσ, e25, e26, e27, e6, hn, hC⟩ K15 hK15
    simp only at hσ e25 e26 e27 e6
    subst hσ
    refine vc_seq fun K16 hK16 => ?_
    refine vc_reg ?_
    try simp (disch := omega) only [go_sem, ↓reduceIte, Nat.reduceEqDiff, reduceCtorEq, Nat.reduceAdd, Nat.reduceLeDiff, Nat.reduceMul, Int.reduceNeg, Int.reduceLT, Int.reduceAdd, Int.reduceSub, e25, e26, e27, e6]
    refine hK16 _ ?_
    refine vc_seq fun K17 hK17 => ?_
    refine vc_cond (t := _) rfl (fun hc3 => ?_) (fun hc3 => ?_)
    · (try simp only [go_sem] at hc3)
      refine vc_skip ?_
      refine hK17 _ ?_
      refine vc_seq fun K18 hK18 => ?_
      refine vc_block ?_
      refine vc_seq fun K19 hK19 => ?_
      have hlt : n < L.length := by omega
      have hcd := cat_drop hlt
      have hle := cat_le (L := L) (n + 1)
      rw [hcd, List.length_append] at hle
      refine vc_reg ?_
      try simp (disch := omega) only [go_sem, ↓reduceIte, Nat.reduceEqDiff, reduceCtorEq, Nat.reduceAdd, Nat.reduceLeDiff, Nat.reduceMul, Int.reduceNeg, Int.reduceLT, Int.reduceAdd, Int.reduceSub, e25, e26, e27, e6, List.getElem?_map, List.getElem?_eq_getElem hlt, Option.map_some]
      refine hK19 _ ?_
      refine vc_reg ?_
      try simp (disch := omega) only [go_sem, ↓reduceIte, Nat.reduceEqDiff, reduceCtorEq, Nat.reduceAdd, Nat.reduceLeDiff, Nat.reduceMul, Int.reduceNeg, Int.reduceLT, Int.reduceAdd, Int.reduceSub, e25, e26, e27, e6, Ts_V]
      refine x_cat (Vs L[n].2) (show tElem Tryz.prog 36 = some 9 by kernel_rfl) (show tSize Tryz.prog 9 = some 1 by kernel_rfl) (show tZero Tryz.prog 9 = some [.t (.str ⟨#[]⟩)] by kernel_rfl) (show tBytes Tryz.prog 9 = some 16 by kernel_rfl) rfl hC (by first | rfl | (simp (disch := omega) only [go_sem, ↓reduceIte, Nat.reduceEqDiff, reduceCtorEq, Nat.reduceAdd, Nat.reduceLeDiff, Nat.reduceMul, Int.reduceNeg, Int.reduceLT, Int.reduceAdd, Int.reduceSub, e25, e26, e27, e6, Ts_V, appElems, St.elems])) (by simp) (Vs_ok _) (by rw [Vs_len, Vs_len]; omega) ?_
      rintro v13_2 σ13_2 h13_2 hC13_2 hh13_2
      try simp (disch := omega) only [go_sem, ↓reduceIte, Nat.reduceEqDiff, reduceCtorEq, Nat.reduceAdd, Nat.reduceLeDiff, Nat.reduceMul, Int.reduceNeg, Int.reduceLT, Int.reduceAdd, Int.reduceSub, e25, e26, e27, e6, Ts_V]
      refine hK18 _ ?_
      refine vc_reg ?_
      try simp (disch := omega) only [go_sem, ↓reduceIte, Nat.reduceEqDiff, reduceCtorEq, Nat.reduceAdd, Nat.reduceLeDiff, Nat.reduceMul, Int.reduceNeg, Int.reduceLT, Int.reduceAdd, Int.reduceSub, e25, e26, e27, e6]
      refine hK15 _ _ ?_ ⟨n + 1, v13_2, σ13_2, rfl, (by first | rfl | simp), (by first | rfl | assumption), (by first | rfl | assumption), (by first | rfl | assumption), (by first | rfl | assumption), ?_, ?_⟩
      · omega
      · first | omega | assumption | rfl | simp_all
      · rw [hcd, Vs_app]; exact hC13_2
    · (try simp only [go_sem] at hc3)
      refine vc_exit ?_
      refine hK13 _ ?_
      refine vc_seq fun K20 hK20 => ?_
      refine vc_reg ?_
      try simp (disch := omega) only [go_sem, ↓reduceIte, Nat.reduceEqDiff, reduceCtorEq, Nat.reduceAdd, Nat.reduceLeDiff, Nat.reduceMul, Int.reduceNeg, Int.reduceLT, Int.reduceAdd, Int.reduceSub, e25, e26, e27, e6]
      refine hK20 _ ?_
      refine vc_ret ?_
      have hnn : n = L.length := by omega
      rw [hnn, List.take_length] at hC
      obtain ⟨d, S, hT, g', hg'⟩ := Cat.tr hC
      exact retO (h0 := h0) (Q := (fun s ts => s = .one ∧ ∃ g', ts = [.sl g' (Ts (cat L))])) .one rfl rfl trivial (TrL_one hT) ⟨rfl, g', by rw [D.erL, D.erL, hg']⟩

theorem un_app : ∀ (xs acc ys : List ByteArray), un acc (xs ++ ys) = un (un acc xs) ys
  | [], acc, ys => rfl
  | x :: l, acc, ys => by rw [List.cons_append, un, un]; split <;> exact un_app l _ ys
theorem un_len : ∀ (xs acc : List ByteArray), (un acc xs).length ≤ acc.length + xs.length
  | [], acc => Nat.le_refl _
  | x :: l, acc => by
    rw [un, List.length_cons]
    split
    · have := un_len l acc; omega
    · have := un_len l (acc ++ [x]); rw [List.length_append] at this; simp at this; omega

/-- impl.UniteNames -/
theorem impl_UniteNames (g g2 : Nat) (xs ys : List ByteArray) (hx : xs.length ≤ 1048576) (hy : ys.length ≤ 1048576) : OCtr Tryz.prog 87 [.t (.sl g (Ts xs)), .t (.sl g2 (Ts ys))] (fun s ts => s = .one ∧ ∃ g', ts = [.sl g' (Ts (un [] (xs ++ ys)))]) := by
  unfold OCtr
  refine Ctr.of_vc (rs := [.tmp 4]) (fn := Tryz.f87) mixed Tryz.func87 rfl rfl (by kernel_rfl) (by kernel_rfl) (by simp [Tryz.ntmps87]) (fun h0 => ?_)
  refine vc_seq fun K1 hK1 => ?_
  refine vc_reg ?_
  try simp (disch := omega) only [go_sem, ↓reduceIte, Nat.reduceEqDiff, reduceCtorEq, Nat.reduceAdd, Nat.reduceLeDiff, Nat.reduceMul, Int.reduceNeg, Int.reduceLT, Int.reduceAdd, Int.reduceSub]
  refine hK1 _ ?_
  refine vc_seq fun K2 hK2 => ?_
  refine vc_reg ?_
  try simp (disch := omega) only [go_sem, ↓reduceIte, Nat.reduceEqDiff, reduceCtorEq, Nat.reduceAdd, Nat.reduceLeDiff, Nat.reduceMul, Int.reduceNeg, Int.reduceLT, Int.reduceAdd, Int.reduceSub]
  refine hK2 _ ?_
  refine vc_seq fun K3 hK3 => ?_
  refine vc_seq fun K4 hK4 => ?_
  have hca : cat [(g, xs), (g2, ys)] = xs ++ ys := by simp [cat]
  have hcl : (xs ++ ys).length ≤ 2097152 := by rw [List.length_append]; omega
  refine vc_reg ?_
  try simp (disch := omega) only [go_sem, ↓reduceIte, Nat.reduceEqDiff, reduceCtorEq, Nat.reduceAdd, Nat.reduceLeDiff, Nat.reduceMul, Int.reduceNeg, Int.reduceLT, Int.reduceAdd, Int.reduceSub]
  refine .inl ⟨by simp [bsOk], fun g2_2 hg2_2 => ?_⟩
  try simp (disch := omega) only [go_sem, ↓reduceIte, Nat.reduceEqDiff, reduceCtorEq, Nat.reduceAdd, Nat.reduceLeDiff, Nat.reduceMul, Int.reduceNeg, Int.reduceLT, Int.reduceAdd, Int.reduceSub]
  refine x_callN (caps := []) [0] [.t (.sl g2_2 ([(g, xs), (g2, ys)].map fun p => [T.sl p.1 (Ts p.2)]))] _ ((slices_Concat_string g2_2 [(g, xs), (g2, ys)] (by simp) (by rw [catL, hca]; omega)).fresh (by rintro s ts ⟨_, g', rfl⟩; exact .inl rfl)) (by first | rfl | simp (disch := omega) only [go_sem, ↓reduceIte, Nat.reduceEqDiff, reduceCtorEq, Nat.reduceAdd, Nat.reduceLeDiff, Nat.reduceMul, Int.reduceNeg, Int.reduceLT, Int.reduceAdd, Int.reduceSub]) ?_ ?_
  · refine Subs.of_eq ?_
    show [V.loc _ [] [0] (V.own 0 0 0 2)] = _
    rw [loc_frz (len := 2) [[T.sl g (Ts xs)], [T.sl g2 (Ts ys)]] rfl rfl (by simp) rfl]; rfl
  rintro r2_3 h2_3 hh2_3 ⟨s, ts, rfl, rfl, g11, rfl⟩ -
  rw [hca]
  try simp (disch := omega) only [go_sem, ↓reduceIte, Nat.reduceEqDiff, reduceCtorEq, Nat.reduceAdd, Nat.reduceLeDiff, Nat.reduceMul, Int.reduceNeg, Int.reduceLT, Int.reduceAdd, Int.reduceSub, Shp.v, List.headD_cons, Ts_len]
  refine hK4 _ ?_
  refine vc_block ?_
  refine vc_loop (fun m s => ∃ (n : Nat) (acc : List ByteArray) (S : List Nat) (v : V) (σ1 : List Ob), (m = (xs ++ ys).length - n) ∧ (s.σ = σ1) ∧ (s.env 11 = .t (.sl g11 (Ts (xs ++ ys)))) ∧ (s.env 12 = .t (.int .i64 (xs ++ ys).length)) ∧ (s.env 13 = .t (.int .i64 n)) ∧ (s.env 5 = v) ∧ (n ≤ (xs ++ ys).length) ∧ (acc.length ≤ n) ∧ (Tb σ1 1 (Ds acc) S v) ∧ (un acc ((xs ++ ys).drop n) = un [] (xs ++ ys))) ((xs ++ ys).length - 0) ⟨0, [], [], .nil0, _, rfl, (by first | rfl | simp), (by first | rfl | assumption), (by first | rfl | assumption), (by first | rfl | assumption), (by first | rfl | assumption), (by first | rfl | omega | simp), (by first | rfl | omega | simp), (by exact Tb_nil), (by rfl)⟩ ?_
  rintro m ⟨e, σ, h⟩ ⟨n, acc, S, v, σ1, hm, hσ, e11, e12, e13, e5, hn, hal, hT, hun⟩ K5 hK5
  simp only at hσ e11 e12 e13 e5
  subst hσ
  refine vc_seq fun K6 hK6 => ?_
  refine vc_reg ?_
  try simp (disch := omega) only [go_sem, ↓reduceIte, Nat.reduceEqDiff, reduceCtorEq, Nat.reduceAdd, Nat.reduceLeDiff, Nat.reduceMul, Int.reduceNeg, Int.reduceLT, Int.reduceAdd, Int.reduceSub, e11, e12, e13, e5]
  refine hK6 _ ?_
  refine vc_seq fun K7 hK7 => ?_
  refine vc_cond (t := _) rfl (fun hc1 => ?_) (fun hc1 => ?_)
  · (try simp only [go_sem] at hc1)
    refine vc_skip ?_
    refine hK7 _ ?_
    refine vc_seq fun K8 hK8 => ?_
    refine vc_block ?_
    refine vc_seq fun K9 hK9 => ?_
    have hlt : n < (xs ++ ys).length := by omega
    have hget : (Ts (xs ++ ys))[n]? = some [T.str (xs ++ ys)[n]] := by rw [Ts, List.getElem?_map, List.getElem?_eq_getElem hlt]; rfl
    have hdr := un_drop (acc := acc) hlt
    obtain ⟨gl, hlend⟩ := hT.lend
    rw [Ds_er] at hlend
    refine vc_reg ?_
    try simp (disch := omega) only [go_sem, ↓reduceIte, Nat.reduceEqDiff, reduceCtorEq, Nat.reduceAdd, Nat.reduceLeDiff, Nat.reduceMul, Int.reduceNeg, Int.reduceLT, Int.reduceAdd, Int.reduceSub, e11, e12, e13, e5, hget]
    refine hK9 _ ?_
    refine vc_seq fun K10 hK10 => ?_
    refine vc_reg ?_
    try simp (disch := omega) only [go_sem, ↓reduceIte, Nat.reduceEqDiff, reduceCtorEq, Nat.reduceAdd, Nat.reduceLeDiff, Nat.reduceMul, Int.reduceNeg, Int.reduceLT, Int.reduceAdd, Int.reduceSub, e11, e12, e13, e5]
    refine vcX_callS (caps := []) S [.t (.sl gl (Ts acc)), .t (.str (xs ++ ys)[n])] _ (slices_Contains_string gl acc (xs ++ ys)[n] (by omega)) (by first | rfl | simp (disch := omega) only [go_sem, ↓reduceIte, Nat.reduceEqDiff, reduceCtorEq, Nat.reduceAdd, Nat.reduceLeDiff, Nat.reduceMul, Int.reduceNeg, Int.reduceLT, Int.reduceAdd, Int.reduceSub, e11, e12, e13, e5]) ?_ ?_
    · show Subs [V.loc _ [] S v, V.t (.str (xs ++ ys)[n])] _
      exact Subs.cons hlend (Subs.cons (.refl _) (Subs.nil))
    rintro r5_2 h5_2 hh5_2 rfl -
    refine ⟨fun q hq o ho hm => by simp [V.ids, T.ids] at hm, ?_⟩
    try simp (disch := omega) only [go_sem, ↓reduceIte, Nat.reduceEqDiff, reduceCtorEq, Nat.reduceAdd, Nat.reduceLeDiff, Nat.reduceMul, Int.reduceNeg, Int.reduceLT, Int.reduceAdd, Int.reduceSub, e11, e12, e13, e5]
    refine hK10 _ ?_
    refine vc_cond (t := _) rfl (fun hc2 => ?_) (fun hc2 => ?_)
    · (try simp only [go_sem] at hc2)
      refine vc_reg ?_
      try simp (disch := omega) only [go_sem, ↓reduceIte, Nat.reduceEqDiff, reduceCtorEq, Nat.reduceAdd, Nat.reduceLeDiff, Nat.reduceMul, Int.reduceNeg, Int.reduceLT, Int.reduceAdd, Int.reduceSub, e11, e12, e13, e5]
      refine .inl ⟨by simp [bsOk], fun g6_2 hg6_2 => ?_⟩
      try simp (disch := omega) only [go_sem, ↓reduceIte, Nat.reduceEqDiff, reduceCtorEq, Nat.reduceAdd, Nat.reduceLeDiff, Nat.reduceMul, Int.reduceNeg, Int.reduceLT, Int.reduceAdd, Int.reduceSub, e11, e12, e13, e5]
      refine x_appT [V.t (.str (xs ++ ys)[n])] (show tElem Tryz.prog 36 = some 9 by kernel_rfl) (show tSize Tryz.prog 9 = some 1 by kernel_rfl) (show tZero Tryz.prog 9 = some [.t (.str ⟨#[]⟩)] by kernel_rfl) (show tBytes Tryz.prog 9 = some 16 by kernel_rfl) rfl (hT.more _) (by first | rfl | (simp (disch := omega) only [go_sem, ↓reduceIte, Nat.reduceEqDiff, reduceCtorEq, Nat.reduceAdd, Nat.reduceLeDiff, Nat.reduceMul, Int.reduceNeg, Int.reduceLT, Int.reduceAdd, Int.reduceSub, e11, e12, e13, e5, appElems, St.elems])) (by simp) (TrL_one Tr_str) rfl (Dj_nil _) (by rw [Ds_len]; omega) ?_
      rintro v6_3 S6_3 σ6_3 h6_3 hT6_3 hk6_3 hS6_3 hl6_3 hle6_3 hh6_3
      try simp (disch := omega) only [go_sem, ↓reduceIte, Nat.reduceEqDiff, reduceCtorEq, Nat.reduceAdd, Nat.reduceLeDiff, Nat.reduceMul, Int.reduceNeg, Int.reduceLT, Int.reduceAdd, Int.reduceSub, e11, e12, e13, e5]
      refine hK8 _ ?_
      refine vc_reg ?_
      try simp (disch := omega) only [go_sem, ↓reduceIte, Nat.reduceEqDiff, reduceCtorEq, Nat.reduceAdd, Nat.reduceLeDiff, Nat.reduceMul, Int.reduceNeg, Int.reduceLT, Int.reduceAdd, Int.reduceSub, e11, e12, e13, e5]
      refine hK5 _ _ ?_ ⟨n + 1, acc ++ [(xs ++ ys)[n]], S6_3, v6_3, σ6_3, rfl, (by first | rfl | simp), (by first | rfl | assumption), (by first | rfl | assumption), (by first | rfl | assumption), (by first | rfl | assumption), ?_, ?_, ?_, ?_⟩
      · omega
      · first | omega | assumption | rfl | simp_all
      · rw [List.length_append]; simp; omega
      · rw [Ds_app]; exact hT6_3
      · rw [← hun, hdr, if_neg (by simpa using hc2)]
    · (try simp only [go_sem] at hc2)
      refine vc_skip ?_
      refine hK8 _ ?_
      refine vc_reg ?_
      try simp (disch := omega) only [go_sem, ↓reduceIte, Nat.reduceEqDiff, reduceCtorEq, Nat.reduceAdd, Nat.reduceLeDiff, Nat.reduceMul, Int.reduceNeg, Int.reduceLT, Int.reduceAdd, Int.reduceSub, e11, e12, e13, e5]
      refine hK5 _ _ ?_ ⟨n + 1, acc, S, v, σ, rfl, (by first | rfl | simp), (by first | rfl | assumption), (by first | rfl | assumption), (by first | rfl | assumption), (by first | rfl | assumption), ?_, ?_, ?_, ?_⟩
      · omega
      · first | omega | assumption | rfl | simp_all
      · first | omega | assumption | rfl | simp_all
      · first | omega | assumption | rfl | simp_all
      · rw [← hun, hdr, if_pos (by simpa using hc2)]
  · (try simp only [go_sem] at hc1)
    refine vc_exit ?_
    refine hK3 _ ?_
    refine vc_seq fun K11 hK11 => ?_
    refine vc_reg ?_
    try simp (disch := omega) only [go_sem, ↓reduceIte, Nat.reduceEqDiff, reduceCtorEq, Nat.reduceAdd, Nat.reduceLeDiff, Nat.reduceMul, Int.reduceNeg, Int.reduceLT, Int.reduceAdd, Int.reduceSub, e11, e12, e13, e5]
    refine hK11 _ ?_
    refine vc_ret ?_
    rw [List.drop_of_length_le (by omega), un] at hun
    obtain ⟨d, g', hd, hg⟩ := hT.tr
    exact retO (h0 := h0) (Q := (fun s ts => s = .one ∧ ∃ g', ts = [.sl g' (Ts (un [] (xs ++ ys)))])) .one rfl rfl trivial (TrL_one hd) ⟨rfl, g', by rw [D.erL, D.erL, hg, Ds_er, hun]⟩
end Go.Proofs.YtldhhppfnhgcdaaGreat
