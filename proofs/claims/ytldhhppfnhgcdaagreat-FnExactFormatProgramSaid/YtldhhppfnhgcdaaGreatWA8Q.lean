/- Walks through the code: each function's contract. -/
import Derived.Test.YtldhhppfnhgcdaaGreatWA7Q
import Derived.Test.YtldhhppfnhgcdaaGreatWRQ
import Derived.Test.YtldhhppfnhgcdaaGreatWHQ
import Derived.Test.YtldhhppfnhgcdaaGreatWXQ
set_option linter.unusedVariables false
set_option linter.unusedSimpArgs false
set_option maxRecDepth 8000
namespace Go.Proofs.YtldhhppfnhgcdaaGreat
open Go Go.VL

end Go.Proofs.YtldhhppfnhgcdaaGreat
namespace Go.VL
mutual
/-- The text of a term. -/
def E.tx : E → ByteArray
  | .mk k n us => if k = 4 then ⟨#[33]⟩ else if k = 1 ∨ (k = 2 ∧ us.length = 0) then n else n ++ ⟨#[40]⟩ ++ jn (E.txL us) ⟨#[44]⟩ ++ ⟨#[41]⟩
def E.txL : List E → List ByteArray
  | [] => []
  | e :: l => e.tx :: E.txL l
end
theorem E.txL_len : ∀ l : List E, (E.txL l).length = l.length
  | [] => rfl
  | e :: l => by rw [E.txL, List.length_cons, E.txL_len l, List.length_cons]
theorem E.txL_app : ∀ l l' : List E, E.txL (l ++ l') = E.txL l ++ E.txL l'
  | [], l' => rfl
  | e :: l, l' => by rw [List.cons_append, E.txL, E.txL_app l l', E.txL]; rfl
theorem E.txL_take {l : List E} {n : Nat} (h : n < l.length) : E.txL (l.take (n + 1)) = E.txL (l.take n) ++ [l[n].tx] := by
  rw [List.take_add_one, List.getElem?_eq_getElem h, E.txL_app]; rfl
theorem E.afL_mem : ∀ {l : List E} {e : E}, E.afL l = true → e ∈ l → e.af = true
  | [], e, _, h => by cases h
  | a :: l, e, h, hm => by
    rw [E.afL, Bool.and_eq_true] at h
    rcases List.mem_cons.1 hm with rfl | hm
    · exact h.1
    · exact E.afL_mem h.2 hm
theorem E.szL_mem' : ∀ {l : List E} {e : E}, e ∈ l → e.sz ≤ E.szL l
  | [], e, h => by cases h
  | a :: l, e, hm => by
    rw [E.szL]
    rcases List.mem_cons.1 hm with rfl | hm
    · omega
    · have := E.szL_mem' hm; omega
theorem sumB_app (xs ys : List ByteArray) : sumB (xs ++ ys) = sumB xs + sumB ys := by
  induction xs with
  | nil => simp [sumB]
  | cons a l ih => rw [List.cons_append, sumB, sumB, ih]; omega
theorem jn_size (xs : List ByteArray) : (jn xs ⟨#[44]⟩).size ≤ xs.length + sumB xs := by
  have h := jn_size_take xs ⟨#[44]⟩ xs.length (Nat.le_refl _)
  rw [List.take_length, show (⟨#[44]⟩ : ByteArray).size = 1 from rfl, Nat.mul_one] at h
  exact h
theorem E.tx_size (e : E) : e.tx.size + 1 ≤ e.wt + 4 * e.sz := by
  induction e using E.ind with
  | h k n us ih =>
    have hL : ∀ l : List E, (∀ a ∈ l, a.tx.size + 1 ≤ a.wt + 4 * a.sz) → (E.txL l).length + sumB (E.txL l) ≤ E.wtL l + 4 * E.szL l := by
      intro l
      induction l with
      | nil => exact fun _ => by simp [E.txL, sumB]
      | cons a l ihl =>
        intro h
        have h1 := h a List.mem_cons_self
        have h2 := ihl (fun b hb => h b (List.mem_cons_of_mem _ hb))
        rw [E.txL, List.length_cons, sumB, E.wtL, E.szL]
        omega
    have h1 := hL us ih
    have h2 := jn_size (E.txL us)
    rw [E.tx, E.wt, E.sz]
    split
    · show 1 + 1 ≤ _
      omega
    · split
      · omega
      · rw [ByteArray.size_append, ByteArray.size_append, ByteArray.size_append, show (⟨#[40]⟩ : ByteArray).size = 1 from rfl, show (⟨#[41]⟩ : ByteArray).size = 1 from rfl]
        omega
theorem E.txL_size (l : List E) : (E.txL l).length + sumB (E.txL l) ≤ E.wtL l + 4 * E.szL l := by
  induction l with
  | nil => simp [E.txL, sumB]
  | cons a l ih =>
    have := a.tx_size
    rw [E.txL, List.length_cons, sumB, E.wtL, E.szL]
    omega
theorem form_k {k : Int} {nm : ByteArray} {n : Nat} (h : formOk k nm n = true) : (k = 1 ∧ n = 0) ∨ k = 2 ∨ k = 3 ∨ k = 4 := by
  unfold formOk at h
  split at h
  · rename_i h1
    refine .inl ⟨h1, ?_⟩
    rw [Bool.and_eq_true] at h
    have := h.2
    simp only [beq_iff_eq] at this
    omega
  · split at h
    · rename_i h2; exact .inr (.inl h2)
    · split at h
      · rename_i h3; exact .inr (.inr (.inl h3))
      · split at h
        · rename_i h4; exact .inr (.inr (.inr h4))
        · cases h
theorem Tb.own {σ : List Ob} {sz : Nat} {ds : List (List D)} {S : List Nat} {v : V} (h : Tb σ sz ds S v) (hd : ds ≠ []) : ∃ (r g ver m : Nat) (es : List (List V)), v = .own r ver 0 ds.length ∧ σ[r]? = some (.row g ver sz m es) ∧ es.length = ds.length := by
  rcases h with ⟨rfl, _, _⟩ | ⟨r, g, ver, m, es, S', h1, h2, rfl, h4, h5, hz⟩
  · exact absurd rfl hd
  · have hl : es.length = ds.length := by have := h5.len; omega
    exact ⟨r, g, ver, m, es, by rw [hl], h4, hl⟩
theorem txz {nm x : ByteArray} (h1 : nm.size ≤ 1048576) (h2 : x.size ≤ 4194304) : (¬ (IntKind.i64.max < ((nm.size + (⟨#[40]⟩ : ByteArray).size : Nat) : Int))) ∧ (¬ (IntKind.i64.max < (((nm ++ ⟨#[40]⟩).size + x.size : Nat) : Int))) ∧ ¬ (IntKind.i64.max < (((nm ++ ⟨#[40]⟩ ++ x).size + (⟨#[41]⟩ : ByteArray).size : Nat) : Int)) := by
  have e1 : (⟨#[40]⟩ : ByteArray).size = 1 := rfl
  have e2 : (⟨#[41]⟩ : ByteArray).size = 1 := rfl
  have e3 : (nm ++ ⟨#[40]⟩).size = nm.size + 1 := by rw [ByteArray.size_append, e1]
  have e4 : (nm ++ ⟨#[40]⟩ ++ x).size = nm.size + 1 + x.size := by rw [ByteArray.size_append, e3]
  rw [i64max, e4, e3, e1, e2]
  omega
end Go.VL
namespace Go.Proofs.YtldhhppfnhgcdaaGreat
open Go Go.VL

/-- spec.l4Text -/
theorem spec_l4Text (e : E) (c : List T) (hc : e.rep c) (hw : e.wt ≤ 1048576) (hv : e.af = true) (hs : e.sz ≤ 80) : FCtr Tryz.prog 45 [.agg (c.map .t)] (fun r => r = .t (.str e.tx)) := by
  induction e using E.ind generalizing c
  rename_i k nm us ih
  obtain ⟨g, cs, rfl, ha⟩ := E.rep_mk hc
  have hcl := E.repL_len ha
  rw [E.wt] at hw
  have hwl := E.wtL_len us
  rw [E.af, Bool.and_eq_true] at hv
  have hkf := form_k hv.1
  rw [E.sz] at hs
  have hlz := E.len_szL us
  refine Ctr.of_vc (rs := [.tmp 2]) (fn := Tryz.f45) mixed Tryz.func45 rfl rfl (by kernel_rfl) (by kernel_rfl) (by simp [Tryz.ntmps45]) (fun h0 => ?_)
  refine vc_seq fun K1 hK1 => ?_
  refine vc_reg ?_
  try simp (disch := omega) only [go_sem, ↓reduceIte, Nat.reduceEqDiff, reduceCtorEq, Nat.reduceAdd, Nat.reduceLeDiff, Nat.reduceMul, Int.reduceNeg, Int.reduceLT, Int.reduceAdd, Int.reduceSub, hcl]
  intro g0_0 hg0_0
  refine hK1 _ ?_
  refine vc_seq fun K2 hK2 => ?_
  refine vc_reg ?_
  try simp (disch := omega) only [go_sem, ↓reduceIte, Nat.reduceEqDiff, reduceCtorEq, Nat.reduceAdd, Nat.reduceLeDiff, Nat.reduceMul, Int.reduceNeg, Int.reduceLT, Int.reduceAdd, Int.reduceSub, hcl]
  refine .inl ⟨by simp [bsOk], fun g1_0 hg1_0 => ?_⟩
  try simp (disch := omega) only [go_sem, ↓reduceIte, Nat.reduceEqDiff, reduceCtorEq, Nat.reduceAdd, Nat.reduceLeDiff, Nat.reduceMul, Int.reduceNeg, Int.reduceLT, Int.reduceAdd, Int.reduceSub, hcl]
  refine hK2 _ ?_
  refine vc_seq fun K3 hK3 => ?_
  refine vc_seq fun K4 hK4 => ?_
  refine vc_reg ?_
  try simp (disch := omega) only [go_sem, ↓reduceIte, Nat.reduceEqDiff, reduceCtorEq, Nat.reduceAdd, Nat.reduceLeDiff, Nat.reduceMul, Int.reduceNeg, Int.reduceLT, Int.reduceAdd, Int.reduceSub, hcl]
  refine hK4 _ ?_
  refine vc_block ?_
  refine vc_loop (fun m s => ∃ (n : Nat) (acc : List ByteArray) (S : List Nat) (r1 g1 ver1 m1 : Nat) (es1 : List (List V)) (σ1 : List Ob), (m = us.length - n) ∧ (s.σ = σ1) ∧ (s.env 1 = .ptr 0 0 0 0) ∧ (s.env 3 = .own r1 ver1 0 acc.length) ∧ (s.env 4 = .t (.int .i64 n)) ∧ (n ≤ us.length) ∧ (acc = E.txL (us.take n)) ∧ (σ1[0]? = some (.row g0_0 0 3 3 [[V.t (.int .i64 k), V.t (.str nm), V.t (.sl g cs)]])) ∧ (Tb σ1 1 (Ds acc) S (.own r1 ver1 0 acc.length)) ∧ (∀ r ∈ S, 1 ≤ r) ∧ (σ1[r1]? = some (.row g1 ver1 1 m1 es1)) ∧ (es1.length = acc.length)) (us.length - 0) ⟨0, [], [1], 1, g1_0, 0, 0, [], _, rfl, (by first | rfl | simp), (by first | rfl | assumption), (by first | rfl | assumption), (by first | rfl | assumption), (by first | rfl | omega | simp), (by rfl), (by rfl), (by exact .inr ⟨1, g1_0, 0, _, [], [], rfl, by simp, rfl, rfl, TrLL_nil, fun e he => by cases he⟩), (by exact fun r hr => by simp at hr; omega), (by rfl), (by rfl)⟩ ?_
  rintro m ⟨e, σ, h⟩ ⟨n, acc, S, r1, g1, ver1, m1, es1, σ1, hm, hσ, e1, e3, e4, hn, hacc, h0_, hT, hS, hrow, hel⟩ K5 hK5
  simp only at hσ e1 e3 e4
  subst hσ
  refine vc_seq fun K6 hK6 => ?_
  refine vc_seq fun K7 hK7 => ?_
  refine vc_reg ?_
  try simp (disch := omega) only [go_sem, ↓reduceIte, Nat.reduceEqDiff, reduceCtorEq, Nat.reduceAdd, Nat.reduceLeDiff, Nat.reduceMul, Int.reduceNeg, Int.reduceLT, Int.reduceAdd, Int.reduceSub, e1, e3, e4, hcl, h0_]
  refine hK7 _ ?_
  refine vc_cond (t := _) rfl (fun hc1 => ?_) (fun hc1 => ?_)
  · (try simp only [go_sem] at hc1)
    refine vc_skip ?_
    refine hK6 _ ?_
    refine vc_seq fun K8 hK8 => ?_
    refine vc_block ?_
    obtain ⟨c, hc, hrc⟩ := E.repL_get ha (n := n) (by omega)
    obtain ⟨gc, cc, rfl, hcc⟩ := E.rep_cells hrc
    have hal : acc.length = n := by rw [hacc, E.txL_len, List.length_take]; omega
    have hlt0 := (List.getElem?_eq_some_iff.1 h0_).1
    refine vc_reg ?_
    try simp (disch := omega) only [go_sem, ↓reduceIte, Nat.reduceEqDiff, reduceCtorEq, Nat.reduceAdd, Nat.reduceLeDiff, Nat.reduceMul, Int.reduceNeg, Int.reduceLT, Int.reduceAdd, Int.reduceSub, e1, e3, e4, hcl, hc, h0_]
    refine vcX_call _ _ (ih _ (List.getElem_mem (show n < us.length by omega)) _ hrc (by have := E.wtL_mem (List.getElem_mem (show n < us.length by omega)); omega) (E.afL_mem hv.2 (List.getElem_mem (show n < us.length by omega))) (by have := E.szL_mem' (List.getElem_mem (show n < us.length by omega)); omega)) rfl rfl (by first | rfl | simp [V.pures, V.pure, V.pures_t]) ?_
    rintro r5_6 h5_6 hh5_6 rfl -
    try simp (disch := omega) only [go_sem, ↓reduceIte, Nat.reduceEqDiff, reduceCtorEq, Nat.reduceAdd, Nat.reduceLeDiff, Nat.reduceMul, Int.reduceNeg, Int.reduceLT, Int.reduceAdd, Int.reduceSub, e1, e3, e4, hcl, hc, h0_]
    refine .inl ⟨by simp [bsOk], fun g5_7 hg5_7 => ?_⟩
    try simp (disch := omega) only [go_sem, ↓reduceIte, Nat.reduceEqDiff, reduceCtorEq, Nat.reduceAdd, Nat.reduceLeDiff, Nat.reduceMul, Int.reduceNeg, Int.reduceLT, Int.reduceAdd, Int.reduceSub, e1, e3, e4, hcl, hc, h0_]
    refine x_appT [V.t (.str (E.tx us[n]))] (show tElem Tryz.prog 36 = some 9 by kernel_rfl) (show tSize Tryz.prog 9 = some 1 by kernel_rfl) (show tZero Tryz.prog 9 = some [.t (.str ⟨#[]⟩)] by kernel_rfl) (show tBytes Tryz.prog 9 = some 16 by kernel_rfl) rfl (hT.more _) (by first | rfl | (simp (disch := omega) only [go_sem, ↓reduceIte, Nat.reduceEqDiff, reduceCtorEq, Nat.reduceAdd, Nat.reduceLeDiff, Nat.reduceMul, Int.reduceNeg, Int.reduceLT, Int.reduceAdd, Int.reduceSub, e1, e3, e4, hcl, hc, h0_, appElems, St.elems])) (by simp) (TrL_one Tr_str) rfl (Dj_nil _) (by rw [Ds_len]; omega) ?_
    rintro v5_8 S5_8 σ5_8 h5_8 hT5_8 hk5_8 hS5_8 hl5_8 hle5_8 hh5_8
    obtain ⟨r2, g2, ver2, m2, es2, hv2, hrow2, hel2⟩ := hT5_8.own (by simp)
    subst hv2
    rw [show (Ds acc ++ [[D.t (.str (E.tx us[n]))]]).length = (acc ++ [E.tx us[n]]).length by simp [Ds_len]] at hT5_8 hel2 ⊢
    try simp (disch := omega) only [go_sem, ↓reduceIte, Nat.reduceEqDiff, reduceCtorEq, Nat.reduceAdd, Nat.reduceLeDiff, Nat.reduceMul, Int.reduceNeg, Int.reduceLT, Int.reduceAdd, Int.reduceSub, e1, e3, e4, hcl, hc, h0_]
    refine hK8 _ ?_
    refine vc_reg ?_
    try simp (disch := omega) only [go_sem, ↓reduceIte, Nat.reduceEqDiff, reduceCtorEq, Nat.reduceAdd, Nat.reduceLeDiff, Nat.reduceMul, Int.reduceNeg, Int.reduceLT, Int.reduceAdd, Int.reduceSub, e1, e3, e4, hcl]
    refine hK5 _ _ ?_ ⟨n + 1, acc ++ [E.tx us[n]], S5_8, r2, g2, ver2, m2, es2, σ5_8, rfl, (by first | rfl | simp), (by first | rfl | assumption), (by first | rfl | assumption), (by first | rfl | assumption), ?_, ?_, ?_, ?_, ?_, ?_, ?_⟩
    · omega
    · first | omega | assumption | rfl | simp_all
    · rw [hacc, E.txL_take (by omega)]
    · exact (hk5_8 0 (by simp) (fun hx => by have := hS 0 hx; omega)).trans ((get_old (by first | exact hlt0 | (simp; done) | (simp; omega))).trans h0_)
    · rw [Ds_app]; exact hT5_8
    · exact fun r hr => (hS5_8 r hr).elim (hS r) (fun h => h.elim (fun h => by cases h) (fun h => by simp at h; omega))
    · exact hrow2
    · exact hel2
  · (try simp only [go_sem] at hc1)
    refine vc_exit ?_
    refine hK3 _ ?_
    refine vc_seq fun K9 hK9 => ?_
    refine vc_block ?_
    refine vc_seq fun K10 hK10 => ?_
    have hal : acc.length = n := by rw [hacc, E.txL_len, List.length_take]; omega
    have hlt0 := (List.getElem?_eq_some_iff.1 h0_).1
    refine vc_reg ?_
    try simp (disch := omega) only [go_sem, ↓reduceIte, Nat.reduceEqDiff, reduceCtorEq, Nat.reduceAdd, Nat.reduceLeDiff, Nat.reduceMul, Int.reduceNeg, Int.reduceLT, Int.reduceAdd, Int.reduceSub, e1, e3, e4, hcl, h0_]
    refine hK10 _ ?_
    refine vc_cond (t := _) rfl (fun hc2 => ?_) (fun hc2 => ?_)
    · (try simp only [go_sem] at hc2)
      refine vc_seq fun K11 hK11 => ?_
      refine vc_reg ?_
      try simp (disch := omega) only [go_sem, ↓reduceIte, Nat.reduceEqDiff, reduceCtorEq, Nat.reduceAdd, Nat.reduceLeDiff, Nat.reduceMul, Int.reduceNeg, Int.reduceLT, Int.reduceAdd, Int.reduceSub, e1, e3, e4, hcl]
      refine hK11 _ ?_
      refine vc_ret ?_
      refine ⟨_, by first | rfl | (simp only [go_sem, resQ, List.mapM_cons, List.mapM_nil, ↓reduceIte, Nat.reduceEqDiff, Nat.reduceAdd, Nat.reduceLeDiff, reduceCtorEq]; rfl), [], [], .nil, by simp, by simp, fun hi_ h1_ => ⟨?_, rfl, rfl⟩, by simp⟩
      first
      | (exfalso; omega)
      | (have hq : E.tx (.mk k nm us) = ⟨#[33]⟩ := by rw [E.tx, if_pos (by omega)]
         rw [hq]; rfl)
      | (have hq : E.tx (.mk k nm us) = nm := by rw [E.tx, if_neg (by omega), if_pos (by omega)]
         rw [hq]; rfl)
      | (have hq : E.tx (.mk k nm us) = nm ++ ⟨#[40]⟩ ++ jn acc ⟨#[44]⟩ ++ ⟨#[41]⟩ := by rw [E.tx, if_neg (by omega), if_neg (by omega), hfull]
         rw [hq]; rfl)
    · (try simp only [go_sem] at hc2)
      refine vc_seq fun K12 hK12 => ?_
      refine vc_seq fun K13 hK13 => ?_
      refine vc_reg ?_
      try simp (disch := omega) only [go_sem, ↓reduceIte, Nat.reduceEqDiff, reduceCtorEq, Nat.reduceAdd, Nat.reduceLeDiff, Nat.reduceMul, Int.reduceNeg, Int.reduceLT, Int.reduceAdd, Int.reduceSub, e1, e3, e4, hcl, h0_]
      refine hK13 _ ?_
      refine vc_cond (t := _) rfl (fun hc3 => ?_) (fun hc3 => ?_)
      · (try simp only [go_sem] at hc3)
        refine vc_skip ?_
        refine hK12 _ ?_
        refine vc_cond (t := _) rfl (fun hc4 => ?_) (fun hc4 => ?_)
        · (try simp only [go_sem] at hc4)
          refine vc_seq fun K14 hK14 => ?_
          refine vc_reg ?_
          try simp (disch := omega) only [go_sem, ↓reduceIte, Nat.reduceEqDiff, reduceCtorEq, Nat.reduceAdd, Nat.reduceLeDiff, Nat.reduceMul, Int.reduceNeg, Int.reduceLT, Int.reduceAdd, Int.reduceSub, e1, e3, e4, hcl, h0_]
          refine hK14 _ ?_
          refine vc_ret ?_
          refine ⟨_, by first | rfl | (simp only [go_sem, resQ, List.mapM_cons, List.mapM_nil, ↓reduceIte, Nat.reduceEqDiff, Nat.reduceAdd, Nat.reduceLeDiff, reduceCtorEq]; rfl), [], [], .nil, by simp, by simp, fun hi_ h1_ => ⟨?_, rfl, rfl⟩, by simp⟩
          first
          | (exfalso; omega)
          | (have hq : E.tx (.mk k nm us) = ⟨#[33]⟩ := by rw [E.tx, if_pos (by omega)]
             rw [hq]; rfl)
          | (have hq : E.tx (.mk k nm us) = nm := by rw [E.tx, if_neg (by omega), if_pos (by omega)]
             rw [hq]; rfl)
          | (have hq : E.tx (.mk k nm us) = nm ++ ⟨#[40]⟩ ++ jn acc ⟨#[44]⟩ ++ ⟨#[41]⟩ := by rw [E.tx, if_neg (by omega), if_neg (by omega), hfull]
             rw [hq]; rfl)
        · (try simp only [go_sem] at hc4)
          refine vc_skip ?_
          refine hK9 _ ?_
          refine vc_seq fun K15 hK15 => ?_
          obtain ⟨gl, hlend⟩ := hT.lend
          rw [Ds_er] at hlend
          have htz := E.txL_size us
          have hfull : acc = E.txL us := by rw [hacc, List.take_of_length_le (by omega)]
          rw [← hfull] at htz
          have hjz := jn_size acc
          obtain ⟨hz1, hz2, hz3⟩ := txz (nm := nm) (x := jn acc ⟨#[44]⟩) (by omega) (by omega)
          have hz4 : ¬ (IntKind.i64.max < ((nm.size + (#[40] : Array UInt8).size : Nat) : Int)) := hz1
          have hz5 : ¬ (IntKind.i64.max < (((nm ++ ⟨#[40]⟩ ++ jn acc ⟨#[44]⟩).size + (#[41] : Array UInt8).size : Nat) : Int)) := hz3
          have hs40 : (#[40] : Array UInt8).size = 1 := rfl
          have hs41 : (#[41] : Array UInt8).size = 1 := rfl
          have hz6 : ¬ (IntKind.i64.max < ((nm.size + (#[40] : Array UInt8).size + (jn acc ⟨#[44]⟩).size : Nat) : Int)) := by rw [i64max, hs40]; omega
          have hz7 : ¬ (IntKind.i64.max < ((nm.size + (#[40] : Array UInt8).size + (jn acc ⟨#[44]⟩).size + (#[41] : Array UInt8).size : Nat) : Int)) := by rw [i64max, hs40, hs41]; omega
          refine vc_regD [(0, false), (1, false), (2, false), (3, false), (4, false), (5, false), (6, false), (7, false)] (by kernel_rfl) ?_
          try simp (disch := omega) only [go_sem, ↓reduceIte, Nat.reduceEqDiff, reduceCtorEq, Nat.reduceAdd, Nat.reduceLeDiff, Nat.reduceMul, Int.reduceNeg, Int.reduceLT, Int.reduceAdd, Int.reduceSub, e1, e3, e4, hcl, List.getElem_cons_zero, List.getElem_cons_succ, h0_, hz1, hz2, hz3, hz4, hz5, hz6, hz7]
          refine vcX_callS (caps := []) S [.t (.sl gl (Ts acc)), .t (.str ⟨#[44]⟩)] _ (spec_Join gl acc ⟨#[44]⟩ (by omega) (by show 1 ≤ _; omega)) (by first | rfl | simp (disch := omega) only [go_sem, ↓reduceIte, Nat.reduceEqDiff, reduceCtorEq, Nat.reduceAdd, Nat.reduceLeDiff, Nat.reduceMul, Int.reduceNeg, Int.reduceLT, Int.reduceAdd, Int.reduceSub, e1, e3, e4, hcl, List.getElem_cons_zero, List.getElem_cons_succ, h0_, hz1, hz2, hz3, hz4, hz5, hz6, hz7]) ?_ ?_
          · show Subs [V.loc _ [] S (V.own r1 ver1 0 acc.length), V.t (.str ⟨#[44]⟩)] _
            exact Subs.cons hlend (Subs.cons (.refl _) (Subs.nil))
          rintro r11_4 h11_4 hh11_4 rfl -
          refine ⟨fun q hq o ho hm => by simp [V.ids, T.ids] at hm, ?_⟩
          try simp (disch := omega) only [go_sem, ↓reduceIte, Nat.reduceEqDiff, reduceCtorEq, Nat.reduceAdd, Nat.reduceLeDiff, Nat.reduceMul, Int.reduceNeg, Int.reduceLT, Int.reduceAdd, Int.reduceSub, e1, e3, e4, hcl, List.getElem_cons_zero, List.getElem_cons_succ, h0_, hz1, hz2, hz3, hz4, hz5, hz6, hz7]
          refine hK15 _ ?_
          refine vc_ret ?_
          refine ⟨_, by first | rfl | (simp only [go_sem, resQ, List.mapM_cons, List.mapM_nil, ↓reduceIte, Nat.reduceEqDiff, Nat.reduceAdd, Nat.reduceLeDiff, reduceCtorEq]; rfl), [], [], .nil, by simp, by simp, fun hi_ h1_ => ⟨?_, rfl, rfl⟩, by simp⟩
          first
          | (exfalso; omega)
          | (have hq : E.tx (.mk k nm us) = ⟨#[33]⟩ := by rw [E.tx, if_pos (by omega)]
             rw [hq]; rfl)
          | (have hq : E.tx (.mk k nm us) = nm := by rw [E.tx, if_neg (by omega), if_pos (by omega)]
             rw [hq]; rfl)
          | (have hq : E.tx (.mk k nm us) = nm ++ ⟨#[40]⟩ ++ jn acc ⟨#[44]⟩ ++ ⟨#[41]⟩ := by rw [E.tx, if_neg (by omega), if_neg (by omega), hfull]
             rw [hq]; rfl)
      · (try simp only [go_sem] at hc3)
        refine vc_reg ?_
        refine vcX_cut 4 fun K16 hK16 => ?_
        try simp (disch := omega) only [go_sem, ↓reduceIte, Nat.reduceEqDiff, reduceCtorEq, Nat.reduceAdd, Nat.reduceLeDiff, Nat.reduceMul, Int.reduceNeg, Int.reduceLT, Int.reduceAdd, Int.reduceSub, e1, e3, e4, hcl, h0_, hrow, hel]
        refine hK16 _ ?_
        refine vcX_bool (fun hb9_3 => ?_) (fun hb9_3 => ?_)
        · (try simp only [go_sem] at hb9_3)
          try simp (disch := omega) only [go_sem, ↓reduceIte, Nat.reduceEqDiff, reduceCtorEq, Nat.reduceAdd, Nat.reduceLeDiff, Nat.reduceMul, Int.reduceNeg, Int.reduceLT, Int.reduceAdd, Int.reduceSub, e1, e3, e4, hcl, h0_, hrow, hel]
          refine hK12 _ ?_
          refine vc_cond (t := _) rfl (fun hc5 => ?_) (fun hc5 => ?_)
          · (try simp only [go_sem] at hc5)
            refine vc_seq fun K18 hK18 => ?_
            refine vc_reg ?_
            try simp (disch := omega) only [go_sem, ↓reduceIte, Nat.reduceEqDiff, reduceCtorEq, Nat.reduceAdd, Nat.reduceLeDiff, Nat.reduceMul, Int.reduceNeg, Int.reduceLT, Int.reduceAdd, Int.reduceSub, e1, e3, e4, hcl, h0_]
            refine hK18 _ ?_
            refine vc_ret ?_
            refine ⟨_, by first | rfl | (simp only [go_sem, resQ, List.mapM_cons, List.mapM_nil, ↓reduceIte, Nat.reduceEqDiff, Nat.reduceAdd, Nat.reduceLeDiff, reduceCtorEq]; rfl), [], [], .nil, by simp, by simp, fun hi_ h1_ => ⟨?_, rfl, rfl⟩, by simp⟩
            first
            | (exfalso; omega)
            | (have hq : E.tx (.mk k nm us) = ⟨#[33]⟩ := by rw [E.tx, if_pos (by omega)]
               rw [hq]; rfl)
            | (have hq : E.tx (.mk k nm us) = nm := by rw [E.tx, if_neg (by omega), if_pos (by omega)]
               rw [hq]; rfl)
            | (have hq : E.tx (.mk k nm us) = nm ++ ⟨#[40]⟩ ++ jn acc ⟨#[44]⟩ ++ ⟨#[41]⟩ := by rw [E.tx, if_neg (by omega), if_neg (by omega), hfull]
               rw [hq]; rfl)
          · (try simp only [go_sem] at hc5)
            refine vc_skip ?_
            refine hK9 _ ?_
            refine vc_seq fun K19 hK19 => ?_
            obtain ⟨gl, hlend⟩ := hT.lend
            rw [Ds_er] at hlend
            have htz := E.txL_size us
            have hfull : acc = E.txL us := by rw [hacc, List.take_of_length_le (by omega)]
            rw [← hfull] at htz
            have hjz := jn_size acc
            obtain ⟨hz1, hz2, hz3⟩ := txz (nm := nm) (x := jn acc ⟨#[44]⟩) (by omega) (by omega)
            have hz4 : ¬ (IntKind.i64.max < ((nm.size + (#[40] : Array UInt8).size : Nat) : Int)) := hz1
            have hz5 : ¬ (IntKind.i64.max < (((nm ++ ⟨#[40]⟩ ++ jn acc ⟨#[44]⟩).size + (#[41] : Array UInt8).size : Nat) : Int)) := hz3
            have hs40 : (#[40] : Array UInt8).size = 1 := rfl
            have hs41 : (#[41] : Array UInt8).size = 1 := rfl
            have hz6 : ¬ (IntKind.i64.max < ((nm.size + (#[40] : Array UInt8).size + (jn acc ⟨#[44]⟩).size : Nat) : Int)) := by rw [i64max, hs40]; omega
            have hz7 : ¬ (IntKind.i64.max < ((nm.size + (#[40] : Array UInt8).size + (jn acc ⟨#[44]⟩).size + (#[41] : Array UInt8).size : Nat) : Int)) := by rw [i64max, hs40, hs41]; omega
            refine vc_regD [(0, false), (1, false), (2, false), (3, false), (4, false), (5, false), (6, false), (7, false)] (by kernel_rfl) ?_
            try simp (disch := omega) only [go_sem, ↓reduceIte, Nat.reduceEqDiff, reduceCtorEq, Nat.reduceAdd, Nat.reduceLeDiff, Nat.reduceMul, Int.reduceNeg, Int.reduceLT, Int.reduceAdd, Int.reduceSub, e1, e3, e4, hcl, List.getElem_cons_zero, List.getElem_cons_succ, h0_, hz1, hz2, hz3, hz4, hz5, hz6, hz7]
            refine vcX_callS (caps := []) S [.t (.sl gl (Ts acc)), .t (.str ⟨#[44]⟩)] _ (spec_Join gl acc ⟨#[44]⟩ (by omega) (by show 1 ≤ _; omega)) (by first | rfl | simp (disch := omega) only [go_sem, ↓reduceIte, Nat.reduceEqDiff, reduceCtorEq, Nat.reduceAdd, Nat.reduceLeDiff, Nat.reduceMul, Int.reduceNeg, Int.reduceLT, Int.reduceAdd, Int.reduceSub, e1, e3, e4, hcl, List.getElem_cons_zero, List.getElem_cons_succ, h0_, hz1, hz2, hz3, hz4, hz5, hz6, hz7]) ?_ ?_
            · show Subs [V.loc _ [] S (V.own r1 ver1 0 acc.length), V.t (.str ⟨#[44]⟩)] _
              exact Subs.cons hlend (Subs.cons (.refl _) (Subs.nil))
            rintro r11_4 h11_4 hh11_4 rfl -
            refine ⟨fun q hq o ho hm => by simp [V.ids, T.ids] at hm, ?_⟩
            try simp (disch := omega) only [go_sem, ↓reduceIte, Nat.reduceEqDiff, reduceCtorEq, Nat.reduceAdd, Nat.reduceLeDiff, Nat.reduceMul, Int.reduceNeg, Int.reduceLT, Int.reduceAdd, Int.reduceSub, e1, e3, e4, hcl, List.getElem_cons_zero, List.getElem_cons_succ, h0_, hz1, hz2, hz3, hz4, hz5, hz6, hz7]
            refine hK19 _ ?_
            refine vc_ret ?_
            refine ⟨_, by first | rfl | (simp only [go_sem, resQ, List.mapM_cons, List.mapM_nil, ↓reduceIte, Nat.reduceEqDiff, Nat.reduceAdd, Nat.reduceLeDiff, reduceCtorEq]; rfl), [], [], .nil, by simp, by simp, fun hi_ h1_ => ⟨?_, rfl, rfl⟩, by simp⟩
            first
            | (exfalso; omega)
            | (have hq : E.tx (.mk k nm us) = ⟨#[33]⟩ := by rw [E.tx, if_pos (by omega)]
               rw [hq]; rfl)
            | (have hq : E.tx (.mk k nm us) = nm := by rw [E.tx, if_neg (by omega), if_pos (by omega)]
               rw [hq]; rfl)
            | (have hq : E.tx (.mk k nm us) = nm ++ ⟨#[40]⟩ ++ jn acc ⟨#[44]⟩ ++ ⟨#[41]⟩ := by rw [E.tx, if_neg (by omega), if_neg (by omega), hfull]
               rw [hq]; rfl)
        · (try simp only [go_sem] at hb9_3)
          try simp (disch := omega) only [go_sem, ↓reduceIte, Nat.reduceEqDiff, reduceCtorEq, Nat.reduceAdd, Nat.reduceLeDiff, Nat.reduceMul, Int.reduceNeg, Int.reduceLT, Int.reduceAdd, Int.reduceSub, e1, e3, e4, hcl, h0_, hrow, hel]
          refine hK12 _ ?_
          refine vc_cond (t := _) rfl (fun hc6 => ?_) (fun hc6 => ?_)
          · exact absurd hc6 (by simp)
          · (try simp only [go_sem] at hc6)
            refine vc_skip ?_
            refine hK9 _ ?_
            refine vc_seq fun K20 hK20 => ?_
            obtain ⟨gl, hlend⟩ := hT.lend
            rw [Ds_er] at hlend
            have htz := E.txL_size us
            have hfull : acc = E.txL us := by rw [hacc, List.take_of_length_le (by omega)]
            rw [← hfull] at htz
            have hjz := jn_size acc
            obtain ⟨hz1, hz2, hz3⟩ := txz (nm := nm) (x := jn acc ⟨#[44]⟩) (by omega) (by omega)
            have hz4 : ¬ (IntKind.i64.max < ((nm.size + (#[40] : Array UInt8).size : Nat) : Int)) := hz1
            have hz5 : ¬ (IntKind.i64.max < (((nm ++ ⟨#[40]⟩ ++ jn acc ⟨#[44]⟩).size + (#[41] : Array UInt8).size : Nat) : Int)) := hz3
            have hs40 : (#[40] : Array UInt8).size = 1 := rfl
            have hs41 : (#[41] : Array UInt8).size = 1 := rfl
            have hz6 : ¬ (IntKind.i64.max < ((nm.size + (#[40] : Array UInt8).size + (jn acc ⟨#[44]⟩).size : Nat) : Int)) := by rw [i64max, hs40]; omega
            have hz7 : ¬ (IntKind.i64.max < ((nm.size + (#[40] : Array UInt8).size + (jn acc ⟨#[44]⟩).size + (#[41] : Array UInt8).size : Nat) : Int)) := by rw [i64max, hs40, hs41]; omega
            refine vc_regD [(0, false), (1, false), (2, false), (3, false), (4, false), (5, false), (6, false), (7, false)] (by kernel_rfl) ?_
            try simp (disch := omega) only [go_sem, ↓reduceIte, Nat.reduceEqDiff, reduceCtorEq, Nat.reduceAdd, Nat.reduceLeDiff, Nat.reduceMul, Int.reduceNeg, Int.reduceLT, Int.reduceAdd, Int.reduceSub, e1, e3, e4, hcl, List.getElem_cons_zero, List.getElem_cons_succ, h0_, hz1, hz2, hz3, hz4, hz5, hz6, hz7]
            refine vcX_callS (caps := []) S [.t (.sl gl (Ts acc)), .t (.str ⟨#[44]⟩)] _ (spec_Join gl acc ⟨#[44]⟩ (by omega) (by show 1 ≤ _; omega)) (by first | rfl | simp (disch := omega) only [go_sem, ↓reduceIte, Nat.reduceEqDiff, reduceCtorEq, Nat.reduceAdd, Nat.reduceLeDiff, Nat.reduceMul, Int.reduceNeg, Int.reduceLT, Int.reduceAdd, Int.reduceSub, e1, e3, e4, hcl, List.getElem_cons_zero, List.getElem_cons_succ, h0_, hz1, hz2, hz3, hz4, hz5, hz6, hz7]) ?_ ?_
            · show Subs [V.loc _ [] S (V.own r1 ver1 0 acc.length), V.t (.str ⟨#[44]⟩)] _
              exact Subs.cons hlend (Subs.cons (.refl _) (Subs.nil))
            rintro r11_4 h11_4 hh11_4 rfl -
            refine ⟨fun q hq o ho hm => by simp [V.ids, T.ids] at hm, ?_⟩
            try simp (disch := omega) only [go_sem, ↓reduceIte, Nat.reduceEqDiff, reduceCtorEq, Nat.reduceAdd, Nat.reduceLeDiff, Nat.reduceMul, Int.reduceNeg, Int.reduceLT, Int.reduceAdd, Int.reduceSub, e1, e3, e4, hcl, List.getElem_cons_zero, List.getElem_cons_succ, h0_, hz1, hz2, hz3, hz4, hz5, hz6, hz7]
            refine hK20 _ ?_
            refine vc_ret ?_
            refine ⟨_, by first | rfl | (simp only [go_sem, resQ, List.mapM_cons, List.mapM_nil, ↓reduceIte, Nat.reduceEqDiff, Nat.reduceAdd, Nat.reduceLeDiff, reduceCtorEq]; rfl), [], [], .nil, by simp, by simp, fun hi_ h1_ => ⟨?_, rfl, rfl⟩, by simp⟩
            first
            | (exfalso; omega)
            | (have hq : E.tx (.mk k nm us) = ⟨#[33]⟩ := by rw [E.tx, if_pos (by omega)]
               rw [hq]; rfl)
            | (have hq : E.tx (.mk k nm us) = nm := by rw [E.tx, if_neg (by omega), if_pos (by omega)]
               rw [hq]; rfl)
            | (have hq : E.tx (.mk k nm us) = nm ++ ⟨#[40]⟩ ++ jn acc ⟨#[44]⟩ ++ ⟨#[41]⟩ := by rw [E.tx, if_neg (by omega), if_neg (by omega), hfull]
               rw [hq]; rfl)

/-- impl.exprText -/
theorem impl_exprText (e : E) (c : List T) (hc : e.rep c) (hw : e.wt ≤ 1048576) (hv : e.af = true) (hs : e.sz ≤ 80) : FCtr Tryz.prog 67 [.agg (c.map .t)] (fun r => r = .t (.str e.tx)) := by
  induction e using E.ind generalizing c
  rename_i k nm us ih
  obtain ⟨g, cs, rfl, ha⟩ := E.rep_mk hc
  have hcl := E.repL_len ha
  rw [E.wt] at hw
  have hwl := E.wtL_len us
  rw [E.af, Bool.and_eq_true] at hv
  have hkf := form_k hv.1
  rw [E.sz] at hs
  have hlz := E.len_szL us
  refine Ctr.of_vc (rs := [.tmp 2]) (fn := Tryz.f67) mixed Tryz.func67 rfl rfl (by kernel_rfl) (by kernel_rfl) (by simp [Tryz.ntmps67]) (fun h0 => ?_)
  refine vc_seq fun K1 hK1 => ?_
  refine vc_reg ?_
  try simp (disch := omega) only [go_sem, ↓reduceIte, Nat.reduceEqDiff, reduceCtorEq, Nat.reduceAdd, Nat.reduceLeDiff, Nat.reduceMul, Int.reduceNeg, Int.reduceLT, Int.reduceAdd, Int.reduceSub, hcl]
  intro g0_0 hg0_0
  refine hK1 _ ?_
  refine vc_seq fun K2 hK2 => ?_
  refine vc_seq fun K3 hK3 => ?_
  refine vc_reg ?_
  try simp (disch := omega) only [go_sem, ↓reduceIte, Nat.reduceEqDiff, reduceCtorEq, Nat.reduceAdd, Nat.reduceLeDiff, Nat.reduceMul, Int.reduceNeg, Int.reduceLT, Int.reduceAdd, Int.reduceSub, hcl]
  refine hK3 _ ?_
  refine vc_cond (t := _) rfl (fun hc1 => ?_) (fun hc1 => ?_)
  · (try simp only [go_sem] at hc1)
    refine vc_seq fun K4 hK4 => ?_
    refine vc_reg ?_
    try simp (disch := omega) only [go_sem, ↓reduceIte, Nat.reduceEqDiff, reduceCtorEq, Nat.reduceAdd, Nat.reduceLeDiff, Nat.reduceMul, Int.reduceNeg, Int.reduceLT, Int.reduceAdd, Int.reduceSub, hcl]
    refine hK4 _ ?_
    refine vc_ret ?_
    refine ⟨_, by first | rfl | (simp only [go_sem, resQ, List.mapM_cons, List.mapM_nil, ↓reduceIte, Nat.reduceEqDiff, Nat.reduceAdd, Nat.reduceLeDiff, reduceCtorEq]; rfl), [], [], .nil, by simp, by simp, fun hi_ h1_ => ⟨?_, rfl, rfl⟩, by simp⟩
    first
    | (exfalso; omega)
    | (have hq : E.tx (.mk k nm us) = ⟨#[33]⟩ := by rw [E.tx, if_pos (by omega)]
       rw [hq]; rfl)
    | (have hq : E.tx (.mk k nm us) = nm := by rw [E.tx, if_neg (by omega), if_pos (by omega)]
       rw [hq]; rfl)
    | (have hq : E.tx (.mk k nm us) = nm ++ ⟨#[40]⟩ ++ jn acc ⟨#[44]⟩ ++ ⟨#[41]⟩ := by rw [E.tx, if_neg (by omega), if_neg (by omega), hfull]
       rw [hq]; rfl)
  · (try simp only [go_sem] at hc1)
    refine vc_skip ?_
    refine hK2 _ ?_
    refine vc_seq fun K5 hK5 => ?_
    refine vc_seq fun K6 hK6 => ?_
    refine vc_reg ?_
    refine vcX_cut 5 fun K7 hK7 => ?_
    try simp (disch := omega) only [go_sem, ↓reduceIte, Nat.reduceEqDiff, reduceCtorEq, Nat.reduceAdd, Nat.reduceLeDiff, Nat.reduceMul, Int.reduceNeg, Int.reduceLT, Int.reduceAdd, Int.reduceSub, hcl]
    refine hK7 _ ?_
    refine vcX_bool (fun hb3_4 => ?_) (fun hb3_4 => ?_)
    · (try simp only [go_sem] at hb3_4)
      try simp (disch := omega) only [go_sem, ↓reduceIte, Nat.reduceEqDiff, reduceCtorEq, Nat.reduceAdd, Nat.reduceLeDiff, Nat.reduceMul, Int.reduceNeg, Int.reduceLT, Int.reduceAdd, Int.reduceSub, hcl]
      refine hK6 _ ?_
      refine vc_cond (t := _) rfl (fun hc2 => ?_) (fun hc2 => ?_)
      · (try simp only [go_sem] at hc2)
        refine vc_seq fun K9 hK9 => ?_
        refine vc_reg ?_
        try simp (disch := omega) only [go_sem, ↓reduceIte, Nat.reduceEqDiff, reduceCtorEq, Nat.reduceAdd, Nat.reduceLeDiff, Nat.reduceMul, Int.reduceNeg, Int.reduceLT, Int.reduceAdd, Int.reduceSub, hcl]
        refine hK9 _ ?_
        refine vc_ret ?_
        refine ⟨_, by first | rfl | (simp only [go_sem, resQ, List.mapM_cons, List.mapM_nil, ↓reduceIte, Nat.reduceEqDiff, Nat.reduceAdd, Nat.reduceLeDiff, reduceCtorEq]; rfl), [], [], .nil, by simp, by simp, fun hi_ h1_ => ⟨?_, rfl, rfl⟩, by simp⟩
        first
        | (exfalso; omega)
        | (have hq : E.tx (.mk k nm us) = ⟨#[33]⟩ := by rw [E.tx, if_pos (by omega)]
           rw [hq]; rfl)
        | (have hq : E.tx (.mk k nm us) = nm := by rw [E.tx, if_neg (by omega), if_pos (by omega)]
           rw [hq]; rfl)
        | (have hq : E.tx (.mk k nm us) = nm ++ ⟨#[40]⟩ ++ jn acc ⟨#[44]⟩ ++ ⟨#[41]⟩ := by rw [E.tx, if_neg (by omega), if_neg (by omega), hfull]
           rw [hq]; rfl)
      · (try simp only [go_sem] at hc2)
        refine vc_skip ?_
        refine hK5 _ ?_
        refine vc_seq fun K10 hK10 => ?_
        refine vc_reg ?_
        try simp (disch := omega) only [go_sem, ↓reduceIte, Nat.reduceEqDiff, reduceCtorEq, Nat.reduceAdd, Nat.reduceLeDiff, Nat.reduceMul, Int.reduceNeg, Int.reduceLT, Int.reduceAdd, Int.reduceSub, hcl]
        refine hK10 _ ?_
        refine vc_seq fun K11 hK11 => ?_
        refine vc_seq fun K12 hK12 => ?_
        refine vc_reg ?_
        try simp (disch := omega) only [go_sem, ↓reduceIte, Nat.reduceEqDiff, reduceCtorEq, Nat.reduceAdd, Nat.reduceLeDiff, Nat.reduceMul, Int.reduceNeg, Int.reduceLT, Int.reduceAdd, Int.reduceSub, hcl]
        refine hK12 _ ?_
        refine vc_block ?_
        refine vc_loop (fun m s => ∃ (n : Nat) (acc : List ByteArray) (S : List Nat) (v : V) (σ1 : List Ob), (m = us.length - n) ∧ (s.σ = σ1) ∧ (s.env 1 = .ptr 0 0 0 0) ∧ (s.env 3 = v) ∧ (s.env 21 = .t (.sl g cs)) ∧ (s.env 22 = .t (.int .i64 us.length)) ∧ (s.env 23 = .t (.int .i64 n)) ∧ (n ≤ us.length) ∧ (acc = E.txL (us.take n)) ∧ (σ1[0]? = some (.row g0_0 0 3 3 [[V.t (.int .i64 k), V.t (.str nm), V.t (.sl g cs)]])) ∧ (Tb σ1 1 (Ds acc) S v) ∧ (∀ r ∈ S, 1 ≤ r)) (us.length - 0) ⟨0, [], [], .nil0, _, rfl, (by first | rfl | simp), (by first | rfl | assumption), (by first | rfl | assumption), (by first | rfl | assumption), (by first | rfl | assumption), (by first | rfl | assumption), (by first | rfl | omega | simp), (by rfl), (by rfl), (by exact Tb_nil), (by exact fun r hr => by cases hr)⟩ ?_
        rintro m ⟨e, σ, h⟩ ⟨n, acc, S, v, σ1, hm, hσ, e1, e3, e21, e22, e23, hn, hacc, h0_, hT, hS⟩ K13 hK13
        simp only at hσ e1 e3 e21 e22 e23
        subst hσ
        refine vc_seq fun K14 hK14 => ?_
        refine vc_reg ?_
        try simp (disch := omega) only [go_sem, ↓reduceIte, Nat.reduceEqDiff, reduceCtorEq, Nat.reduceAdd, Nat.reduceLeDiff, Nat.reduceMul, Int.reduceNeg, Int.reduceLT, Int.reduceAdd, Int.reduceSub, e1, e3, e21, e22, e23, hcl]
        refine hK14 _ ?_
        refine vc_seq fun K15 hK15 => ?_
        refine vc_cond (t := _) rfl (fun hc3 => ?_) (fun hc3 => ?_)
        · (try simp only [go_sem] at hc3)
          refine vc_skip ?_
          refine hK15 _ ?_
          refine vc_seq fun K16 hK16 => ?_
          refine vc_block ?_
          refine vc_seq fun K17 hK17 => ?_
          obtain ⟨c, hc, hrc⟩ := E.repL_get ha (n := n) (by omega)
          obtain ⟨gc, cc, rfl, hcc⟩ := E.rep_cells hrc
          have hal : acc.length = n := by rw [hacc, E.txL_len, List.length_take]; omega
          have hlt0 := (List.getElem?_eq_some_iff.1 h0_).1
          refine vc_reg ?_
          try simp (disch := omega) only [go_sem, ↓reduceIte, Nat.reduceEqDiff, reduceCtorEq, Nat.reduceAdd, Nat.reduceLeDiff, Nat.reduceMul, Int.reduceNeg, Int.reduceLT, Int.reduceAdd, Int.reduceSub, e1, e3, e21, e22, e23, hcl, hc, get_new, set_new, setV, solid_agg, isVal_agg]
          intro g8_2 hg8_2
          refine hK17 _ ?_
          have hTm := hT.more (Ob.row g8_2 0 3 3 [[V.t (.int .i64 us[n].kind), V.t (.str us[n].name), V.t (.sl gc cc)]])
          have h0m := (get_old (o := Ob.row g8_2 0 3 3 [[V.t (.int .i64 us[n].kind), V.t (.str us[n].name), V.t (.sl gc cc)]]) hlt0).trans h0_
          refine vc_reg ?_
          try simp (disch := omega) only [go_sem, ↓reduceIte, Nat.reduceEqDiff, reduceCtorEq, Nat.reduceAdd, Nat.reduceLeDiff, Nat.reduceMul, Int.reduceNeg, Int.reduceLT, Int.reduceAdd, Int.reduceSub, e1, e3, e21, e22, e23, hcl, get_new]
          refine vcX_call _ _ (ih _ (List.getElem_mem (show n < us.length by omega)) _ hrc (by have := E.wtL_mem (List.getElem_mem (show n < us.length by omega)); omega) (E.afL_mem hv.2 (List.getElem_mem (show n < us.length by omega))) (by have := E.szL_mem' (List.getElem_mem (show n < us.length by omega)); omega)) rfl rfl (by first | rfl | simp [V.pures, V.pure, V.pures_t]) ?_
          rintro r9_2 h9_2 hh9_2 rfl -
          try simp (disch := omega) only [go_sem, ↓reduceIte, Nat.reduceEqDiff, reduceCtorEq, Nat.reduceAdd, Nat.reduceLeDiff, Nat.reduceMul, Int.reduceNeg, Int.reduceLT, Int.reduceAdd, Int.reduceSub, e1, e3, e21, e22, e23, hcl, get_new]
          refine .inl ⟨by simp [bsOk], fun g9_3 hg9_3 => ?_⟩
          try simp (disch := omega) only [go_sem, ↓reduceIte, Nat.reduceEqDiff, reduceCtorEq, Nat.reduceAdd, Nat.reduceLeDiff, Nat.reduceMul, Int.reduceNeg, Int.reduceLT, Int.reduceAdd, Int.reduceSub, e1, e3, e21, e22, e23, hcl, get_new]
          refine x_appT [V.t (.str (E.tx us[n]))] (show tElem Tryz.prog 36 = some 9 by kernel_rfl) (show tSize Tryz.prog 9 = some 1 by kernel_rfl) (show tZero Tryz.prog 9 = some [.t (.str ⟨#[]⟩)] by kernel_rfl) (show tBytes Tryz.prog 9 = some 16 by kernel_rfl) rfl (hTm.more _) (by first | rfl | (simp (disch := omega) only [go_sem, ↓reduceIte, Nat.reduceEqDiff, reduceCtorEq, Nat.reduceAdd, Nat.reduceLeDiff, Nat.reduceMul, Int.reduceNeg, Int.reduceLT, Int.reduceAdd, Int.reduceSub, e1, e3, e21, e22, e23, hcl, get_new, appElems, St.elems])) (by simp) (TrL_one Tr_str) rfl (Dj_nil _) (by rw [Ds_len]; omega) ?_
          rintro v9_4 S9_4 σ9_4 h9_4 hT9_4 hk9_4 hS9_4 hl9_4 hle9_4 hh9_4
          try simp (disch := omega) only [go_sem, ↓reduceIte, Nat.reduceEqDiff, reduceCtorEq, Nat.reduceAdd, Nat.reduceLeDiff, Nat.reduceMul, Int.reduceNeg, Int.reduceLT, Int.reduceAdd, Int.reduceSub, e1, e3, e21, e22, e23, hcl, get_new]
          refine hK16 _ ?_
          refine vc_reg ?_
          try simp (disch := omega) only [go_sem, ↓reduceIte, Nat.reduceEqDiff, reduceCtorEq, Nat.reduceAdd, Nat.reduceLeDiff, Nat.reduceMul, Int.reduceNeg, Int.reduceLT, Int.reduceAdd, Int.reduceSub, e1, e3, e21, e22, e23, hcl]
          refine hK13 _ _ ?_ ⟨n + 1, acc ++ [E.tx us[n]], S9_4, v9_4, σ9_4, rfl, (by first | rfl | simp), (by first | rfl | assumption), (by first | rfl | assumption), (by first | rfl | assumption), (by first | rfl | assumption), (by first | rfl | assumption), ?_, ?_, ?_, ?_, ?_⟩
          · omega
          · first | omega | assumption | rfl | simp_all
          · rw [hacc, E.txL_take (by omega)]
          · exact (hk9_4 0 (by simp) (fun hx => by have := hS 0 hx; omega)).trans ((get_old (by first | exact hlt0 | (simp; done) | (simp; omega))).trans h0m)
          · rw [Ds_app]; exact hT9_4
          · exact fun r hr => (hS9_4 r hr).elim (hS r) (fun h => h.elim (fun h => by cases h) (fun h => by simp at h; omega))
        · (try simp only [go_sem] at hc3)
          refine vc_exit ?_
          refine hK11 _ ?_
          refine vc_seq fun K18 hK18 => ?_
          obtain ⟨gl, hlend⟩ := hT.lend
          rw [Ds_er] at hlend
          have htz := E.txL_size us
          have hfull : acc = E.txL us := by rw [hacc, List.take_of_length_le (by omega)]
          rw [← hfull] at htz
          have hjz := jn_size acc
          obtain ⟨hz1, hz2, hz3⟩ := txz (nm := nm) (x := jn acc ⟨#[44]⟩) (by omega) (by omega)
          have hz4 : ¬ (IntKind.i64.max < ((nm.size + (#[40] : Array UInt8).size : Nat) : Int)) := hz1
          have hz5 : ¬ (IntKind.i64.max < (((nm ++ ⟨#[40]⟩ ++ jn acc ⟨#[44]⟩).size + (#[41] : Array UInt8).size : Nat) : Int)) := hz3
          have hs40 : (#[40] : Array UInt8).size = 1 := rfl
          have hs41 : (#[41] : Array UInt8).size = 1 := rfl
          have hz6 : ¬ (IntKind.i64.max < ((nm.size + (#[40] : Array UInt8).size + (jn acc ⟨#[44]⟩).size : Nat) : Int)) := by rw [i64max, hs40]; omega
          have hz7 : ¬ (IntKind.i64.max < ((nm.size + (#[40] : Array UInt8).size + (jn acc ⟨#[44]⟩).size + (#[41] : Array UInt8).size : Nat) : Int)) := by rw [i64max, hs40, hs41]; omega
          refine vc_regD [(0, false), (1, false), (2, false), (3, false), (4, false), (5, false), (6, false), (7, false)] (by kernel_rfl) ?_
          try simp (disch := omega) only [go_sem, ↓reduceIte, Nat.reduceEqDiff, reduceCtorEq, Nat.reduceAdd, Nat.reduceLeDiff, Nat.reduceMul, Int.reduceNeg, Int.reduceLT, Int.reduceAdd, Int.reduceSub, e1, e3, e21, e22, e23, hcl, List.getElem_cons_zero, List.getElem_cons_succ, h0_, hz1, hz2, hz3, hz4, hz5, hz6, hz7]
          refine vcX_callS (caps := []) S [.t (.sl gl (Ts acc)), .t (.str ⟨#[44]⟩)] _ (strings_Join gl acc ⟨#[44]⟩ (by omega) (by show 1 ≤ _; omega)) (by first | rfl | simp (disch := omega) only [go_sem, ↓reduceIte, Nat.reduceEqDiff, reduceCtorEq, Nat.reduceAdd, Nat.reduceLeDiff, Nat.reduceMul, Int.reduceNeg, Int.reduceLT, Int.reduceAdd, Int.reduceSub, e1, e3, e21, e22, e23, hcl, List.getElem_cons_zero, List.getElem_cons_succ, h0_, hz1, hz2, hz3, hz4, hz5, hz6, hz7]) ?_ ?_
          · show Subs [V.loc _ [] S (v), V.t (.str ⟨#[44]⟩)] _
            exact Subs.cons hlend (Subs.cons (.refl _) (Subs.nil))
          rintro r11_4 h11_4 hh11_4 rfl -
          refine ⟨fun q hq o ho hm => by simp [V.ids, T.ids] at hm, ?_⟩
          try simp (disch := omega) only [go_sem, ↓reduceIte, Nat.reduceEqDiff, reduceCtorEq, Nat.reduceAdd, Nat.reduceLeDiff, Nat.reduceMul, Int.reduceNeg, Int.reduceLT, Int.reduceAdd, Int.reduceSub, e1, e3, e21, e22, e23, hcl, List.getElem_cons_zero, List.getElem_cons_succ, h0_, hz1, hz2, hz3, hz4, hz5, hz6, hz7]
          refine hK18 _ ?_
          refine vc_ret ?_
          refine ⟨_, by first | rfl | (simp only [go_sem, resQ, List.mapM_cons, List.mapM_nil, ↓reduceIte, Nat.reduceEqDiff, Nat.reduceAdd, Nat.reduceLeDiff, reduceCtorEq]; rfl), [], [], .nil, by simp, by simp, fun hi_ h1_ => ⟨?_, rfl, rfl⟩, by simp⟩
          first
          | (exfalso; omega)
          | (have hq : E.tx (.mk k nm us) = ⟨#[33]⟩ := by rw [E.tx, if_pos (by omega)]
             rw [hq]; rfl)
          | (have hq : E.tx (.mk k nm us) = nm := by rw [E.tx, if_neg (by omega), if_pos (by omega)]
             rw [hq]; rfl)
          | (have hq : E.tx (.mk k nm us) = nm ++ ⟨#[40]⟩ ++ jn acc ⟨#[44]⟩ ++ ⟨#[41]⟩ := by rw [E.tx, if_neg (by omega), if_neg (by omega), hfull]
             rw [hq]; rfl)
    · (try simp only [go_sem] at hb3_4)
      try simp (disch := omega) only [go_sem, ↓reduceIte, Nat.reduceEqDiff, reduceCtorEq, Nat.reduceAdd, Nat.reduceLeDiff, Nat.reduceMul, Int.reduceNeg, Int.reduceLT, Int.reduceAdd, Int.reduceSub, hcl]
      refine hK6 _ ?_
      refine vc_cond (t := _) rfl (fun hc4 => ?_) (fun hc4 => ?_)
      · exact absurd hc4 (by simp)
      · (try simp only [go_sem] at hc4)
        refine vc_skip ?_
        refine hK5 _ ?_
        refine vc_seq fun K19 hK19 => ?_
        refine vc_reg ?_
        try simp (disch := omega) only [go_sem, ↓reduceIte, Nat.reduceEqDiff, reduceCtorEq, Nat.reduceAdd, Nat.reduceLeDiff, Nat.reduceMul, Int.reduceNeg, Int.reduceLT, Int.reduceAdd, Int.reduceSub, hcl]
        refine hK19 _ ?_
        refine vc_seq fun K20 hK20 => ?_
        refine vc_seq fun K21 hK21 => ?_
        refine vc_reg ?_
        try simp (disch := omega) only [go_sem, ↓reduceIte, Nat.reduceEqDiff, reduceCtorEq, Nat.reduceAdd, Nat.reduceLeDiff, Nat.reduceMul, Int.reduceNeg, Int.reduceLT, Int.reduceAdd, Int.reduceSub, hcl]
        refine hK21 _ ?_
        refine vc_block ?_
        refine vc_loop (fun m s => ∃ (n : Nat) (acc : List ByteArray) (S : List Nat) (v : V) (σ1 : List Ob), (m = us.length - n) ∧ (s.σ = σ1) ∧ (s.env 1 = .ptr 0 0 0 0) ∧ (s.env 3 = v) ∧ (s.env 21 = .t (.sl g cs)) ∧ (s.env 22 = .t (.int .i64 us.length)) ∧ (s.env 23 = .t (.int .i64 n)) ∧ (n ≤ us.length) ∧ (acc = E.txL (us.take n)) ∧ (σ1[0]? = some (.row g0_0 0 3 3 [[V.t (.int .i64 k), V.t (.str nm), V.t (.sl g cs)]])) ∧ (Tb σ1 1 (Ds acc) S v) ∧ (∀ r ∈ S, 1 ≤ r)) (us.length - 0) ⟨0, [], [], .nil0, _, rfl, (by first | rfl | simp), (by first | rfl | assumption), (by first | rfl | assumption), (by first | rfl | assumption), (by first | rfl | assumption), (by first | rfl | assumption), (by first | rfl | omega | simp), (by rfl), (by rfl), (by exact Tb_nil), (by exact fun r hr => by cases hr)⟩ ?_
        rintro m ⟨e, σ, h⟩ ⟨n, acc, S, v, σ1, hm, hσ, e1, e3, e21, e22, e23, hn, hacc, h0_, hT, hS⟩ K22 hK22
        simp only at hσ e1 e3 e21 e22 e23
        subst hσ
        refine vc_seq fun K23 hK23 => ?_
        refine vc_reg ?_
        try simp (disch := omega) only [go_sem, ↓reduceIte, Nat.reduceEqDiff, reduceCtorEq, Nat.reduceAdd, Nat.reduceLeDiff, Nat.reduceMul, Int.reduceNeg, Int.reduceLT, Int.reduceAdd, Int.reduceSub, e1, e3, e21, e22, e23, hcl]
        refine hK23 _ ?_
        refine vc_seq fun K24 hK24 => ?_
        refine vc_cond (t := _) rfl (fun hc5 => ?_) (fun hc5 => ?_)
        · (try simp only [go_sem] at hc5)
          refine vc_skip ?_
          refine hK24 _ ?_
          refine vc_seq fun K25 hK25 => ?_
          refine vc_block ?_
          refine vc_seq fun K26 hK26 => ?_
          obtain ⟨c, hc, hrc⟩ := E.repL_get ha (n := n) (by omega)
          obtain ⟨gc, cc, rfl, hcc⟩ := E.rep_cells hrc
          have hal : acc.length = n := by rw [hacc, E.txL_len, List.length_take]; omega
          have hlt0 := (List.getElem?_eq_some_iff.1 h0_).1
          refine vc_reg ?_
          try simp (disch := omega) only [go_sem, ↓reduceIte, Nat.reduceEqDiff, reduceCtorEq, Nat.reduceAdd, Nat.reduceLeDiff, Nat.reduceMul, Int.reduceNeg, Int.reduceLT, Int.reduceAdd, Int.reduceSub, e1, e3, e21, e22, e23, hcl, hc, get_new, set_new, setV, solid_agg, isVal_agg]
          intro g8_2 hg8_2
          refine hK26 _ ?_
          have hTm := hT.more (Ob.row g8_2 0 3 3 [[V.t (.int .i64 us[n].kind), V.t (.str us[n].name), V.t (.sl gc cc)]])
          have h0m := (get_old (o := Ob.row g8_2 0 3 3 [[V.t (.int .i64 us[n].kind), V.t (.str us[n].name), V.t (.sl gc cc)]]) hlt0).trans h0_
          refine vc_reg ?_
          try simp (disch := omega) only [go_sem, ↓reduceIte, Nat.reduceEqDiff, reduceCtorEq, Nat.reduceAdd, Nat.reduceLeDiff, Nat.reduceMul, Int.reduceNeg, Int.reduceLT, Int.reduceAdd, Int.reduceSub, e1, e3, e21, e22, e23, hcl, get_new]
          refine vcX_call _ _ (ih _ (List.getElem_mem (show n < us.length by omega)) _ hrc (by have := E.wtL_mem (List.getElem_mem (show n < us.length by omega)); omega) (E.afL_mem hv.2 (List.getElem_mem (show n < us.length by omega))) (by have := E.szL_mem' (List.getElem_mem (show n < us.length by omega)); omega)) rfl rfl (by first | rfl | simp [V.pures, V.pure, V.pures_t]) ?_
          rintro r9_2 h9_2 hh9_2 rfl -
          try simp (disch := omega) only [go_sem, ↓reduceIte, Nat.reduceEqDiff, reduceCtorEq, Nat.reduceAdd, Nat.reduceLeDiff, Nat.reduceMul, Int.reduceNeg, Int.reduceLT, Int.reduceAdd, Int.reduceSub, e1, e3, e21, e22, e23, hcl, get_new]
          refine .inl ⟨by simp [bsOk], fun g9_3 hg9_3 => ?_⟩
          try simp (disch := omega) only [go_sem, ↓reduceIte, Nat.reduceEqDiff, reduceCtorEq, Nat.reduceAdd, Nat.reduceLeDiff, Nat.reduceMul, Int.reduceNeg, Int.reduceLT, Int.reduceAdd, Int.reduceSub, e1, e3, e21, e22, e23, hcl, get_new]
          refine x_appT [V.t (.str (E.tx us[n]))] (show tElem Tryz.prog 36 = some 9 by kernel_rfl) (show tSize Tryz.prog 9 = some 1 by kernel_rfl) (show tZero Tryz.prog 9 = some [.t (.str ⟨#[]⟩)] by kernel_rfl) (show tBytes Tryz.prog 9 = some 16 by kernel_rfl) rfl (hTm.more _) (by first | rfl | (simp (disch := omega) only [go_sem, ↓reduceIte, Nat.reduceEqDiff, reduceCtorEq, Nat.reduceAdd, Nat.reduceLeDiff, Nat.reduceMul, Int.reduceNeg, Int.reduceLT, Int.reduceAdd, Int.reduceSub, e1, e3, e21, e22, e23, hcl, get_new, appElems, St.elems])) (by simp) (TrL_one Tr_str) rfl (Dj_nil _) (by rw [Ds_len]; omega) ?_
          rintro v9_4 S9_4 σ9_4 h9_4 hT9_4 hk9_4 hS9_4 hl9_4 hle9_4 hh9_4
          try simp (disch := omega) only [go_sem, ↓reduceIte, Nat.reduceEqDiff, reduceCtorEq, Nat.reduceAdd, Nat.reduceLeDiff, Nat.reduceMul, Int.reduceNeg, Int.reduceLT, Int.reduceAdd, Int.reduceSub, e1, e3, e21, e22, e23, hcl, get_new]
          refine hK25 _ ?_
          refine vc_reg ?_
          try simp (disch := omega) only [go_sem, ↓reduceIte, Nat.reduceEqDiff, reduceCtorEq, Nat.reduceAdd, Nat.reduceLeDiff, Nat.reduceMul, Int.reduceNeg, Int.reduceLT, Int.reduceAdd, Int.reduceSub, e1, e3, e21, e22, e23, hcl]
          refine hK22 _ _ ?_ ⟨n + 1, acc ++ [E.tx us[n]], S9_4, v9_4, σ9_4, rfl, (by first | rfl | simp), (by first | rfl | assumption), (by first | rfl | assumption), (by first | rfl | assumption), (by first | rfl | assumption), (by first | rfl | assumption), ?_, ?_, ?_, ?_, ?_⟩
          · omega
          · first | omega | assumption | rfl | simp_all
          · rw [hacc, E.txL_take (by omega)]
          · exact (hk9_4 0 (by simp) (fun hx => by have := hS 0 hx; omega)).trans ((get_old (by first | exact hlt0 | (simp; done) | (simp; omega))).trans h0m)
          · rw [Ds_app]; exact hT9_4
          · exact fun r hr => (hS9_4 r hr).elim (hS r) (fun h => h.elim (fun h => by cases h) (fun h => by simp at h; omega))
        · (try simp only [go_sem] at hc5)
          refine vc_exit ?_
          refine hK20 _ ?_
          refine vc_seq fun K27 hK27 => ?_
          obtain ⟨gl, hlend⟩ := hT.lend
          rw [Ds_er] at hlend
          have htz := E.txL_size us
          have hfull : acc = E.txL us := by rw [hacc, List.take_of_length_le (by omega)]
          rw [← hfull] at htz
          have hjz := jn_size acc
          obtain ⟨hz1, hz2, hz3⟩ := txz (nm := nm) (x := jn acc ⟨#[44]⟩) (by omega) (by omega)
          have hz4 : ¬ (IntKind.i64.max < ((nm.size + (#[40] : Array UInt8).size : Nat) : Int)) := hz1
          have hz5 : ¬ (IntKind.i64.max < (((nm ++ ⟨#[40]⟩ ++ jn acc ⟨#[44]⟩).size + (#[41] : Array UInt8).size : Nat) : Int)) := hz3
          have hs40 : (#[40] : Array UInt8).size = 1 := rfl
          have hs41 : (#[41] : Array UInt8).size = 1 := rfl
          have hz6 : ¬ (IntKind.i64.max < ((nm.size + (#[40] : Array UInt8).size + (jn acc ⟨#[44]⟩).size : Nat) : Int)) := by rw [i64max, hs40]; omega
          have hz7 : ¬ (IntKind.i64.max < ((nm.size + (#[40] : Array UInt8).size + (jn acc ⟨#[44]⟩).size + (#[41] : Array UInt8).size : Nat) : Int)) := by rw [i64max, hs40, hs41]; omega
          refine vc_regD [(0, false), (1, false), (2, false), (3, false), (4, false), (5, false), (6, false), (7, false)] (by kernel_rfl) ?_
          try simp (disch := omega) only [go_sem, ↓reduceIte, Nat.reduceEqDiff, reduceCtorEq, Nat.reduceAdd, Nat.reduceLeDiff, Nat.reduceMul, Int.reduceNeg, Int.reduceLT, Int.reduceAdd, Int.reduceSub, e1, e3, e21, e22, e23, hcl, List.getElem_cons_zero, List.getElem_cons_succ, h0_, hz1, hz2, hz3, hz4, hz5, hz6, hz7]
          refine vcX_callS (caps := []) S [.t (.sl gl (Ts acc)), .t (.str ⟨#[44]⟩)] _ (strings_Join gl acc ⟨#[44]⟩ (by omega) (by show 1 ≤ _; omega)) (by first | rfl | simp (disch := omega) only [go_sem, ↓reduceIte, Nat.reduceEqDiff, reduceCtorEq, Nat.reduceAdd, Nat.reduceLeDiff, Nat.reduceMul, Int.reduceNeg, Int.reduceLT, Int.reduceAdd, Int.reduceSub, e1, e3, e21, e22, e23, hcl, List.getElem_cons_zero, List.getElem_cons_succ, h0_, hz1, hz2, hz3, hz4, hz5, hz6, hz7]) ?_ ?_
          · show Subs [V.loc _ [] S (v), V.t (.str ⟨#[44]⟩)] _
            exact Subs.cons hlend (Subs.cons (.refl _) (Subs.nil))
          rintro r11_4 h11_4 hh11_4 rfl -
          refine ⟨fun q hq o ho hm => by simp [V.ids, T.ids] at hm, ?_⟩
          try simp (disch := omega) only [go_sem, ↓reduceIte, Nat.reduceEqDiff, reduceCtorEq, Nat.reduceAdd, Nat.reduceLeDiff, Nat.reduceMul, Int.reduceNeg, Int.reduceLT, Int.reduceAdd, Int.reduceSub, e1, e3, e21, e22, e23, hcl, List.getElem_cons_zero, List.getElem_cons_succ, h0_, hz1, hz2, hz3, hz4, hz5, hz6, hz7]
          refine hK27 _ ?_
          refine vc_ret ?_
          refine ⟨_, by first | rfl | (simp only [go_sem, resQ, List.mapM_cons, List.mapM_nil, ↓reduceIte, Nat.reduceEqDiff, Nat.reduceAdd, Nat.reduceLeDiff, reduceCtorEq]; rfl), [], [], .nil, by simp, by simp, fun hi_ h1_ => ⟨?_, rfl, rfl⟩, by simp⟩
          first
          | (exfalso; omega)
          | (have hq : E.tx (.mk k nm us) = ⟨#[33]⟩ := by rw [E.tx, if_pos (by omega)]
             rw [hq]; rfl)
          | (have hq : E.tx (.mk k nm us) = nm := by rw [E.tx, if_neg (by omega), if_pos (by omega)]
             rw [hq]; rfl)
          | (have hq : E.tx (.mk k nm us) = nm ++ ⟨#[40]⟩ ++ jn acc ⟨#[44]⟩ ++ ⟨#[41]⟩ := by rw [E.tx, if_neg (by omega), if_neg (by omega), hfull]
             rw [hq]; rfl)

/-- spec.FormatExpr -/
theorem spec_FormatExpr (e : E) (c : List T) (hc : e.rep c) (hw : e.wt ≤ 1048576) : FCtr Tryz.prog 19 [.agg (c.map .t)] (fun r => r = .t (.str (if (decide ((e.sz : Int) ≤ 80) && (decide ((e.dp : Int) ≤ 24) && e.af)) = true then e.tx else ⟨#[]⟩))) := by
  have hc0 := hc
  obtain ⟨g, cs, rfl, hcs⟩ := E.rep_cells hc
  refine Ctr.of_vc (rs := [.tmp 2]) (fn := Tryz.f19) mixed Tryz.func19 rfl rfl (by kernel_rfl) (by kernel_rfl) (by simp [Tryz.ntmps19]) (fun h0 => ?_)
  refine vc_seq fun K1 hK1 => ?_
  refine vc_reg ?_
  try simp (disch := omega) only [go_sem, ↓reduceIte, Nat.reduceEqDiff, reduceCtorEq, Nat.reduceAdd, Nat.reduceLeDiff, Nat.reduceMul, Int.reduceNeg, Int.reduceLT, Int.reduceAdd, Int.reduceSub]
  intro g0_0 hg0_0
  refine hK1 _ ?_
  refine vc_seq fun K2 hK2 => ?_
  refine vc_seq fun K3 hK3 => ?_
  refine vc_reg ?_
  try simp (disch := omega) only [go_sem, ↓reduceIte, Nat.reduceEqDiff, reduceCtorEq, Nat.reduceAdd, Nat.reduceLeDiff, Nat.reduceMul, Int.reduceNeg, Int.reduceLT, Int.reduceAdd, Int.reduceSub]
  refine vcX_call _ _ (spec_IsValidExpr e _ hc0 hw) rfl rfl (by first | rfl | simp [V.pures, V.pure, V.pures_t]) ?_
  rintro r1_1 h1_1 hh1_1 rfl -
  try simp (disch := omega) only [go_sem, ↓reduceIte, Nat.reduceEqDiff, reduceCtorEq, Nat.reduceAdd, Nat.reduceLeDiff, Nat.reduceMul, Int.reduceNeg, Int.reduceLT, Int.reduceAdd, Int.reduceSub]
  refine hK3 _ ?_
  refine vc_cond (t := _) rfl (fun hc1 => ?_) (fun hc1 => ?_)
  · (try simp only [go_sem] at hc1)
    refine vc_seq fun K4 hK4 => ?_
    refine vc_reg ?_
    try simp (disch := omega) only [go_sem, ↓reduceIte, Nat.reduceEqDiff, reduceCtorEq, Nat.reduceAdd, Nat.reduceLeDiff, Nat.reduceMul, Int.reduceNeg, Int.reduceLT, Int.reduceAdd, Int.reduceSub]
    refine hK4 _ ?_
    refine vc_ret ?_
    refine ⟨_, by first | rfl | (simp only [go_sem, resQ, List.mapM_cons, List.mapM_nil, ↓reduceIte, Nat.reduceEqDiff, Nat.reduceAdd, Nat.reduceLeDiff, reduceCtorEq]; rfl), [], [], .nil, by simp, by simp, fun hi_ h1_ => ⟨?_, rfl, rfl⟩, by simp⟩
    have hv2 : ¬ ((decide ((e.sz : Int) ≤ 80) && (decide ((e.dp : Int) ≤ 24) && e.af)) = true) := by first | (rw [hc1]; exact Bool.false_ne_true) | simpa using hc1
    rw [if_neg hv2]; rfl
  · (try simp only [go_sem] at hc1)
    have hv2 : (decide ((e.sz : Int) ≤ 80) && (decide ((e.dp : Int) ≤ 24) && e.af)) = true := by first | exact hc1 | simpa using hc1
    have hv3 := hv2
    simp only [Bool.and_eq_true, decide_eq_true_eq] at hv3
    refine vc_skip ?_
    refine hK2 _ ?_
    refine vc_seq fun K5 hK5 => ?_
    refine vc_reg ?_
    try simp (disch := omega) only [go_sem, ↓reduceIte, Nat.reduceEqDiff, reduceCtorEq, Nat.reduceAdd, Nat.reduceLeDiff, Nat.reduceMul, Int.reduceNeg, Int.reduceLT, Int.reduceAdd, Int.reduceSub]
    refine vcX_call _ _ (spec_l4Text e _ hc0 hw hv3.2.2 (by omega)) rfl rfl (by first | rfl | simp [V.pures, V.pure, V.pures_t]) ?_
    rintro r3_1 h3_1 hh3_1 rfl -
    try simp (disch := omega) only [go_sem, ↓reduceIte, Nat.reduceEqDiff, reduceCtorEq, Nat.reduceAdd, Nat.reduceLeDiff, Nat.reduceMul, Int.reduceNeg, Int.reduceLT, Int.reduceAdd, Int.reduceSub]
    refine hK5 _ ?_
    refine vc_ret ?_
    refine ⟨_, by first | rfl | (simp only [go_sem, resQ, List.mapM_cons, List.mapM_nil, ↓reduceIte, Nat.reduceEqDiff, Nat.reduceAdd, Nat.reduceLeDiff, reduceCtorEq]; rfl), [], [], .nil, by simp, by simp, fun hi_ h1_ => ⟨?_, rfl, rfl⟩, by simp⟩
    rw [if_pos hv2]; rfl

/-- impl.FormatExpr -/
theorem impl_FormatExpr (e : E) (c : List T) (hc : e.rep c) (hw : e.wt ≤ 1048576) : FCtr Tryz.prog 33 [.agg (c.map .t)] (fun r => r = .t (.str (if (decide ((e.sz : Int) ≤ 80) && (decide ((e.dp : Int) ≤ 24) && e.af)) = true then e.tx else ⟨#[]⟩))) := by
  have hc0 := hc
  obtain ⟨g, cs, rfl, hcs⟩ := E.rep_cells hc
  refine Ctr.of_vc (rs := [.tmp 2]) (fn := Tryz.f33) mixed Tryz.func33 rfl rfl (by kernel_rfl) (by kernel_rfl) (by simp [Tryz.ntmps33]) (fun h0 => ?_)
  refine vc_seq fun K1 hK1 => ?_
  refine vc_reg ?_
  try simp (disch := omega) only [go_sem, ↓reduceIte, Nat.reduceEqDiff, reduceCtorEq, Nat.reduceAdd, Nat.reduceLeDiff, Nat.reduceMul, Int.reduceNeg, Int.reduceLT, Int.reduceAdd, Int.reduceSub]
  intro g0_0 hg0_0
  refine hK1 _ ?_
  refine vc_seq fun K2 hK2 => ?_
  refine vc_seq fun K3 hK3 => ?_
  refine vc_reg ?_
  try simp (disch := omega) only [go_sem, ↓reduceIte, Nat.reduceEqDiff, reduceCtorEq, Nat.reduceAdd, Nat.reduceLeDiff, Nat.reduceMul, Int.reduceNeg, Int.reduceLT, Int.reduceAdd, Int.reduceSub]
  refine vcX_call _ _ (impl_IsValidExpr e _ hc0 hw) rfl rfl (by first | rfl | simp [V.pures, V.pure, V.pures_t]) ?_
  rintro r1_1 h1_1 hh1_1 rfl -
  try simp (disch := omega) only [go_sem, ↓reduceIte, Nat.reduceEqDiff, reduceCtorEq, Nat.reduceAdd, Nat.reduceLeDiff, Nat.reduceMul, Int.reduceNeg, Int.reduceLT, Int.reduceAdd, Int.reduceSub]
  refine hK3 _ ?_
  refine vc_cond (t := _) rfl (fun hc1 => ?_) (fun hc1 => ?_)
  · (try simp only [go_sem] at hc1)
    refine vc_seq fun K4 hK4 => ?_
    refine vc_reg ?_
    try simp (disch := omega) only [go_sem, ↓reduceIte, Nat.reduceEqDiff, reduceCtorEq, Nat.reduceAdd, Nat.reduceLeDiff, Nat.reduceMul, Int.reduceNeg, Int.reduceLT, Int.reduceAdd, Int.reduceSub]
    refine hK4 _ ?_
    refine vc_ret ?_
    refine ⟨_, by first | rfl | (simp only [go_sem, resQ, List.mapM_cons, List.mapM_nil, ↓reduceIte, Nat.reduceEqDiff, Nat.reduceAdd, Nat.reduceLeDiff, reduceCtorEq]; rfl), [], [], .nil, by simp, by simp, fun hi_ h1_ => ⟨?_, rfl, rfl⟩, by simp⟩
    have hv2 : ¬ ((decide ((e.sz : Int) ≤ 80) && (decide ((e.dp : Int) ≤ 24) && e.af)) = true) := by first | (rw [hc1]; exact Bool.false_ne_true) | simpa using hc1
    rw [if_neg hv2]; rfl
  · (try simp only [go_sem] at hc1)
    have hv2 : (decide ((e.sz : Int) ≤ 80) && (decide ((e.dp : Int) ≤ 24) && e.af)) = true := by first | exact hc1 | simpa using hc1
    have hv3 := hv2
    simp only [Bool.and_eq_true, decide_eq_true_eq] at hv3
    refine vc_skip ?_
    refine hK2 _ ?_
    refine vc_seq fun K5 hK5 => ?_
    refine vc_reg ?_
    try simp (disch := omega) only [go_sem, ↓reduceIte, Nat.reduceEqDiff, reduceCtorEq, Nat.reduceAdd, Nat.reduceLeDiff, Nat.reduceMul, Int.reduceNeg, Int.reduceLT, Int.reduceAdd, Int.reduceSub]
    refine vcX_call _ _ (impl_exprText e _ hc0 hw hv3.2.2 (by omega)) rfl rfl (by first | rfl | simp [V.pures, V.pure, V.pures_t]) ?_
    rintro r3_1 h3_1 hh3_1 rfl -
    try simp (disch := omega) only [go_sem, ↓reduceIte, Nat.reduceEqDiff, reduceCtorEq, Nat.reduceAdd, Nat.reduceLeDiff, Nat.reduceMul, Int.reduceNeg, Int.reduceLT, Int.reduceAdd, Int.reduceSub]
    refine hK5 _ ?_
    refine vc_ret ?_
    refine ⟨_, by first | rfl | (simp only [go_sem, resQ, List.mapM_cons, List.mapM_nil, ↓reduceIte, Nat.reduceEqDiff, Nat.reduceAdd, Nat.reduceLeDiff, reduceCtorEq]; rfl), [], [], .nil, by simp, by simp, fun hi_ h1_ => ⟨?_, rfl, rfl⟩, by simp⟩
    rw [if_pos hv2]; rfl
end Go.Proofs.YtldhhppfnhgcdaaGreat
