/- Walks through the code: each function's contract. -/
import Derived.Test.YtlooiifgbiedeaaWZ
import Derived.Test.YtlooiifgbiedeaaWI
set_option linter.unusedVariables false
set_option linter.unusedSimpArgs false
set_option maxRecDepth 8000
namespace Go.Proofs.Ytlooiifgbiedeaa
open Go Go.VL

end Go.Proofs.Ytlooiifgbiedeaa
namespace Go.VL
/-- The value of a name. -/
def fb (s : ByteArray) : List B → Option E
  | [] => none
  | b :: l => if b.nm = s then some b.va else fb s l
theorem fb_drop {s : ByteArray} {l : List B} {n : Nat} (h : n < l.length) : fb s (l.drop n) = if l[n].nm = s then some l[n].va else fb s (l.drop (n + 1)) := by rw [drop_get h, fb]
theorem fb_mem {s : ByteArray} : ∀ {l : List B} {e : E}, fb s l = some e → ∃ b ∈ l, b.va = e
  | [], e, h => by cases h
  | b :: l, e, h => by
    rw [fb] at h
    split at h
    · injection h with h
      exact ⟨b, List.mem_cons_self, h⟩
    · obtain ⟨b', h1, h2⟩ := fb_mem h
      exact ⟨b', List.mem_cons_of_mem _ h1, h2⟩
def Ez : E := .mk 0 ⟨#[]⟩ []
mutual
/-- A term under bindings. -/
def ap (l : List B) : E → E
  | .mk k n us => if k = 1 then (fb n l).getD (.mk k n us) else .mk k n (apL l us)
def apL (l : List B) : List E → List E
  | [] => []
  | e :: us => ap l e :: apL l us
end
theorem apL_len (l : List B) : ∀ us : List E, (apL l us).length = us.length
  | [] => rfl
  | e :: us => by rw [apL, List.length_cons, apL_len l us, List.length_cons]
theorem apL_app (l : List B) : ∀ us vs : List E, apL l (us ++ vs) = apL l us ++ apL l vs
  | [], vs => rfl
  | e :: us, vs => by rw [List.cons_append, apL, apL_app l us vs, apL]; rfl
theorem apL_take {l : List B} {us : List E} {n : Nat} (h : n < us.length) : apL l (us.take (n + 1)) = apL l (us.take n) ++ [ap l us[n]] := by
  rw [List.take_add_one, List.getElem?_eq_getElem h, apL_app]; rfl
theorem ap_bound {l : List B} {M : Nat} (hM : ∀ b ∈ l, b.va.wt ≤ M ∧ b.va.sz ≤ M + 1) : ∀ e : E, (ap l e).wt ≤ e.wt + e.sz * M ∧ (ap l e).sz ≤ e.sz * (M + 1) := by
  intro e
  induction e using E.ind with
  | h k n us ih =>
    have hL : ∀ vs : List E, (∀ a ∈ vs, (ap l a).wt ≤ a.wt + a.sz * M ∧ (ap l a).sz ≤ a.sz * (M + 1)) → E.wtL (apL l vs) ≤ E.wtL vs + E.szL vs * M ∧ E.szL (apL l vs) ≤ E.szL vs * (M + 1) := by
      intro vs
      induction vs with
      | nil => exact fun _ => by simp [apL, E.wtL, E.szL]
      | cons a vs ihl =>
        intro h
        obtain ⟨h1, h2⟩ := h a List.mem_cons_self
        obtain ⟨h3, h4⟩ := ihl (fun b hb => h b (List.mem_cons_of_mem _ hb))
        rw [apL, E.wtL, E.szL, E.wtL, E.szL, Nat.add_mul, Nat.add_mul]
        omega
    obtain ⟨h1, h2⟩ := hL us ih
    have hs : (E.mk k n us).sz = 1 + E.szL us := by rw [E.sz]
    have hw : (E.mk k n us).wt = n.size + E.wtL us := by rw [E.wt]
    rw [ap]
    split
    · cases hf : fb n l with
      | none =>
        rw [Option.getD_none]
        exact ⟨Nat.le_add_right _ _, Nat.le_mul_of_pos_right _ (by omega)⟩
      | some v =>
        rw [Option.getD_some]
        obtain ⟨b, hb, rfl⟩ := fb_mem hf
        obtain ⟨h3, h4⟩ := hM b hb
        rw [hs, Nat.add_mul, Nat.add_mul]
        constructor <;> omega
    · rw [hs, hw, E.wt, E.sz, Nat.add_mul, Nat.add_mul]
      constructor <;> omega
theorem ap_small {l : List B} {e : E} (he : e.wt ≤ 1048576) (hl : wl B.wt l ≤ 1048576) : (ap l e).wt < 2^60 ∧ 1 + 2 * (ap l e).sz ≤ 2^60 := by
  have h := ap_bound (l := l) (M := 1048576) (fun b hb => by
    have h1 := wl_mem (f := B.wt) hb
    rw [B.wt] at h1
    have h2 := E.sz_wt b.va
    omega) e
  have h3 := E.sz_wt e
  have h4 : e.sz * 1048576 ≤ 1048577 * 1048576 := Nat.mul_le_mul_right _ (by omega)
  have h5 : e.sz * (1048576 + 1) ≤ 1048577 * 1048577 := Nat.mul_le_mul_right _ (by omega)
  omega
end Go.VL
namespace Go.Proofs.Ytlooiifgbiedeaa
open Go Go.VL

/-- spec.FindBinding -/
theorem spec_FindBinding (g : Nat) (us : List B) (cs : List (List T)) (ha : Rl B.rep us cs) (hw : wl B.wt us ≤ 1048576) (s1 : ByteArray) : OCtr Try.prog 39 [.t (.sl g cs), .t (.str s1)] (fun s ts => s = .aggT (.bool (fb s1 us).isSome) ∧ ((fb s1 us).getD Ez).rep ts) := by
  have hl1_ := wl_len B.wt us
  have hcl := ha.len
  unfold OCtr
  refine Ctr.of_vc (rs := [.cell 4 37, .tmp 5]) (fn := Try.f39) mixed Try.func39 rfl rfl (by kernel_rfl) (by kernel_rfl) (by simp [Try.ntmps39]) (fun h0 => ?_)
  refine vc_seq fun K1 hK1 => ?_
  refine vc_reg ?_
  try simp (disch := omega) only [go_sem, ↓reduceIte, Nat.reduceEqDiff, reduceCtorEq, Nat.reduceAdd, Nat.reduceLeDiff, Nat.reduceMul, Int.reduceNeg, Int.reduceLT, Int.reduceAdd, Int.reduceSub, hcl]
  intro g0_0 hg0_0
  refine hK1 _ ?_
  refine vc_seq fun K2 hK2 => ?_
  refine vc_seq fun K3 hK3 => ?_
  refine vc_reg ?_
  try simp (disch := omega) only [go_sem, ↓reduceIte, Nat.reduceEqDiff, reduceCtorEq, Nat.reduceAdd, Nat.reduceLeDiff, Nat.reduceMul, Int.reduceNeg, Int.reduceLT, Int.reduceAdd, Int.reduceSub, hcl]
  refine hK3 _ ?_
  refine vc_block ?_
  refine vc_loop (fun m s => ∃ (n : Nat), (m = us.length - n) ∧ (s.σ = [.row g0_0 0 3 3 [[V.t (.int .i64 0), V.t (.str ⟨#[]⟩), V.nil0]]]) ∧ (s.env 0 = .t (.sl g cs)) ∧ (s.env 1 = .t (.str s1)) ∧ (s.env 4 = .ptr 0 0 0 0) ∧ (s.env 6 = .t (.int .i64 n)) ∧ (n ≤ us.length) ∧ (fb s1 us = fb s1 (us.drop n))) (us.length - 0) ⟨0, rfl, (by first | rfl | simp), (by first | rfl | assumption | (simp (disch := omega) only [go_sem, ↓reduceIte, Nat.reduceEqDiff, reduceCtorEq, Nat.reduceAdd, Nat.reduceLeDiff, Nat.reduceMul, Int.reduceNeg, Int.reduceLT, Int.reduceAdd, Int.reduceSub, hcl])), (by first | rfl | assumption | (simp (disch := omega) only [go_sem, ↓reduceIte, Nat.reduceEqDiff, reduceCtorEq, Nat.reduceAdd, Nat.reduceLeDiff, Nat.reduceMul, Int.reduceNeg, Int.reduceLT, Int.reduceAdd, Int.reduceSub, hcl])), (by first | rfl | assumption | (simp (disch := omega) only [go_sem, ↓reduceIte, Nat.reduceEqDiff, reduceCtorEq, Nat.reduceAdd, Nat.reduceLeDiff, Nat.reduceMul, Int.reduceNeg, Int.reduceLT, Int.reduceAdd, Int.reduceSub, hcl])), (by first | rfl | assumption | (simp (disch := omega) only [go_sem, ↓reduceIte, Nat.reduceEqDiff, reduceCtorEq, Nat.reduceAdd, Nat.reduceLeDiff, Nat.reduceMul, Int.reduceNeg, Int.reduceLT, Int.reduceAdd, Int.reduceSub, hcl])), (by first | rfl | omega | simp), (by rfl)⟩ ?_
  rintro m ⟨e, σ, h⟩ ⟨n, hm, hσ, e0, e1, e4, e6, hn, hf⟩ K4 hK4
  simp only at hσ e0 e1 e4 e6
  subst hσ
  refine vc_seq fun K5 hK5 => ?_
  refine vc_seq fun K6 hK6 => ?_
  refine vc_reg ?_
  try simp (disch := omega) only [go_sem, ↓reduceIte, Nat.reduceEqDiff, reduceCtorEq, Nat.reduceAdd, Nat.reduceLeDiff, Nat.reduceMul, Int.reduceNeg, Int.reduceLT, Int.reduceAdd, Int.reduceSub, e0, e1, e4, e6, hcl]
  refine hK6 _ ?_
  refine vc_cond (t := _) (by first | rfl | (simp (disch := omega) only [go_sem, ↓reduceIte, Nat.reduceEqDiff, reduceCtorEq, Nat.reduceAdd, Nat.reduceLeDiff, Nat.reduceMul, Int.reduceNeg, Int.reduceLT, Int.reduceAdd, Int.reduceSub, e0, e1, e4, e6, hcl]; rfl)) (fun hc1 => ?_) (fun hc1 => ?_)
  · (try simp only [go_sem] at hc1)
    refine vc_skip ?_
    refine hK5 _ ?_
    refine vc_seq fun K7 hK7 => ?_
    refine vc_block ?_
    refine vc_seq fun K8 hK8 => ?_
    obtain ⟨cc, hcc, hrc⟩ := Rl.get ha (n := n) (by omega)
    obtain ⟨kc_, nc_, gc_, csc_, rfl, hvc_⟩ := B.cells hrc
    have hwn := wl_mem (f := B.wt) (List.getElem_mem (show n < us.length by omega))
    rw [B.wt] at hwn
    refine vc_reg ?_
    try simp (disch := omega) only [go_sem, ↓reduceIte, Nat.reduceEqDiff, reduceCtorEq, Nat.reduceAdd, Nat.reduceLeDiff, Nat.reduceMul, Int.reduceNeg, Int.reduceLT, Int.reduceAdd, Int.reduceSub, e0, e1, e4, e6, hcl, hcc]
    refine hK8 _ ?_
    refine vc_cond (t := _) (by first | rfl | (simp (disch := omega) only [go_sem, ↓reduceIte, Nat.reduceEqDiff, reduceCtorEq, Nat.reduceAdd, Nat.reduceLeDiff, Nat.reduceMul, Int.reduceNeg, Int.reduceLT, Int.reduceAdd, Int.reduceSub, e0, e1, e4, e6, hcl]; rfl)) (fun hc2 => ?_) (fun hc2 => ?_)
    · (try simp only [go_sem] at hc2)
      refine vc_seq fun K9 hK9 => ?_
      refine vc_reg ?_
      try simp (disch := omega) only [go_sem, ↓reduceIte, Nat.reduceEqDiff, reduceCtorEq, Nat.reduceAdd, Nat.reduceLeDiff, Nat.reduceMul, Int.reduceNeg, Int.reduceLT, Int.reduceAdd, Int.reduceSub, e0, e1, e4, e6, hcl, hcc]
      refine x_callO (caps := []) [] [.agg (List.map V.t [.int .i64 kc_, .str nc_, .sl gc_ csc_])] _ (spec_l3Copy us[n].va _ hvc_ (by omega)) (by first | rfl | simp (disch := omega) only [go_sem, ↓reduceIte, Nat.reduceEqDiff, reduceCtorEq, Nat.reduceAdd, Nat.reduceLeDiff, Nat.reduceMul, Int.reduceNeg, Int.reduceLT, Int.reduceAdd, Int.reduceSub, e0, e1, e4, e6, hcl, hcc]) ?_ ?_
      · exact Subs.of_eq (by first | rfl | simp (disch := omega) only [go_sem, ↓reduceIte, Nat.reduceEqDiff, reduceCtorEq, Nat.reduceAdd, Nat.reduceLeDiff, Nat.reduceMul, Int.reduceNeg, Int.reduceLT, Int.reduceAdd, Int.reduceSub, e0, e1, e4, e6, hcl, hcc])
      rintro s d5 v5 S5 σ5 h5 ⟨rfl, hE5⟩ hT5 hk5 hS5 hl5 hh5
      obtain ⟨dd, vv, gg, ccs, hdd, rfl, hTd, hEd, hRd⟩ := E.own_cells hT5 hE5
      have hvl := hTd.leaf
      have k0 : σ5[0]? = some _ := hk5 0 (by simp)
      have hl0 : 0 < σ5.length := by have : 1 ≤ σ5.length := hl5; omega
      have hS0 : ∀ r ∈ S5, 1 ≤ r := hS5
      try simp (disch := omega) only [go_sem, ↓reduceIte, Nat.reduceEqDiff, reduceCtorEq, Nat.reduceAdd, Nat.reduceLeDiff, Nat.reduceMul, Int.reduceNeg, Int.reduceLT, Int.reduceAdd, Int.reduceSub, e0, e1, e4, e6, hcl, k0, setV, hvl, List.all_cons, List.all_nil, Bool.and_true, Bool.and_self]
      refine hK9 _ ?_
      refine vc_ret ?_
      have hfs : fb s1 us = some us[n].va := by rw [hf, fb_drop (l := us) (n := n) (by omega), if_pos hc2]
      refine retO (h0 := h0) (Q := (fun s ts => s = .aggT (.bool (fb s1 us).isSome) ∧ ((fb s1 us).getD Ez).rep ts)) (.aggT (.bool true)) (ds := d5) (S := S5) (ws := [.t (.int .i64 us[n].va.kind), .t (.str us[n].va.name), vv]) (vs := [.agg [.t (.int .i64 us[n].va.kind), .t (.str us[n].va.name), vv], .t (.bool true)]) ?_ rfl rfl (hT5.keep (fun r hr => List.getElem?_set_ne (by have := hS0 r hr; omega))) ⟨by rw [hfs]; rfl, by rw [hfs]; exact hE5⟩
      simp (disch := omega) only [go_sem, resQ, List.mapM_cons, List.mapM_nil, e0, e1, e4, e6, k0, hl0, List.getElem?_set, List.length_set, Nat.reduceEqDiff, ↓reduceIte, reduceCtorEq, Nat.reduceAdd, Nat.reduceLeDiff, setV]
      rfl
    · (try simp only [go_sem] at hc2)
      refine vc_skip ?_
      refine hK7 _ ?_
      refine vc_reg ?_
      try simp (disch := omega) only [go_sem, ↓reduceIte, Nat.reduceEqDiff, reduceCtorEq, Nat.reduceAdd, Nat.reduceLeDiff, Nat.reduceMul, Int.reduceNeg, Int.reduceLT, Int.reduceAdd, Int.reduceSub, e0, e1, e4, e6, hcl]
      refine hK4 _ _ ?_ ⟨n + 1, rfl, (by first | rfl | simp), (by first | rfl | assumption | (simp (disch := omega) only [go_sem, ↓reduceIte, Nat.reduceEqDiff, reduceCtorEq, Nat.reduceAdd, Nat.reduceLeDiff, Nat.reduceMul, Int.reduceNeg, Int.reduceLT, Int.reduceAdd, Int.reduceSub, e0, e1, e4, e6, hcl])), (by first | rfl | assumption | (simp (disch := omega) only [go_sem, ↓reduceIte, Nat.reduceEqDiff, reduceCtorEq, Nat.reduceAdd, Nat.reduceLeDiff, Nat.reduceMul, Int.reduceNeg, Int.reduceLT, Int.reduceAdd, Int.reduceSub, e0, e1, e4, e6, hcl])), (by first | rfl | assumption | (simp (disch := omega) only [go_sem, ↓reduceIte, Nat.reduceEqDiff, reduceCtorEq, Nat.reduceAdd, Nat.reduceLeDiff, Nat.reduceMul, Int.reduceNeg, Int.reduceLT, Int.reduceAdd, Int.reduceSub, e0, e1, e4, e6, hcl])), (by first | rfl | assumption | (simp (disch := omega) only [go_sem, ↓reduceIte, Nat.reduceEqDiff, reduceCtorEq, Nat.reduceAdd, Nat.reduceLeDiff, Nat.reduceMul, Int.reduceNeg, Int.reduceLT, Int.reduceAdd, Int.reduceSub, e0, e1, e4, e6, hcl])), ?_, ?_⟩
      · omega
      · first | omega | assumption | rfl | simp_all
      · rw [hf, fb_drop (l := us) (n := n) (by omega), if_neg hc2]
  · (try simp only [go_sem] at hc1)
    refine vc_exit ?_
    refine hK2 _ ?_
    refine vc_seq fun K10 hK10 => ?_
    refine vc_reg ?_
    try simp (disch := omega) only [go_sem, ↓reduceIte, Nat.reduceEqDiff, reduceCtorEq, Nat.reduceAdd, Nat.reduceLeDiff, Nat.reduceMul, Int.reduceNeg, Int.reduceLT, Int.reduceAdd, Int.reduceSub, e0, e1, e4, e6, hcl, buildQ, fillQ, setV]
    refine hK10 _ ?_
    refine vc_ret ?_
    have hfs : fb s1 us = none := by rw [hf, List.drop_of_length_le (by omega), fb]
    refine retO (h0 := h0) (Q := (fun s ts => s = .aggT (.bool (fb s1 us).isSome) ∧ ((fb s1 us).getD Ez).rep ts)) (.aggT (.bool false)) (ds := [.t (.int .i64 0), .t (.str ⟨#[]⟩), .nil]) (S := []) (ws := [.t (.int .i64 0), .t (.str ⟨#[]⟩), .nil0]) (vs := [.agg [.t (.int .i64 0), .t (.str ⟨#[]⟩), .nil0], .t (.bool false)]) ?_ rfl rfl (TrL_leaf Tr_int (TrL_leaf Tr_str (TrL_one Tr_nil))) ⟨by rw [hfs]; rfl, by rw [hfs]; exact E.rep_of E.repL_nil⟩
    simp (disch := omega) only [go_sem, resQ, List.mapM_cons, List.mapM_nil, e0, e1, e4, e6, upd, List.getElem?_set, List.length_set, Nat.reduceEqDiff, ↓reduceIte, reduceCtorEq, Nat.reduceAdd, Nat.reduceLeDiff, setV]
    rfl

/-- impl.FindBinding -/
theorem impl_FindBinding (g : Nat) (us : List B) (cs : List (List T)) (ha : Rl B.rep us cs) (hw : wl B.wt us ≤ 1048576) (s1 : ByteArray) : OCtr Try.prog 41 [.t (.sl g cs), .t (.str s1)] (fun s ts => s = .aggT (.bool (fb s1 us).isSome) ∧ ((fb s1 us).getD Ez).rep ts) := by
  have hl1_ := wl_len B.wt us
  have hcl := ha.len
  unfold OCtr
  refine Ctr.of_vc (rs := [.cell 4 37, .tmp 5]) (fn := Try.f41) mixed Try.func41 rfl rfl (by kernel_rfl) (by kernel_rfl) (by simp [Try.ntmps41]) (fun h0 => ?_)
  refine vc_seq fun K1 hK1 => ?_
  refine vc_reg ?_
  try simp (disch := omega) only [go_sem, ↓reduceIte, Nat.reduceEqDiff, reduceCtorEq, Nat.reduceAdd, Nat.reduceLeDiff, Nat.reduceMul, Int.reduceNeg, Int.reduceLT, Int.reduceAdd, Int.reduceSub, hcl]
  intro g0_0 hg0_0
  refine hK1 _ ?_
  refine vc_seq fun K2 hK2 => ?_
  refine vc_seq fun K3 hK3 => ?_
  refine vc_reg ?_
  try simp (disch := omega) only [go_sem, ↓reduceIte, Nat.reduceEqDiff, reduceCtorEq, Nat.reduceAdd, Nat.reduceLeDiff, Nat.reduceMul, Int.reduceNeg, Int.reduceLT, Int.reduceAdd, Int.reduceSub, hcl]
  refine hK3 _ ?_
  refine vc_block ?_
  refine vc_loopG (fun m s => ∃ (n : Nat), (m = us.length - n) ∧ (s.σ = [.row g0_0 0 3 3 [[V.t (.int .i64 0), V.t (.str ⟨#[]⟩), V.nil0]]]) ∧ (s.env 1 = .t (.str s1)) ∧ (s.env 4 = .ptr 0 0 0 0) ∧ (s.env 8 = .t (.sl g cs)) ∧ (s.env 9 = .t (.int .i64 us.length)) ∧ (s.env 10 = .t (.int .i64 n)) ∧ (n ≤ us.length) ∧ (fb s1 us = fb s1 (us.drop n))) (us.length - 0) ⟨0, rfl, (by first | rfl | simp), (by first | rfl | assumption | (simp (disch := omega) only [go_sem, ↓reduceIte, Nat.reduceEqDiff, reduceCtorEq, Nat.reduceAdd, Nat.reduceLeDiff, Nat.reduceMul, Int.reduceNeg, Int.reduceLT, Int.reduceAdd, Int.reduceSub, hcl])), (by first | rfl | assumption | (simp (disch := omega) only [go_sem, ↓reduceIte, Nat.reduceEqDiff, reduceCtorEq, Nat.reduceAdd, Nat.reduceLeDiff, Nat.reduceMul, Int.reduceNeg, Int.reduceLT, Int.reduceAdd, Int.reduceSub, hcl])), (by first | rfl | assumption | (simp (disch := omega) only [go_sem, ↓reduceIte, Nat.reduceEqDiff, reduceCtorEq, Nat.reduceAdd, Nat.reduceLeDiff, Nat.reduceMul, Int.reduceNeg, Int.reduceLT, Int.reduceAdd, Int.reduceSub, hcl])), (by first | rfl | assumption | (simp (disch := omega) only [go_sem, ↓reduceIte, Nat.reduceEqDiff, reduceCtorEq, Nat.reduceAdd, Nat.reduceLeDiff, Nat.reduceMul, Int.reduceNeg, Int.reduceLT, Int.reduceAdd, Int.reduceSub, hcl])), (by first | rfl | assumption | (simp (disch := omega) only [go_sem, ↓reduceIte, Nat.reduceEqDiff, reduceCtorEq, Nat.reduceAdd, Nat.reduceLeDiff, Nat.reduceMul, Int.reduceNeg, Int.reduceLT, Int.reduceAdd, Int.reduceSub, hcl])), (by first | rfl | omega | simp), (by rfl)⟩ ?_
  rintro m ⟨e, σ, h⟩ ⟨n, hm, hσ, e1, e4, e8, e9, e10, hn, hf⟩ K4 hK4 hG4
  simp only at hσ e1 e4 e8 e9 e10
  subst hσ
  refine vc_seq fun K5 hK5 => ?_
  refine vc_reg ?_
  try simp (disch := omega) only [go_sem, ↓reduceIte, Nat.reduceEqDiff, reduceCtorEq, Nat.reduceAdd, Nat.reduceLeDiff, Nat.reduceMul, Int.reduceNeg, Int.reduceLT, Int.reduceAdd, Int.reduceSub, e1, e4, e8, e9, e10, hcl]
  refine hK5 _ ?_
  refine vc_seq fun K6 hK6 => ?_
  refine vc_cond (t := _) (by first | rfl | (simp (disch := omega) only [go_sem, ↓reduceIte, Nat.reduceEqDiff, reduceCtorEq, Nat.reduceAdd, Nat.reduceLeDiff, Nat.reduceMul, Int.reduceNeg, Int.reduceLT, Int.reduceAdd, Int.reduceSub, e1, e4, e8, e9, e10, hcl]; rfl)) (fun hc1 => ?_) (fun hc1 => ?_)
  · (try simp only [go_sem] at hc1)
    refine vc_skip ?_
    refine hK6 _ ?_
    refine vc_seq fun K7 hK7 => ?_
    refine vc_block ?_
    refine vc_seq fun K8 hK8 => ?_
    obtain ⟨cc, hcc, hrc⟩ := Rl.get ha (n := n) (by omega)
    obtain ⟨kc_, nc_, gc_, csc_, rfl, hvc_⟩ := B.cells hrc
    have hwn := wl_mem (f := B.wt) (List.getElem_mem (show n < us.length by omega))
    rw [B.wt] at hwn
    refine vc_reg ?_
    try simp (disch := omega) only [go_sem, ↓reduceIte, Nat.reduceEqDiff, reduceCtorEq, Nat.reduceAdd, Nat.reduceLeDiff, Nat.reduceMul, Int.reduceNeg, Int.reduceLT, Int.reduceAdd, Int.reduceSub, e1, e4, e8, e9, e10, hcl, hcc, setV]
    intro g3_2 hg3_2
    refine hK8 _ ?_
    refine vc_seq fun K9 hK9 => ?_
    refine vc_reg ?_
    try simp (disch := omega) only [go_sem, ↓reduceIte, Nat.reduceEqDiff, reduceCtorEq, Nat.reduceAdd, Nat.reduceLeDiff, Nat.reduceMul, Int.reduceNeg, Int.reduceLT, Int.reduceAdd, Int.reduceSub, e1, e4, e8, e9, e10, hcl]
    refine hK9 _ ?_
    refine vc_cond (t := _) (by first | rfl | (simp (disch := omega) only [go_sem, ↓reduceIte, Nat.reduceEqDiff, reduceCtorEq, Nat.reduceAdd, Nat.reduceLeDiff, Nat.reduceMul, Int.reduceNeg, Int.reduceLT, Int.reduceAdd, Int.reduceSub, e1, e4, e8, e9, e10, hcl]; rfl)) (fun hc2 => ?_) (fun hc2 => ?_)
    · (try simp only [go_sem] at hc2)
      refine vc_seq fun K10 hK10 => ?_
      refine vc_reg ?_
      try simp (disch := omega) only [go_sem, ↓reduceIte, Nat.reduceEqDiff, reduceCtorEq, Nat.reduceAdd, Nat.reduceLeDiff, Nat.reduceMul, Int.reduceNeg, Int.reduceLT, Int.reduceAdd, Int.reduceSub, e1, e4, e8, e9, e10, hcl]
      refine x_callO (caps := []) [] [.agg (List.map V.t [.int .i64 kc_, .str nc_, .sl gc_ csc_])] _ (impl_copyExpr us[n].va _ hvc_ (by omega)) (by first | rfl | simp (disch := omega) only [go_sem, ↓reduceIte, Nat.reduceEqDiff, reduceCtorEq, Nat.reduceAdd, Nat.reduceLeDiff, Nat.reduceMul, Int.reduceNeg, Int.reduceLT, Int.reduceAdd, Int.reduceSub, e1, e4, e8, e9, e10, hcl]) ?_ ?_
      · exact Subs.of_eq (by first | rfl | simp (disch := omega) only [go_sem, ↓reduceIte, Nat.reduceEqDiff, reduceCtorEq, Nat.reduceAdd, Nat.reduceLeDiff, Nat.reduceMul, Int.reduceNeg, Int.reduceLT, Int.reduceAdd, Int.reduceSub, e1, e4, e8, e9, e10, hcl])
      rintro s d5 v5 S5 σ5 h5 ⟨rfl, hE5⟩ hT5 hk5 hS5 hl5 hh5
      obtain ⟨dd, vv, gg, ccs, hdd, rfl, hTd, hEd, hRd⟩ := E.own_cells hT5 hE5
      have hvl := hTd.leaf
      have k0 : σ5[0]? = some _ := hk5 0 (by simp)
      have hl0 : 0 < σ5.length := by have : 2 ≤ σ5.length := hl5; omega
      have hS0 : ∀ r ∈ S5, 1 ≤ r := fun r hr => by have : 2 ≤ r := hS5 r hr; omega
      try simp (disch := omega) only [go_sem, ↓reduceIte, Nat.reduceEqDiff, reduceCtorEq, Nat.reduceAdd, Nat.reduceLeDiff, Nat.reduceMul, Int.reduceNeg, Int.reduceLT, Int.reduceAdd, Int.reduceSub, e1, e4, e8, e9, e10, hcl, k0, setV, hvl, List.all_cons, List.all_nil, Bool.and_true, Bool.and_self]
      refine hK10 _ ?_
      refine vc_ret ?_
      have hfs : fb s1 us = some us[n].va := by rw [hf, fb_drop (l := us) (n := n) (by omega), if_pos hc2]
      refine retO (h0 := h0) (Q := (fun s ts => s = .aggT (.bool (fb s1 us).isSome) ∧ ((fb s1 us).getD Ez).rep ts)) (.aggT (.bool true)) (ds := d5) (S := S5) (ws := [.t (.int .i64 us[n].va.kind), .t (.str us[n].va.name), vv]) (vs := [.agg [.t (.int .i64 us[n].va.kind), .t (.str us[n].va.name), vv], .t (.bool true)]) ?_ rfl rfl (hT5.keep (fun r hr => List.getElem?_set_ne (by have := hS0 r hr; omega))) ⟨by rw [hfs]; rfl, by rw [hfs]; exact hE5⟩
      simp (disch := omega) only [go_sem, resQ, List.mapM_cons, List.mapM_nil, e1, e4, e8, e9, e10, k0, hl0, List.getElem?_set, List.length_set, Nat.reduceEqDiff, ↓reduceIte, reduceCtorEq, Nat.reduceAdd, Nat.reduceLeDiff, setV]
      rfl
    · (try simp only [go_sem] at hc2)
      refine vc_skip ?_
      refine hK7 _ ?_
      refine vc_reg ?_
      try simp (disch := omega) only [go_sem, ↓reduceIte, Nat.reduceEqDiff, reduceCtorEq, Nat.reduceAdd, Nat.reduceLeDiff, Nat.reduceMul, Int.reduceNeg, Int.reduceLT, Int.reduceAdd, Int.reduceSub, e1, e4, e8, e9, e10, hcl]
      refine hG4 _ _ [0] [] ?_ (by simp) (by simp) (by simp) ⟨n + 1, rfl, (by first | rfl | (simp (disch := omega) only [go_sem, ↓reduceIte, Nat.reduceEqDiff, reduceCtorEq, Nat.reduceAdd, Nat.reduceLeDiff, Nat.reduceMul, Int.reduceNeg, Int.reduceLT, Int.reduceAdd, Int.reduceSub, e1, e4, e8, e9, e10, hcl, gc_σ, locObs, Ob.loc, V.loc, V.locs, idx]; done) | (simp [gc_σ, locObs, Ob.loc, V.loc, Function.comp_def, List.take_of_length_le]; done)), (by first | rfl | (simp (disch := omega) only [go_sem, ↓reduceIte, Nat.reduceEqDiff, reduceCtorEq, Nat.reduceAdd, Nat.reduceLeDiff, Nat.reduceMul, Int.reduceNeg, Int.reduceLT, Int.reduceAdd, Int.reduceSub, e1, e4, e8, e9, e10, hcl, gc_env, V.loc, V.locs, idx]; done) | (simp (disch := omega) only [go_sem, ↓reduceIte, Nat.reduceEqDiff, reduceCtorEq, Nat.reduceAdd, Nat.reduceLeDiff, Nat.reduceMul, Int.reduceNeg, Int.reduceLT, Int.reduceAdd, Int.reduceSub, e1, e4, e8, e9, e10, hcl, gc_env, V.loc, V.locs, idx]; simp; done)), (by first | rfl | (simp (disch := omega) only [go_sem, ↓reduceIte, Nat.reduceEqDiff, reduceCtorEq, Nat.reduceAdd, Nat.reduceLeDiff, Nat.reduceMul, Int.reduceNeg, Int.reduceLT, Int.reduceAdd, Int.reduceSub, e1, e4, e8, e9, e10, hcl, gc_env, V.loc, V.locs, idx]; done) | (simp (disch := omega) only [go_sem, ↓reduceIte, Nat.reduceEqDiff, reduceCtorEq, Nat.reduceAdd, Nat.reduceLeDiff, Nat.reduceMul, Int.reduceNeg, Int.reduceLT, Int.reduceAdd, Int.reduceSub, e1, e4, e8, e9, e10, hcl, gc_env, V.loc, V.locs, idx]; simp; done)), (by first | rfl | (simp (disch := omega) only [go_sem, ↓reduceIte, Nat.reduceEqDiff, reduceCtorEq, Nat.reduceAdd, Nat.reduceLeDiff, Nat.reduceMul, Int.reduceNeg, Int.reduceLT, Int.reduceAdd, Int.reduceSub, e1, e4, e8, e9, e10, hcl, gc_env, V.loc, V.locs, idx]; done) | (simp (disch := omega) only [go_sem, ↓reduceIte, Nat.reduceEqDiff, reduceCtorEq, Nat.reduceAdd, Nat.reduceLeDiff, Nat.reduceMul, Int.reduceNeg, Int.reduceLT, Int.reduceAdd, Int.reduceSub, e1, e4, e8, e9, e10, hcl, gc_env, V.loc, V.locs, idx]; simp; done)), (by first | rfl | (simp (disch := omega) only [go_sem, ↓reduceIte, Nat.reduceEqDiff, reduceCtorEq, Nat.reduceAdd, Nat.reduceLeDiff, Nat.reduceMul, Int.reduceNeg, Int.reduceLT, Int.reduceAdd, Int.reduceSub, e1, e4, e8, e9, e10, hcl, gc_env, V.loc, V.locs, idx]; done) | (simp (disch := omega) only [go_sem, ↓reduceIte, Nat.reduceEqDiff, reduceCtorEq, Nat.reduceAdd, Nat.reduceLeDiff, Nat.reduceMul, Int.reduceNeg, Int.reduceLT, Int.reduceAdd, Int.reduceSub, e1, e4, e8, e9, e10, hcl, gc_env, V.loc, V.locs, idx]; simp; done)), (by first | rfl | (simp (disch := omega) only [go_sem, ↓reduceIte, Nat.reduceEqDiff, reduceCtorEq, Nat.reduceAdd, Nat.reduceLeDiff, Nat.reduceMul, Int.reduceNeg, Int.reduceLT, Int.reduceAdd, Int.reduceSub, e1, e4, e8, e9, e10, hcl, gc_env, V.loc, V.locs, idx]; done) | (simp (disch := omega) only [go_sem, ↓reduceIte, Nat.reduceEqDiff, reduceCtorEq, Nat.reduceAdd, Nat.reduceLeDiff, Nat.reduceMul, Int.reduceNeg, Int.reduceLT, Int.reduceAdd, Int.reduceSub, e1, e4, e8, e9, e10, hcl, gc_env, V.loc, V.locs, idx]; simp; done)), ?_, ?_⟩
      · omega
      · first | omega | assumption | rfl | simp_all
      · rw [hf, fb_drop (l := us) (n := n) (by omega), if_neg hc2]
  · (try simp only [go_sem] at hc1)
    refine vc_exit ?_
    refine hK2 _ ?_
    refine vc_seq fun K11 hK11 => ?_
    refine vc_reg ?_
    try simp (disch := omega) only [go_sem, ↓reduceIte, Nat.reduceEqDiff, reduceCtorEq, Nat.reduceAdd, Nat.reduceLeDiff, Nat.reduceMul, Int.reduceNeg, Int.reduceLT, Int.reduceAdd, Int.reduceSub, e1, e4, e8, e9, e10, hcl, buildQ, fillQ, setV]
    refine hK11 _ ?_
    refine vc_ret ?_
    have hfs : fb s1 us = none := by rw [hf, List.drop_of_length_le (by omega), fb]
    refine retO (h0 := h0) (Q := (fun s ts => s = .aggT (.bool (fb s1 us).isSome) ∧ ((fb s1 us).getD Ez).rep ts)) (.aggT (.bool false)) (ds := [.t (.int .i64 0), .t (.str ⟨#[]⟩), .nil]) (S := []) (ws := [.t (.int .i64 0), .t (.str ⟨#[]⟩), .nil0]) (vs := [.agg [.t (.int .i64 0), .t (.str ⟨#[]⟩), .nil0], .t (.bool false)]) ?_ rfl rfl (TrL_leaf Tr_int (TrL_leaf Tr_str (TrL_one Tr_nil))) ⟨by rw [hfs]; rfl, by rw [hfs]; exact E.rep_of E.repL_nil⟩
    simp (disch := omega) only [go_sem, resQ, List.mapM_cons, List.mapM_nil, e1, e4, e8, e9, e10, upd, List.getElem?_set, List.length_set, Nat.reduceEqDiff, ↓reduceIte, reduceCtorEq, Nat.reduceAdd, Nat.reduceLeDiff, setV]
    rfl

/-- spec.ApplyBindings -/
theorem spec_ApplyBindings (gl : Nat) (l : List B) (cl : List (List T)) (hl : Rl B.rep l cl) (hwl_ : wl B.wt l ≤ 1048576) (e : E) (c : List T) (hc : e.rep c) (hw : e.wt ≤ 1048576) : OCtr Try.prog 91 [.agg (c.map .t), .t (.sl gl cl)] (fun s ts => s = .agg ∧ (ap l e).rep ts) := by
  have hc0 := hc
  induction e using E.ind generalizing c
  rename_i k nm us ih
  obtain ⟨g, cs, rfl, ha⟩ := E.rep_mk hc
  have hcl := E.repL_len ha
  have hw0 := hw
  rw [E.wt] at hw
  have hwl := E.wtL_len us
  unfold OCtr
  refine Ctr.of_vc (rs := [.cell 4 37]) (fn := Try.f91) mixed Try.func91 rfl rfl (by kernel_rfl) (by kernel_rfl) (by simp [Try.ntmps91]) (fun h0 => ?_)
  refine vc_seq fun K1 hK1 => ?_
  refine vc_reg ?_
  try simp (disch := omega) only [go_sem, ↓reduceIte, Nat.reduceEqDiff, reduceCtorEq, Nat.reduceAdd, Nat.reduceLeDiff, Nat.reduceMul, Int.reduceNeg, Int.reduceLT, Int.reduceAdd, Int.reduceSub, hcl]
  intro g0_0 hg0_0
  intro g0_1 hg0_1
  refine hK1 _ ?_
  refine vc_seq fun K2 hK2 => ?_
  refine vc_seq fun K3 hK3 => ?_
  refine vc_reg ?_
  try simp (disch := omega) only [go_sem, ↓reduceIte, Nat.reduceEqDiff, reduceCtorEq, Nat.reduceAdd, Nat.reduceLeDiff, Nat.reduceMul, Int.reduceNeg, Int.reduceLT, Int.reduceAdd, Int.reduceSub, hcl, List.getElem?_cons_zero]
  refine hK3 _ ?_
  refine vc_cond (t := _) (by first | rfl | (simp (disch := omega) only [go_sem, ↓reduceIte, Nat.reduceEqDiff, reduceCtorEq, Nat.reduceAdd, Nat.reduceLeDiff, Nat.reduceMul, Int.reduceNeg, Int.reduceLT, Int.reduceAdd, Int.reduceSub, hcl]; rfl)) (fun hc1 => ?_) (fun hc1 => ?_)
  · (try simp only [go_sem] at hc1)
    refine vc_seq fun K4 hK4 => ?_
    refine vc_reg ?_
    try simp (disch := omega) only [go_sem, ↓reduceIte, Nat.reduceEqDiff, reduceCtorEq, Nat.reduceAdd, Nat.reduceLeDiff, Nat.reduceMul, Int.reduceNeg, Int.reduceLT, Int.reduceAdd, Int.reduceSub, hcl]
    refine x_callO (caps := []) [] [.t (.sl gl cl), .t (.str nm)] _ (spec_FindBinding gl l cl hl hwl_ nm) (by first | rfl | simp (disch := omega) only [go_sem, ↓reduceIte, Nat.reduceEqDiff, reduceCtorEq, Nat.reduceAdd, Nat.reduceLeDiff, Nat.reduceMul, Int.reduceNeg, Int.reduceLT, Int.reduceAdd, Int.reduceSub, hcl]) ?_ ?_
    · exact Subs.of_eq (by first | rfl | simp (disch := omega) only [go_sem, ↓reduceIte, Nat.reduceEqDiff, reduceCtorEq, Nat.reduceAdd, Nat.reduceLeDiff, Nat.reduceMul, Int.reduceNeg, Int.reduceLT, Int.reduceAdd, Int.reduceSub, hcl])
    rintro s d2 vs2 S2 σ2 h2 ⟨rfl, hE2⟩ hT2 hk2 hS2 hl2 hh2
    obtain ⟨dd2, v2, gg2, ccs2, hdd2, rfl, hTd2, hEd2, hRd2⟩ := E.own_cells hT2 hE2
    have hvl2 := hTd2.leaf
    have k0 : σ2[0]? = some _ := hk2 0 (by simp)
    have k1 : σ2[1]? = some _ := hk2 1 (by simp)
    have hl2' : 2 ≤ σ2.length := hl2
    have hS2' : ∀ r ∈ S2, 2 ≤ r := hS2
    try simp (disch := omega) only [go_sem, ↓reduceIte, Nat.reduceEqDiff, reduceCtorEq, Nat.reduceAdd, Nat.reduceLeDiff, Nat.reduceMul, Int.reduceNeg, Int.reduceLT, Int.reduceAdd, Int.reduceSub, hcl, get_new, set_new, setV, hvl2, solid_agg, List.all_cons, List.all_nil, Bool.and_true, Bool.and_self]
    intro g2_7 hg2_7
    refine hK4 _ ?_
    refine vc_seq fun K5 hK5 => ?_
    refine vc_seq fun K6 hK6 => ?_
    refine vc_reg ?_
    try simp (disch := omega) only [go_sem, ↓reduceIte, Nat.reduceEqDiff, reduceCtorEq, Nat.reduceAdd, Nat.reduceLeDiff, Nat.reduceMul, Int.reduceNeg, Int.reduceLT, Int.reduceAdd, Int.reduceSub, hcl]
    refine hK6 _ ?_
    refine vc_cond (t := _) (by first | rfl | (simp (disch := omega) only [go_sem, ↓reduceIte, Nat.reduceEqDiff, reduceCtorEq, Nat.reduceAdd, Nat.reduceLeDiff, Nat.reduceMul, Int.reduceNeg, Int.reduceLT, Int.reduceAdd, Int.reduceSub, hcl]; rfl)) (fun hc2 => ?_) (fun hc2 => ?_)
    · (try simp only [go_sem] at hc2)
      refine vc_seq fun K7 hK7 => ?_
      have k1' := (get_old (o := .row g2_7 0 3 3 [[.t (.int .i64 ((fb nm l).getD Ez).kind), .t (.str ((fb nm l).getD Ez).name), v2]]) (List.getElem?_eq_some_iff.1 k1).1).trans k1
      have hl1' : 1 < (σ2 ++ [Ob.row g2_7 0 3 3 [[.t (.int .i64 ((fb nm l).getD Ez).kind), .t (.str ((fb nm l).getD Ez).name), v2]]]).length := by simp; omega
      refine vc_reg ?_
      try simp (disch := omega) only [go_sem, ↓reduceIte, Nat.reduceEqDiff, reduceCtorEq, Nat.reduceAdd, Nat.reduceLeDiff, Nat.reduceMul, Int.reduceNeg, Int.reduceLT, Int.reduceAdd, Int.reduceSub, hcl, get_new, k1', hvl2, setV, List.all_cons, List.all_nil, Bool.and_true, Bool.and_self]
      refine hK7 _ ?_
      refine vc_ret ?_
      obtain ⟨ev, hev⟩ := Option.isSome_iff_exists.1 hc2
      refine retO (h0 := h0) (Q := (fun s ts => s = .agg ∧ (ap l (.mk k nm us)).rep ts)) .agg (ds := d2) (S := S2) (ws := [.t (.int .i64 ((fb nm l).getD Ez).kind), .t (.str ((fb nm l).getD Ez).name), v2]) (vs := [.agg [.t (.int .i64 ((fb nm l).getD Ez).kind), .t (.str ((fb nm l).getD Ez).name), v2]]) ?_ rfl trivial ((hT2.more _).keep (fun r hr => List.getElem?_set_ne (by have := hS2' r hr; omega))) ⟨rfl, by rw [ap, if_pos hc1]; rw [hev] at hE2 ⊢; exact hE2⟩
      simp (disch := omega) only [go_sem, resQ, List.mapM_cons, List.mapM_nil, upd, k1', hl1', List.getElem?_set, List.length_set, Nat.reduceEqDiff, ↓reduceIte, reduceCtorEq, Nat.reduceAdd, Nat.reduceLeDiff, setV]
      rfl
    · (try simp only [go_sem] at hc2)
      refine vc_skip ?_
      refine hK5 _ ?_
      refine vc_seq fun K8 hK8 => ?_
      have k0' := (get_old (o := .row g2_7 0 3 3 [[.t (.int .i64 ((fb nm l).getD Ez).kind), .t (.str ((fb nm l).getD Ez).name), v2]]) (List.getElem?_eq_some_iff.1 k0).1).trans k0
      have k1' := (get_old (o := .row g2_7 0 3 3 [[.t (.int .i64 ((fb nm l).getD Ez).kind), .t (.str ((fb nm l).getD Ez).name), v2]]) (List.getElem?_eq_some_iff.1 k1).1).trans k1
      refine vc_reg ?_
      try simp (disch := omega) only [go_sem, ↓reduceIte, Nat.reduceEqDiff, reduceCtorEq, Nat.reduceAdd, Nat.reduceLeDiff, Nat.reduceMul, Int.reduceNeg, Int.reduceLT, Int.reduceAdd, Int.reduceSub, hcl, k0']
      refine x_callO (caps := []) [] [.agg (List.map V.t [.int .i64 k, .str nm, .sl g cs])] _ (spec_l3Copy (.mk k nm us) _ hc0 hw0) (by first | rfl | simp (disch := omega) only [go_sem, ↓reduceIte, Nat.reduceEqDiff, reduceCtorEq, Nat.reduceAdd, Nat.reduceLeDiff, Nat.reduceMul, Int.reduceNeg, Int.reduceLT, Int.reduceAdd, Int.reduceSub, hcl, k0']) ?_ ?_
      · exact Subs.of_eq (by first | rfl | simp (disch := omega) only [go_sem, ↓reduceIte, Nat.reduceEqDiff, reduceCtorEq, Nat.reduceAdd, Nat.reduceLeDiff, Nat.reduceMul, Int.reduceNeg, Int.reduceLT, Int.reduceAdd, Int.reduceSub, hcl, k0'])
      rintro s d5 vs5 S5 σ5 h5 ⟨rfl, hE5⟩ hT5 hk5 hS5 hl5 hh5
      obtain ⟨dd5, v5, gg5, ccs5, hdd5, rfl, hTd5, hEd5, hRd5⟩ := E.own_cells hT5 hE5
      have hvl5 := hTd5.leaf
      have k1'' := (hk5 1 (by simp; omega)).trans k1'
      have hl1'' := (List.getElem?_eq_some_iff.1 k1'').1
      have hS5' : ∀ r ∈ S5, 2 ≤ r := fun r hr => by have := hS5 r hr; simp at this; omega
      try simp (disch := omega) only [go_sem, ↓reduceIte, Nat.reduceEqDiff, reduceCtorEq, Nat.reduceAdd, Nat.reduceLeDiff, Nat.reduceMul, Int.reduceNeg, Int.reduceLT, Int.reduceAdd, Int.reduceSub, hcl, k1'', hvl5, setV, List.all_cons, List.all_nil, Bool.and_true, Bool.and_self, E.kind, E.name]
      refine hK8 _ ?_
      refine vc_ret ?_
      have hev : fb nm l = none := by simpa using hc2
      refine retO (h0 := h0) (Q := (fun s ts => s = .agg ∧ (ap l (.mk k nm us)).rep ts)) .agg (ds := d5) (S := S5) (ws := [.t (.int .i64 (E.mk k nm us).kind), .t (.str (E.mk k nm us).name), v5]) (vs := [.agg [.t (.int .i64 (E.mk k nm us).kind), .t (.str (E.mk k nm us).name), v5]]) ?_ rfl trivial (hT5.keep (fun r hr => List.getElem?_set_ne (by have := hS5' r hr; omega))) ⟨rfl, by rw [ap, if_pos hc1, hev]; exact hE5⟩
      simp (disch := omega) only [go_sem, resQ, List.mapM_cons, List.mapM_nil, upd, k1'', hl1'', E.kind, E.name, List.getElem?_set, List.length_set, Nat.reduceEqDiff, ↓reduceIte, reduceCtorEq, Nat.reduceAdd, Nat.reduceLeDiff, setV]
      rfl
  · (try simp only [go_sem] at hc1)
    refine vc_skip ?_
    refine hK2 _ ?_
    refine vc_seq fun K9 hK9 => ?_
    refine vc_reg ?_
    try simp (disch := omega) only [go_sem, ↓reduceIte, Nat.reduceEqDiff, reduceCtorEq, Nat.reduceAdd, Nat.reduceLeDiff, Nat.reduceMul, Int.reduceNeg, Int.reduceLT, Int.reduceAdd, Int.reduceSub, hcl, buildQ, fillQ, setV, and_self, Nat.reduceAdd]
    intro g6_5 hg6_5
    refine hK9 _ ?_
    refine vc_seq fun K10 hK10 => ?_
    refine vc_seq fun K11 hK11 => ?_
    refine vc_reg ?_
    try simp (disch := omega) only [go_sem, ↓reduceIte, Nat.reduceEqDiff, reduceCtorEq, Nat.reduceAdd, Nat.reduceLeDiff, Nat.reduceMul, Int.reduceNeg, Int.reduceLT, Int.reduceAdd, Int.reduceSub, hcl]
    refine hK11 _ ?_
    refine vc_block ?_
    refine vc_loop (fun m s => ∃ (n : Nat) (ds : List (List D)) (S : List Nat) (v : V) (σ1 : List Ob), (m = us.length - n) ∧ (s.σ = σ1) ∧ (s.env 2 = .ptr 0 0 0 0) ∧ (s.env 4 = .ptr 1 0 0 0) ∧ (s.env 7 = .ptr 2 0 0 0) ∧ (s.env 1 = .t (.sl gl cl)) ∧ (s.env 8 = .t (.int .i64 n)) ∧ (n ≤ us.length) ∧ (σ1[0]? = some (.row g0_0 0 3 3 [[V.t (.int .i64 k), V.t (.str nm), V.t (.sl g cs)]])) ∧ (σ1[1]? = some (.row g0_1 0 3 3 [[V.t (.int .i64 0), V.t (.str ⟨#[]⟩), V.nil0]])) ∧ (σ1[2]? = some (.row g6_5 0 3 3 [[V.t (.int .i64 k), V.t (.str nm), v]])) ∧ (Tb σ1 3 ds S v) ∧ (∀ r ∈ S, 3 ≤ r) ∧ (E.repL (apL l (us.take n)) (D.erLL ds))) (us.length - 0) ⟨0, [], [], .nil0, _, rfl, (by first | rfl | simp), (by first | rfl | assumption | (simp (disch := omega) only [go_sem, ↓reduceIte, Nat.reduceEqDiff, reduceCtorEq, Nat.reduceAdd, Nat.reduceLeDiff, Nat.reduceMul, Int.reduceNeg, Int.reduceLT, Int.reduceAdd, Int.reduceSub, hcl])), (by first | rfl | assumption | (simp (disch := omega) only [go_sem, ↓reduceIte, Nat.reduceEqDiff, reduceCtorEq, Nat.reduceAdd, Nat.reduceLeDiff, Nat.reduceMul, Int.reduceNeg, Int.reduceLT, Int.reduceAdd, Int.reduceSub, hcl])), (by first | rfl | assumption | (simp (disch := omega) only [go_sem, ↓reduceIte, Nat.reduceEqDiff, reduceCtorEq, Nat.reduceAdd, Nat.reduceLeDiff, Nat.reduceMul, Int.reduceNeg, Int.reduceLT, Int.reduceAdd, Int.reduceSub, hcl])), (by first | rfl | assumption | (simp (disch := omega) only [go_sem, ↓reduceIte, Nat.reduceEqDiff, reduceCtorEq, Nat.reduceAdd, Nat.reduceLeDiff, Nat.reduceMul, Int.reduceNeg, Int.reduceLT, Int.reduceAdd, Int.reduceSub, hcl])), (by first | rfl | assumption | (simp (disch := omega) only [go_sem, ↓reduceIte, Nat.reduceEqDiff, reduceCtorEq, Nat.reduceAdd, Nat.reduceLeDiff, Nat.reduceMul, Int.reduceNeg, Int.reduceLT, Int.reduceAdd, Int.reduceSub, hcl])), (by first | rfl | omega | simp), (by rfl), (by rfl), (by rfl), (by exact Tb_nil), (by exact fun r hr => by cases hr), (by exact E.repL_nil)⟩ ?_
    rintro m ⟨e, σ, h⟩ ⟨n, ds, S, v, σ1, hm, hσ, e2, e4, e7, e1, e8, hn, h0_, h1_, h2_, hT, hS, hrep⟩ K12 hK12
    simp only at hσ e2 e4 e7 e1 e8
    subst hσ
    refine vc_seq fun K13 hK13 => ?_
    refine vc_seq fun K14 hK14 => ?_
    refine vc_reg ?_
    try simp (disch := omega) only [go_sem, ↓reduceIte, Nat.reduceEqDiff, reduceCtorEq, Nat.reduceAdd, Nat.reduceLeDiff, Nat.reduceMul, Int.reduceNeg, Int.reduceLT, Int.reduceAdd, Int.reduceSub, e2, e4, e7, e1, e8, hcl, h0_]
    refine hK14 _ ?_
    refine vc_cond (t := _) (by first | rfl | (simp (disch := omega) only [go_sem, ↓reduceIte, Nat.reduceEqDiff, reduceCtorEq, Nat.reduceAdd, Nat.reduceLeDiff, Nat.reduceMul, Int.reduceNeg, Int.reduceLT, Int.reduceAdd, Int.reduceSub, e2, e4, e7, e1, e8, hcl]; rfl)) (fun hc3 => ?_) (fun hc3 => ?_)
    · (try simp only [go_sem] at hc3)
      refine vc_skip ?_
      refine hK13 _ ?_
      refine vc_seq fun K15 hK15 => ?_
      refine vc_block ?_
      obtain ⟨c, hc, hrc⟩ := E.repL_get ha (n := n) (by omega)
      obtain ⟨gc, cc, rfl, hcc⟩ := E.rep_cells hrc
      have hal : ds.length = n := by have h2 := E.repL_len hrep; rw [D.erLL_len, apL_len] at h2; simp at h2; omega
      have hlt2 := (List.getElem?_eq_some_iff.1 h2_).1
      have hTm := hT
      have hmr : ∀ r, r < 3 → σ[r]? = σ[r]? := fun _ _ => rfl
      have hlm : 3 ≤ σ.length := hlt2
      refine vc_regD [(0, false), (1, false), (2, false), (3, false), (4, false), (5, false), (6, false), (7, false), (8, false), (9, false), (10, true), (11, false), (12, true)] (by kernel_rfl) ?_
      try simp (disch := omega) only [go_sem, ↓reduceIte, Nat.reduceEqDiff, reduceCtorEq, Nat.reduceAdd, Nat.reduceLeDiff, Nat.reduceMul, Int.reduceNeg, Int.reduceLT, Int.reduceAdd, Int.reduceSub, e2, e4, e7, e1, e8, hcl, hc, h0_, h2_]
      refine x_callO (caps := []) [] [.agg (List.map V.t [.int .i64 us[n].kind, .str us[n].name, .sl gc cc]), .t (.sl gl cl)] _ (ih _ (List.getElem_mem (show n < us.length by omega)) _ hrc (by have := E.wtL_mem (List.getElem_mem (show n < us.length by omega)); omega) hrc) (by first | rfl | simp (disch := omega) only [go_sem, ↓reduceIte, Nat.reduceEqDiff, reduceCtorEq, Nat.reduceAdd, Nat.reduceLeDiff, Nat.reduceMul, Int.reduceNeg, Int.reduceLT, Int.reduceAdd, Int.reduceSub, e2, e4, e7, e1, e8, hcl, hc, h0_, h2_]) ?_ ?_
      · exact Subs.of_eq (by first | rfl | simp (disch := omega) only [go_sem, ↓reduceIte, Nat.reduceEqDiff, reduceCtorEq, Nat.reduceAdd, Nat.reduceLeDiff, Nat.reduceMul, Int.reduceNeg, Int.reduceLT, Int.reduceAdd, Int.reduceSub, e2, e4, e7, e1, e8, hcl, hc, h0_, h2_])
      rintro s d5 v5 S5 σ5 h5 ⟨rfl, hE5⟩ hT5 hk5 hS5 hl5 hh5
      obtain ⟨dd, vv, gg, ccs, hdd, rfl, hTd, hEd, hRd⟩ := E.own_cells hT5 hE5
      have hvl := hTd.leaf
      have hTo := hTm.keep (fun r hr => hk5 r (hTm.lt r hr))
      have hdj : Dj S S5 := fun r hr hx => by have h1 := hTm.lt r hr; have h2 := hS5 r hx; omega
      try simp (disch := omega) only [go_sem, ↓reduceIte, Nat.reduceEqDiff, reduceCtorEq, Nat.reduceAdd, Nat.reduceLeDiff, Nat.reduceMul, Int.reduceNeg, Int.reduceLT, Int.reduceAdd, Int.reduceSub, e2, e4, e7, e1, e8, hcl, get_new, isVal_agg]
      refine ⟨by simp [bsOk], fun g10_9 hg10_9 => ?_⟩
      try simp (disch := omega) only [go_sem, ↓reduceIte, Nat.reduceEqDiff, reduceCtorEq, Nat.reduceAdd, Nat.reduceLeDiff, Nat.reduceMul, Int.reduceNeg, Int.reduceLT, Int.reduceAdd, Int.reduceSub, e2, e4, e7, e1, e8, hcl, hc, h0_, h2_]
      refine x_appT [V.t (.int .i64 (ap l us[n]).kind), V.t (.str (ap l us[n]).name), vv] (show tElem Try.prog 35 = some 37 by kernel_rfl) (show tSize Try.prog 37 = some 3 by kernel_rfl) (show tZero Try.prog 37 = some [.t (.int .i64 0), .t (.str ⟨#[]⟩), .nil0] by kernel_rfl) (show tBytes Try.prog 37 = some 48 by kernel_rfl) (by first | rfl | (simp (disch := omega) only [go_sem, ↓reduceIte, Nat.reduceEqDiff, reduceCtorEq, Nat.reduceAdd, Nat.reduceLeDiff, Nat.reduceMul, Int.reduceNeg, Int.reduceLT, Int.reduceAdd, Int.reduceSub, e2, e4, e7, e1, e8, hcl, hc, h0_, h2_])) (hTo.more _) (by first | rfl | (simp (disch := omega) only [go_sem, ↓reduceIte, Nat.reduceEqDiff, reduceCtorEq, Nat.reduceAdd, Nat.reduceLeDiff, Nat.reduceMul, Int.reduceNeg, Int.reduceLT, Int.reduceAdd, Int.reduceSub, e2, e4, e7, e1, e8, hcl, hc, h0_, h2_, appElems, St.elems])) (by simp) (hT5.more _) (by rw [hdd]; rfl) hdj (by omega) ?_
      rintro v10_10 S10_10 σ10_10 h10_10 hT10_10 hk10_10 hS10_10 hl10_10 hle10_10 hh10_10
      have hrest : ∀ r, r < 3 → σ10_10[r]? = σ[r]? := fun r hr => (hk10_10 r (by simp; omega) (fun hx => by have := hS r hx; omega)).trans ((get_old (by omega)).trans ((hk5 r (by have := hlm; omega)).trans (hmr r hr)))
      have h0n := (hrest 0 (by omega)).trans h0_
      have h1n := (hrest 1 (by omega)).trans h1_
      have h2n := (hrest 2 (by omega)).trans h2_
      have hvl9 := hT10_10.leaf
      have hsl_ := solid_of hvl9
      have hcl_ := cells_of hvl9
      have hS9 : ∀ r ∈ S10_10, 3 ≤ r := fun r hr => by
        rcases hS10_10 r hr with h | h | h
        · exact hS r h
        · have := hS5 r h; omega
        · simp at h; omega
      try simp (disch := omega) only [go_sem, ↓reduceIte, Nat.reduceEqDiff, reduceCtorEq, Nat.reduceAdd, Nat.reduceLeDiff, Nat.reduceMul, Int.reduceNeg, Int.reduceLT, Int.reduceAdd, Int.reduceSub, e2, e4, e7, e1, e8, hcl, h2n, hsl_, hcl_, setV, List.set_cons_zero]
      refine hK15 _ ?_
      refine vc_reg ?_
      try simp (disch := omega) only [go_sem, ↓reduceIte, Nat.reduceEqDiff, reduceCtorEq, Nat.reduceAdd, Nat.reduceLeDiff, Nat.reduceMul, Int.reduceNeg, Int.reduceLT, Int.reduceAdd, Int.reduceSub, e2, e4, e7, e1, e8, hcl]
      refine hK12 _ _ ?_ ⟨n + 1, ds ++ [d5], S10_10, v10_10, _, rfl, (by first | rfl | simp), (by first | rfl | assumption | (simp (disch := omega) only [go_sem, ↓reduceIte, Nat.reduceEqDiff, reduceCtorEq, Nat.reduceAdd, Nat.reduceLeDiff, Nat.reduceMul, Int.reduceNeg, Int.reduceLT, Int.reduceAdd, Int.reduceSub, e2, e4, e7, e1, e8, hcl])), (by first | rfl | assumption | (simp (disch := omega) only [go_sem, ↓reduceIte, Nat.reduceEqDiff, reduceCtorEq, Nat.reduceAdd, Nat.reduceLeDiff, Nat.reduceMul, Int.reduceNeg, Int.reduceLT, Int.reduceAdd, Int.reduceSub, e2, e4, e7, e1, e8, hcl])), (by first | rfl | assumption | (simp (disch := omega) only [go_sem, ↓reduceIte, Nat.reduceEqDiff, reduceCtorEq, Nat.reduceAdd, Nat.reduceLeDiff, Nat.reduceMul, Int.reduceNeg, Int.reduceLT, Int.reduceAdd, Int.reduceSub, e2, e4, e7, e1, e8, hcl])), (by first | rfl | assumption | (simp (disch := omega) only [go_sem, ↓reduceIte, Nat.reduceEqDiff, reduceCtorEq, Nat.reduceAdd, Nat.reduceLeDiff, Nat.reduceMul, Int.reduceNeg, Int.reduceLT, Int.reduceAdd, Int.reduceSub, e2, e4, e7, e1, e8, hcl])), (by first | rfl | assumption | (simp (disch := omega) only [go_sem, ↓reduceIte, Nat.reduceEqDiff, reduceCtorEq, Nat.reduceAdd, Nat.reduceLeDiff, Nat.reduceMul, Int.reduceNeg, Int.reduceLT, Int.reduceAdd, Int.reduceSub, e2, e4, e7, e1, e8, hcl])), ?_, ?_, ?_, ?_, ?_, ?_, ?_⟩
      · omega
      · first | omega | assumption | rfl | simp_all
      · exact (List.getElem?_set_ne (by omega)).trans h0n
      · exact (List.getElem?_set_ne (by omega)).trans h1n
      · exact List.getElem?_set_self (List.getElem?_eq_some_iff.1 h2n).1
      · exact hT10_10.keep (fun r hr => List.getElem?_set_ne (by have := hS9 r hr; omega))
      · exact hS9
      · rw [apL_take (by omega), D.erLL_app]; exact E.repL_append hrep (E.repL_one hE5)
    · (try simp only [go_sem] at hc3)
      refine vc_exit ?_
      refine hK10 _ ?_
      refine vc_seq fun K16 hK16 => ?_
      have hvl := hT.leaf
      have hl1 := (List.getElem?_eq_some_iff.1 h1_).1
      refine vc_reg ?_
      try simp (disch := omega) only [go_sem, ↓reduceIte, Nat.reduceEqDiff, reduceCtorEq, Nat.reduceAdd, Nat.reduceLeDiff, Nat.reduceMul, Int.reduceNeg, Int.reduceLT, Int.reduceAdd, Int.reduceSub, e2, e4, e7, e1, e8, hcl, h1_, h2_, hvl, setV, List.all_cons, List.all_nil, Bool.and_true, Bool.and_self]
      refine hK16 _ ?_
      refine vc_ret ?_
      rw [List.take_of_length_le (by omega)] at hrep
      obtain ⟨d, g', hd, hg⟩ := hT.tr
      refine retO (h0 := h0) (Q := (fun s ts => s = .agg ∧ (ap l (.mk k nm us)).rep ts)) .agg (ds := [.t (.int .i64 k), .t (.str nm), d]) (S := S) (ws := [.t (.int .i64 k), .t (.str nm), v]) (vs := [.agg [.t (.int .i64 k), .t (.str nm), v]]) ?_ rfl trivial (TrL_leaf Tr_int (TrL_leaf Tr_str (TrL_one (hd.keep (fun r hr => by have := hS r hr; rw [List.getElem?_set_ne (by omega)]))))) ⟨rfl, by rw [ap, if_neg hc1]; exact E.rep_own hg hrep⟩
      simp (disch := omega) only [go_sem, resQ, List.mapM_cons, List.mapM_nil, e2, e4, e7, e1, e8, h1_, hl1, List.getElem?_set, List.length_set, Nat.reduceEqDiff, ↓reduceIte, reduceCtorEq, Nat.reduceAdd, Nat.reduceLeDiff, setV]
      rfl
end Go.Proofs.Ytlooiifgbiedeaa
