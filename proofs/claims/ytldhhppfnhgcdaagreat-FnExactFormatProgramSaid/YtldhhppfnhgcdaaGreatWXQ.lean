/- Walks through the code: each function's contract. -/
import Derived.Test.YtldhhppfnhgcdaaGreatWUQ
set_option linter.unusedVariables false
set_option linter.unusedSimpArgs false
set_option maxRecDepth 8000
namespace Go.Proofs.YtldhhppfnhgcdaaGreat
open Go Go.VL

mutual
/-- The variables of a term behind those that are there, each once. -/
def evs : E → List ByteArray → List ByteArray
  | .mk k n us, acc => evsL us (if k = 1 then un acc [n] else acc)
def evsL : List E → List ByteArray → List ByteArray
  | [], acc => acc
  | e :: l, acc => evsL l (evs e acc)
end
theorem evsL_drop {l : List E} {n : Nat} {acc : List ByteArray} (h : n < l.length) : evsL (l.drop n) acc = evsL (l.drop (n + 1)) (evs l[n] acc) := by rw [drop_get h, evsL]
theorem un_one {acc : List ByteArray} {n : ByteArray} : un acc [n] = if 0 ≤ ix n 0 acc then acc else acc ++ [n] := by rw [un]; split <;> rfl
theorem un_one_len (acc : List ByteArray) (n : ByteArray) : (un acc [n]).length ≤ acc.length + 1 := by rw [un_one]; split <;> simp
theorem evs_len : ∀ (e : E) (acc : List ByteArray), (evs e acc).length ≤ acc.length + e.sz := by
  intro e
  induction e using E.ind with
  | h k n us ih =>
    intro acc
    rw [evs, E.sz]
    have : ∀ (l : List E), (∀ a ∈ l, ∀ acc, (evs a acc).length ≤ acc.length + a.sz) → ∀ acc, (evsL l acc).length ≤ acc.length + E.szL l := by
      intro l
      induction l with
      | nil => exact fun _ acc => by rw [evsL]; omega
      | cons a l ihl =>
        intro h acc
        rw [evsL, E.szL]
        have h1 := h a List.mem_cons_self acc
        have h2 := ihl (fun b hb => h b (List.mem_cons_of_mem _ hb)) (evs a acc)
        omega
    have h1 := this us ih (if k = 1 then un acc [n] else acc)
    have h2 : (if k = 1 then un acc [n] else acc).length ≤ acc.length + 1 := by
      split
      · exact un_one_len acc n
      · omega
    omega
/-- The step at a node. -/
def vstep (kind : Int) (x : E) (acc : List ByteArray) : List ByteArray := if x.kind = kind then un acc [x.name] else acc
theorem foG_evs : ∀ (e : E) (acc : List ByteArray), E.foG (vstep 1) e acc = evs e acc := by
  intro e
  induction e using E.ind with
  | h k n us ih =>
    intro acc
    rw [E.foG, evs]
    have : ∀ (l : List E), (∀ a ∈ l, ∀ acc, E.foG (vstep 1) a acc = evs a acc) → ∀ acc, E.foGL (vstep 1) l acc = evsL l acc := by
      intro l
      induction l with
      | nil => exact fun _ acc => rfl
      | cons a l ihl => exact fun h acc => by rw [E.foGL, evsL, h a List.mem_cons_self, ihl (fun b hb => h b (List.mem_cons_of_mem _ hb))]
    rw [this us ih]
    rfl

/-- spec.l3Vars -/
theorem spec_l3Vars (e : E) (c : List T) (hc : e.rep c) (hw : e.wt ≤ 1048576) (acc : List ByteArray) (d : D) (gd : Nat) (hd : d.er = .sl gd (Ts acc)) (hg : d.grows 1) (hal : acc.length + e.sz ≤ 4194304) : WCtr Tryz.prog 77 (fun vs1 _ => [.agg (c.map .t), vs1.headD .undef]) [d] [] (fun sh es1 es2 => sh = .one ∧ es2 = [] ∧ ∃ d g, es1 = [d] ∧ d.er = .sl g (Ts (evs e acc)) ∧ d.grows 1) := by
  induction e using E.ind generalizing c acc d gd
  rename_i k nm us ih
  obtain ⟨g, cs, rfl, ha⟩ := E.rep_mk hc
  have hcl := E.repL_len ha
  rw [E.wt] at hw
  have hwl := E.wtL_len us
  rw [E.sz] at hal
  refine WCtr.intro1 (fun σ0 v0 hTr0 => ?_)
  obtain ⟨ds0, hTb0, hds0⟩ := hTr0.tb hd hg
  obtain rfl := hTb0.Ts hds0
  show Ctr _ _ [.agg [.t (.int .i64 k), .t (.str nm), .t (.sl g cs)], v0] σ0 _
  refine Ctr.of_vc (rs := [.tmp 4]) (fn := Tryz.f77) mixed Tryz.func77 rfl rfl (by kernel_rfl) (by kernel_rfl) (by simp [Tryz.ntmps77]) (fun h0 => ?_)
  refine vc_seq fun K1 hK1 => ?_
  refine vc_reg ?_
  try simp (disch := omega) only [go_sem, ↓reduceIte, Nat.reduceEqDiff, reduceCtorEq, Nat.reduceAdd, Nat.reduceLeDiff, Nat.reduceMul, Int.reduceNeg, Int.reduceLT, Int.reduceAdd, Int.reduceSub, hcl]
  intro g0_0 hg0_0
  refine hK1 _ ?_
  refine vc_seqK (fun s => ∃ (acc1 : List ByteArray) (S1 : List Nat) (v1 : V) (σ1 : List Ob), (s.σ = σ1) ∧ (s.env 2 = .ptr σ0.length 0 0 0) ∧ (s.env 1 = v1) ∧ (Tb σ1 1 (Ds acc1) S1 v1) ∧ (σ1[σ0.length]? = some (.row g0_0 0 3 3 [[V.t (.int .i64 k), V.t (.str nm), V.t (.sl g cs)]])) ∧ (∀ r ∈ S1, r ≠ σ0.length) ∧ (∀ (r : Nat) (o : Ob), σ0[r]? = some o → ∃ o' : Ob, σ1[r]? = some o' ∧ o.le o') ∧ (σ0.length < σ1.length) ∧ (evsL us acc1 = evs (.mk k nm us) acc) ∧ (acc1.length + E.szL us ≤ 4194304)) (fun KJ2 hKJ2 => ?_) ?_
  · skip
    refine vc_seq fun K3 hK3 => ?_
    have hTbx := hTb0.more (.row g0_0 0 3 3 [[V.t (.int .i64 k), V.t (.str nm), V.t (.sl g cs)]])
    obtain ⟨gl, hlend⟩ := hTbx.lend
    rw [Ds_er] at hlend
    have hlx : ∀ r ∈ List.range σ0.length, r ≠ σ0.length := fun r hr he => by have := List.mem_range.1 hr; omega
    refine vc_reg ?_
    refine vcX_cut 4 fun K4 hK4 => ?_
    try simp (disch := omega) only [go_sem, ↓reduceIte, Nat.reduceEqDiff, reduceCtorEq, Nat.reduceAdd, Nat.reduceLeDiff, Nat.reduceMul, Int.reduceNeg, Int.reduceLT, Int.reduceAdd, Int.reduceSub, hcl, get_new]
    refine hK4 _ ?_
    refine vcX_bool (fun hb1_3 => ?_) (fun hb1_3 => ?_)
    · (try simp only [go_sem] at hb1_3)
      try simp (disch := omega) only [go_sem, ↓reduceIte, Nat.reduceEqDiff, reduceCtorEq, Nat.reduceAdd, Nat.reduceLeDiff, Nat.reduceMul, Int.reduceNeg, Int.reduceLT, Int.reduceAdd, Int.reduceSub, hcl, get_new]
      refine vcX_callS (caps := []) (List.range σ0.length) [.t (.sl gl (Ts acc)), .t (.str nm)] _ (spec_IndexOf gl acc nm (by omega)) (by first | rfl | simp (disch := omega) only [go_sem, ↓reduceIte, Nat.reduceEqDiff, reduceCtorEq, Nat.reduceAdd, Nat.reduceLeDiff, Nat.reduceMul, Int.reduceNeg, Int.reduceLT, Int.reduceAdd, Int.reduceSub, hcl, get_new]) ?_ ?_
      · show Subs [V.loc _ [] _ v0, V.t (.str nm)] _
        exact Subs.cons hlend (Subs.cons (.refl _) (Subs.nil))
      rintro r1_7 h1_7 hh1_7 rfl -
      refine ⟨fun q hq o ho hm => by simp [V.ids, T.ids] at hm, ?_⟩
      try simp (disch := omega) only [go_sem, ↓reduceIte, Nat.reduceEqDiff, reduceCtorEq, Nat.reduceAdd, Nat.reduceLeDiff, Nat.reduceMul, Int.reduceNeg, Int.reduceLT, Int.reduceAdd, Int.reduceSub, hcl, get_new]
      refine hK3 _ ?_
      refine vc_cond (t := _) rfl (fun hc1 => ?_) (fun hc1 => ?_)
      · (try simp only [go_sem] at hc1)
        refine vc_reg ?_
        try simp (disch := omega) only [go_sem, ↓reduceIte, Nat.reduceEqDiff, reduceCtorEq, Nat.reduceAdd, Nat.reduceLeDiff, Nat.reduceMul, Int.reduceNeg, Int.reduceLT, Int.reduceAdd, Int.reduceSub, hcl, get_new]
        refine .inl ⟨by simp [bsOk], fun g2_3 hg2_3 => ?_⟩
        try simp (disch := omega) only [go_sem, ↓reduceIte, Nat.reduceEqDiff, reduceCtorEq, Nat.reduceAdd, Nat.reduceLeDiff, Nat.reduceMul, Int.reduceNeg, Int.reduceLT, Int.reduceAdd, Int.reduceSub, hcl, get_new]
        refine x_appT [V.t (.str nm)] (show tElem Tryz.prog 36 = some 9 by kernel_rfl) (show tSize Tryz.prog 9 = some 1 by kernel_rfl) (show tZero Tryz.prog 9 = some [.t (.str ⟨#[]⟩)] by kernel_rfl) (show tBytes Tryz.prog 9 = some 16 by kernel_rfl) rfl (hTbx.more _) (by first | rfl | (simp (disch := omega) only [go_sem, ↓reduceIte, Nat.reduceEqDiff, reduceCtorEq, Nat.reduceAdd, Nat.reduceLeDiff, Nat.reduceMul, Int.reduceNeg, Int.reduceLT, Int.reduceAdd, Int.reduceSub, hcl, get_new, appElems, St.elems])) (by simp) (TrL_one Tr_str) rfl (Dj_nil _) (by rw [Ds_len]; omega) ?_
        rintro v2_4 S2_4 σ2_4 h2_4 hT2_4 hk2_4 hS2_4 hl2_4 hle2_4 hh2_4
        try simp (disch := omega) only [go_sem, ↓reduceIte, Nat.reduceEqDiff, reduceCtorEq, Nat.reduceAdd, Nat.reduceLeDiff, Nat.reduceMul, Int.reduceNeg, Int.reduceLT, Int.reduceAdd, Int.reduceSub, hcl, get_new]
        refine hKJ2 _ ⟨acc ++ [nm], S2_4, v2_4, _, (by first | rfl | simp), (by first | rfl | assumption), (by first | rfl | assumption), ?_, ?_, ?_, ?_, ?_, ?_, ?_⟩
        · rw [Ds_app]; exact hT2_4
        · exact (hk2_4 σ0.length (by simp) (by simp)).trans (by rw [get_old (by simp), get_new])
        · intro r hr he; subst he; rcases hS2_4 _ hr with h | h | h; exact absurd (List.mem_range.1 h) (by omega); cases h; simp only [List.length_append, List.length_cons, List.length_nil] at h; omega
        · exact le_comp (fun r o ho => ⟨o, by have h1 := (List.getElem?_eq_some_iff.1 ho).1; rw [get_old (by simp; omega), get_old h1]; exact ho, o.le_refl⟩) hle2_4
        · show σ0.length < σ2_4.length; have := hl2_4; simp only [List.length_append, List.length_cons, List.length_nil] at this; omega
        · rw [evs, if_pos hb1_3, un_one, if_neg (by omega)]
        · rw [List.length_append]; simp; omega
      · (try simp only [go_sem] at hc1)
        refine vc_skip ?_
        refine hKJ2 _ ⟨acc, List.range σ0.length, v0, _, (by first | rfl | simp), (by first | rfl | assumption), (by first | rfl | assumption), ?_, ?_, ?_, ?_, ?_, ?_, ?_⟩
        · exact hTbx
        · exact get_new _ _
        · exact hlx
        · exact fun r o ho => ⟨o, by rw [get_old (List.getElem?_eq_some_iff.1 ho).1]; exact ho, o.le_refl⟩
        · simp
        · rw [evs, if_pos hb1_3, un_one, if_pos (by omega)]
        · omega
    · (try simp only [go_sem] at hb1_3)
      try simp (disch := omega) only [go_sem, ↓reduceIte, Nat.reduceEqDiff, reduceCtorEq, Nat.reduceAdd, Nat.reduceLeDiff, Nat.reduceMul, Int.reduceNeg, Int.reduceLT, Int.reduceAdd, Int.reduceSub, hcl, get_new]
      refine hK3 _ ?_
      refine vc_cond (t := _) rfl (fun hc2 => ?_) (fun hc2 => ?_)
      · exact absurd hc2 (by simp)
      · (try simp only [go_sem] at hc2)
        refine vc_skip ?_
        refine hKJ2 _ ⟨acc, List.range σ0.length, v0, _, (by first | rfl | simp), (by first | rfl | assumption), (by first | rfl | assumption), ?_, ?_, ?_, ?_, ?_, ?_, ?_⟩
        · exact hTbx
        · exact get_new _ _
        · exact hlx
        · exact fun r o ho => ⟨o, by rw [get_old (List.getElem?_eq_some_iff.1 ho).1]; exact ho, o.le_refl⟩
        · simp
        · rw [evs, if_neg hb1_3]
        · omega
  · skip
    rintro ⟨e, σ, h⟩ ⟨acc1, S1, v1, σ1, hσ, e2, e1, hT1, hbox, hS1, hle, hlt0, hacc, hal1⟩
    simp only at hσ e2 e1
    subst hσ
    refine vc_seq fun K6 hK6 => ?_
    refine vc_seq fun K7 hK7 => ?_
    refine vc_reg ?_
    try simp (disch := omega) only [go_sem, ↓reduceIte, Nat.reduceEqDiff, reduceCtorEq, Nat.reduceAdd, Nat.reduceLeDiff, Nat.reduceMul, Int.reduceNeg, Int.reduceLT, Int.reduceAdd, Int.reduceSub, e2, e1, hcl]
    refine hK7 _ ?_
    refine vc_block ?_
    refine vc_loop (fun m s => ∃ (n : Nat) (acc1 : List ByteArray) (S1 : List Nat) (v1 : V) (σ1 : List Ob), (m = us.length - n) ∧ (s.σ = σ1) ∧ (s.env 2 = .ptr σ0.length 0 0 0) ∧ (s.env 1 = v1) ∧ (s.env 5 = .t (.int .i64 n)) ∧ (n ≤ us.length) ∧ (Tb σ1 1 (Ds acc1) S1 v1) ∧ (σ1[σ0.length]? = some (.row g0_0 0 3 3 [[V.t (.int .i64 k), V.t (.str nm), V.t (.sl g cs)]])) ∧ (∀ r ∈ S1, r ≠ σ0.length) ∧ (∀ (r : Nat) (o : Ob), σ0[r]? = some o → ∃ o' : Ob, σ1[r]? = some o' ∧ o.le o') ∧ (σ0.length < σ1.length) ∧ (evsL (us.drop n) acc1 = evs (.mk k nm us) acc) ∧ (acc1.length + E.szL (us.drop n) ≤ 4194304)) (us.length - 0) ⟨0, acc1, S1, v1, _, rfl, (by first | rfl | simp), (by first | rfl | assumption), (by first | rfl | assumption), (by first | rfl | assumption), (by first | rfl | omega | simp), (by exact hT1), (by exact hbox), (by exact hS1), (by exact hle), (by exact hlt0), (by exact hacc), (by exact hal1)⟩ ?_
    rintro m ⟨e, σ, h⟩ ⟨n, acc1, S1, v1, σ1, hm, hσ, e2, e1, e5, hn, hT1, hbox, hS1, hle, hlt0, hacc, hal1⟩ K8 hK8
    simp only at hσ e2 e1 e5
    subst hσ
    refine vc_seq fun K9 hK9 => ?_
    refine vc_seq fun K10 hK10 => ?_
    refine vc_reg ?_
    try simp (disch := omega) only [go_sem, ↓reduceIte, Nat.reduceEqDiff, reduceCtorEq, Nat.reduceAdd, Nat.reduceLeDiff, Nat.reduceMul, Int.reduceNeg, Int.reduceLT, Int.reduceAdd, Int.reduceSub, e2, e1, e5, hcl, hbox]
    refine hK10 _ ?_
    refine vc_cond (t := _) rfl (fun hc3 => ?_) (fun hc3 => ?_)
    · (try simp only [go_sem] at hc3)
      refine vc_skip ?_
      refine hK9 _ ?_
      refine vc_seq fun K11 hK11 => ?_
      refine vc_block ?_
      obtain ⟨c, hc, hrc⟩ := E.repL_get ha (n := n) (by omega)
      obtain ⟨gc, cc, rfl, hcc⟩ := E.rep_cells hrc
      obtain ⟨d1, g1, hTr1, hd1, hg1⟩ := hT1.trG
      rw [Ds_er] at hd1
      refine vc_reg ?_
      try simp (disch := omega) only [go_sem, ↓reduceIte, Nat.reduceEqDiff, reduceCtorEq, Nat.reduceAdd, Nat.reduceLeDiff, Nat.reduceMul, Int.reduceNeg, Int.reduceLT, Int.reduceAdd, Int.reduceSub, e2, e1, e5, hcl, hc, hbox]
      refine x_callW (vs1 := [v1]) (vs2 := []) (S := S1) (ih _ (List.getElem_mem (show n < us.length by omega)) _ hrc (by have := E.wtL_mem (List.getElem_mem (show n < us.length by omega)); omega) acc1 d1 g1 hd1 hg1 (by have := E.szL_drop (l := us) (n := n) (by omega); omega)) (by first | rfl | simp (disch := omega) only [go_sem, ↓reduceIte, Nat.reduceEqDiff, reduceCtorEq, Nat.reduceAdd, Nat.reduceLeDiff, Nat.reduceMul, Int.reduceNeg, Int.reduceLT, Int.reduceAdd, Int.reduceSub, e2, e1, e5, hcl, hc, hbox]) rfl (TrL_one hTr1) (by (try simp (disch := omega) only [go_sem, ↓reduceIte, Nat.reduceEqDiff, reduceCtorEq, Nat.reduceAdd, Nat.reduceLeDiff, Nat.reduceMul, Int.reduceNeg, Int.reduceLT, Int.reduceAdd, Int.reduceSub, e2, e1, e5, hcl, hc, hbox]); rfl) ?_
      rintro sh es1 es2 us1 S6 σ6 h6 hl6 hT6 ⟨rfl, rfl, d6, g6, rfl, hd6, hg6⟩ hS6 hk6 hlen6 hle6 hh6
      obtain ⟨v6, rfl⟩ := List.length_eq_one_iff.1 hl6
      obtain ⟨v6', hv6, hT6⟩ := TrL.inv_one (vs := [v6]) hT6
      obtain rfl : v6 = v6' := by simpa using hv6
      obtain ⟨ds6, hTb6, hds6⟩ := hT6.tb hd6 hg6
      obtain rfl := hTb6.Ts hds6
      have hsz6 := E.szL_drop (l := us) (n := n) (by omega)
      have hvl6 := evs_len us[n] acc1
      try simp (disch := omega) only [go_sem, ↓reduceIte, Nat.reduceEqDiff, reduceCtorEq, Nat.reduceAdd, Nat.reduceLeDiff, Nat.reduceMul, Int.reduceNeg, Int.reduceLT, Int.reduceAdd, Int.reduceSub, e2, e1, e5, hcl, hc, hbox]
      refine hK11 _ ?_
      refine vc_reg ?_
      try simp (disch := omega) only [go_sem, ↓reduceIte, Nat.reduceEqDiff, reduceCtorEq, Nat.reduceAdd, Nat.reduceLeDiff, Nat.reduceMul, Int.reduceNeg, Int.reduceLT, Int.reduceAdd, Int.reduceSub, e2, e1, e5, hcl]
      refine hK8 _ _ ?_ ⟨n + 1, evs us[n] acc1, S6, v6, _, rfl, (by first | rfl | simp), (by first | rfl | assumption), (by first | rfl | assumption), (by first | rfl | assumption), ?_, ?_, ?_, ?_, ?_, ?_, ?_, ?_⟩
      · omega
      · first | omega | assumption | rfl | simp_all
      · exact hTb6
      · exact (hk6 _ hlt0 (fun h => hS1 _ h rfl)).trans hbox
      · intro r hr he; subst he; rcases hS6 _ hr with h | h; exact hS1 _ h rfl; omega
      · exact le_comp hle hle6
      · show σ0.length < σ6.length; omega
      · rw [← hacc, evsL_drop (l := us) (n := n) (by omega)]
      · omega
    · (try simp only [go_sem] at hc3)
      refine vc_exit ?_
      refine hK6 _ ?_
      refine vc_seq fun K12 hK12 => ?_
      refine vc_reg ?_
      try simp (disch := omega) only [go_sem, ↓reduceIte, Nat.reduceEqDiff, reduceCtorEq, Nat.reduceAdd, Nat.reduceLeDiff, Nat.reduceMul, Int.reduceNeg, Int.reduceLT, Int.reduceAdd, Int.reduceSub, e2, e1, e5, hcl]
      refine hK12 _ ?_
      refine vc_ret ?_
      rw [List.drop_of_length_le (by omega), evsL] at hacc
      obtain ⟨d1, g1, hTr1, hd1, hg1⟩ := hT1.trG
      rw [Ds_er, hacc] at hd1
      exact retW (h0 := h0) (Q := (fun sh es1 es2 => sh = .one ∧ es2 = [] ∧ ∃ d g, es1 = [d] ∧ d.er = .sl g (Ts (evs (.mk k nm us) acc)) ∧ d.grows 1)) .one (us1 := [v1]) (es1 := [d1]) (es2 := []) (vs2 := []) rfl rfl rfl (Nat.le_of_lt hlt0) (TrL_one hTr1) (fun u hu => by cases hu) ⟨rfl, rfl, d1, g1, rfl, hd1, hg1⟩ hle

/-- impl.visit -/
theorem impl_visitW {τ : Type} (f : Nat) (st : E → τ → τ) (J : Nat → τ → List D → Prop) (hf : ∀ (x : E) (c : List T) (t : τ) (ds2 : List D) (b : Nat), x.rep c → J (b + 1) t ds2 → WCtr Tryz.prog f (fun _ vs2 => .agg (c.map .t) :: vs2.map V.cellp) [] ds2 (fun sh es1 es2 => sh = .unit ∧ es1 = [] ∧ J b (st x t) es2)) (e : E) (c : List T) (t : τ) (ds2 : List D) (b : Nat) (hc : e.rep c) (hJ : J (b + e.sz) t ds2) (hw : e.wt ≤ 1048576) : WCtr Tryz.prog 57 (fun _ vs2 => [.agg (c.map .t), .fn f (vs2.map V.cellp)]) [] ds2 (fun sh es1 es2 => sh = .unit ∧ es1 = [] ∧ J b (E.foG st e t) es2) := by
  have hc0 := hc
  induction e using E.ind generalizing c t ds2 b
  rename_i k nm us ih
  obtain ⟨g, cs, rfl, ha⟩ := E.rep_mk hc
  have hcl := E.repL_len ha
  rw [E.wt] at hw
  rw [E.sz] at hJ
  have hwl := E.wtL_len us
  intro σ0 vs1 vs2 hvl hT0
  obtain rfl := List.length_eq_zero_iff.1 hvl
  change TrL σ0 ds2 (List.range σ0.length) vs2 at hT0
  show Ctr _ _ [.agg [.t (.int .i64 k), .t (.str nm), .t (.sl g cs)], .fn f (vs2.map V.cellp)] σ0 _
  refine Ctr.of_vc (rs := []) (fn := Tryz.f57) mixed Tryz.func57 rfl rfl (by kernel_rfl) (by kernel_rfl) (by simp [Tryz.ntmps57]) (fun h0 => ?_)
  refine vc_seq fun K1 hK1 => ?_
  refine vc_reg ?_
  try simp (disch := omega) only [go_sem, ↓reduceIte, Nat.reduceEqDiff, reduceCtorEq, Nat.reduceAdd, Nat.reduceLeDiff, Nat.reduceMul, Int.reduceNeg, Int.reduceLT, Int.reduceAdd, Int.reduceSub, hcl]
  intro g0_0 hg0_0
  refine hK1 _ ?_
  refine vc_seq fun K2 hK2 => ?_
  have hT0b := hT0.more (.row g0_0 0 3 3 [[V.t (.int .i64 k), V.t (.str nm), V.t (.sl g cs)]])
  refine vc_reg ?_
  try simp (disch := omega) only [go_sem, ↓reduceIte, Nat.reduceEqDiff, reduceCtorEq, Nat.reduceAdd, Nat.reduceLeDiff, Nat.reduceMul, Int.reduceNeg, Int.reduceLT, Int.reduceAdd, Int.reduceSub, hcl, get_new]
  refine x_callW (vs1 := []) (vs2 := vs2) (S := List.range σ0.length) (hf (.mk k nm us) _ t ds2 (b + E.szL us) hc0 (by rw [Nat.add_assoc, Nat.add_comm _ 1]; exact hJ)) (by first | rfl | simp (disch := omega) only [go_sem, ↓reduceIte, Nat.reduceEqDiff, reduceCtorEq, Nat.reduceAdd, Nat.reduceLeDiff, Nat.reduceMul, Int.reduceNeg, Int.reduceLT, Int.reduceAdd, Int.reduceSub, hcl, get_new]) rfl hT0b ?_ ?_
  · (try simp (disch := omega) only [go_sem, ↓reduceIte, Nat.reduceEqDiff, reduceCtorEq, Nat.reduceAdd, Nat.reduceLeDiff, Nat.reduceMul, Int.reduceNeg, Int.reduceLT, Int.reduceAdd, Int.reduceSub, hcl, get_new])
    try simp only [List.map_append, List.map_cons, List.map_nil, List.cons_append, List.nil_append]
    rw [loc_cellp List.nodup_range hT0b (fun r hr => hr)]; rfl
  rintro sh es1 es2_ us1 S2_ σ2 h2 hl2 hT2 ⟨rfl, rfl, hJ2⟩ hS2 hk2 hlen2 hle2 hh2
  obtain rfl : us1 = [] := List.length_eq_zero_iff.1 hl2
  change TrL σ2 es2_ S2_ vs2 at hT2
  have hbox : σ2[σ0.length]? = some (.row g0_0 0 3 3 [[V.t (.int .i64 k), V.t (.str nm), V.t (.sl g cs)]]) := (hk2 _ (by simp) (by simp)).trans (get_new _ _)
  try simp (disch := omega) only [go_sem, ↓reduceIte, Nat.reduceEqDiff, reduceCtorEq, Nat.reduceAdd, Nat.reduceLeDiff, Nat.reduceMul, Int.reduceNeg, Int.reduceLT, Int.reduceAdd, Int.reduceSub, hcl, get_new]
  refine hK2 _ ?_
  refine vc_seq fun K3 hK3 => ?_
  refine vc_reg ?_
  try simp (disch := omega) only [go_sem, ↓reduceIte, Nat.reduceEqDiff, reduceCtorEq, Nat.reduceAdd, Nat.reduceLeDiff, Nat.reduceMul, Int.reduceNeg, Int.reduceLT, Int.reduceAdd, Int.reduceSub, hcl, hbox]
  refine hK3 _ ?_
  refine vc_block ?_
  refine vc_loop (fun m s => ∃ (n : Nat) (t1 : τ) (d1 : List D) (S1 : List Nat) (σ1 : List Ob), (m = us.length - n) ∧ (s.σ = σ1) ∧ (s.env 1 = .fn f (vs2.map V.cellp)) ∧ (s.env 10 = .t (.sl g cs)) ∧ (s.env 11 = .t (.int .i64 us.length)) ∧ (s.env 12 = .t (.int .i64 n)) ∧ (n ≤ us.length) ∧ (TrL σ1 d1 S1 vs2) ∧ (J (b + E.szL (us.drop n)) t1 d1) ∧ (E.foGL st (us.drop n) t1 = E.foG st (.mk k nm us) t) ∧ (σ0.length ≤ σ1.length) ∧ (∀ (r : Nat) (o : Ob), σ0[r]? = some o → ∃ o' : Ob, σ1[r]? = some o' ∧ o.le o')) (us.length - 0) ⟨0, st (.mk k nm us) t, es2_, S2_, _, rfl, (by first | rfl | simp), (by first | rfl | assumption), (by first | rfl | assumption), (by first | rfl | assumption), (by first | rfl | assumption), (by first | rfl | omega | simp), (by exact hT2), (by exact hJ2), (by rfl), (by show σ0.length ≤ σ2.length; simp only [List.length_append, List.length_cons, List.length_nil] at hlen2; omega), (by exact le_comp (more_le _ _) hle2)⟩ ?_
  rintro m ⟨e, σ, h⟩ ⟨n, t1, d1, S1, σ1, hm, hσ, e1, e10, e11, e12, hn, hT1, hJ1, ht1, hlen1, hle1⟩ K4 hK4
  simp only at hσ e1 e10 e11 e12
  subst hσ
  refine vc_seq fun K5 hK5 => ?_
  refine vc_reg ?_
  try simp (disch := omega) only [go_sem, ↓reduceIte, Nat.reduceEqDiff, reduceCtorEq, Nat.reduceAdd, Nat.reduceLeDiff, Nat.reduceMul, Int.reduceNeg, Int.reduceLT, Int.reduceAdd, Int.reduceSub, e1, e10, e11, e12, hcl]
  refine hK5 _ ?_
  refine vc_seq fun K6 hK6 => ?_
  refine vc_cond (t := _) rfl (fun hc1 => ?_) (fun hc1 => ?_)
  · (try simp only [go_sem] at hc1)
    refine vc_skip ?_
    refine hK6 _ ?_
    refine vc_seq fun K7 hK7 => ?_
    refine vc_block ?_
    refine vc_seq fun K8 hK8 => ?_
    obtain ⟨c, hc, hrc⟩ := E.repL_get ha (n := n) (by omega)
    obtain ⟨gc, cc, rfl, hcc⟩ := E.rep_cells hrc
    refine vc_reg ?_
    try simp (disch := omega) only [go_sem, ↓reduceIte, Nat.reduceEqDiff, reduceCtorEq, Nat.reduceAdd, Nat.reduceLeDiff, Nat.reduceMul, Int.reduceNeg, Int.reduceLT, Int.reduceAdd, Int.reduceSub, e1, e10, e11, e12, hcl, hc, get_new, setV]
    intro g4_2 hg4_2
    refine hK8 _ ?_
    refine vc_reg ?_
    try simp (disch := omega) only [go_sem, ↓reduceIte, Nat.reduceEqDiff, reduceCtorEq, Nat.reduceAdd, Nat.reduceLeDiff, Nat.reduceMul, Int.reduceNeg, Int.reduceLT, Int.reduceAdd, Int.reduceSub, e1, e10, e11, e12, hcl, get_new]
    refine x_callW (vs1 := []) (vs2 := vs2) (S := S1) (ih _ (List.getElem_mem (show n < us.length by omega)) _ t1 d1 (b + E.szL (us.drop (n + 1))) hrc (by rw [Nat.add_assoc, Nat.add_comm _ us[n].sz, ← E.szL_drop (by omega)]; exact hJ1) (by have := E.wtL_mem (List.getElem_mem (show n < us.length by omega)); omega) hrc) (by first | rfl | simp (disch := omega) only [go_sem, ↓reduceIte, Nat.reduceEqDiff, reduceCtorEq, Nat.reduceAdd, Nat.reduceLeDiff, Nat.reduceMul, Int.reduceNeg, Int.reduceLT, Int.reduceAdd, Int.reduceSub, e1, e10, e11, e12, hcl, get_new]) rfl (hT1.more _) ?_ ?_
    · (try simp (disch := omega) only [go_sem, ↓reduceIte, Nat.reduceEqDiff, reduceCtorEq, Nat.reduceAdd, Nat.reduceLeDiff, Nat.reduceMul, Int.reduceNeg, Int.reduceLT, Int.reduceAdd, Int.reduceSub, e1, e10, e11, e12, hcl, get_new])
      try simp only [List.map_append, List.map_cons, List.map_nil, List.cons_append, List.nil_append, List.append_nil]
      rw [loc_fn_cellp hT1.nodup (hT1.more _) (fun r hr => hr)]; rfl
    rintro sh es1 es5 us1 S5 σ5 h5 hl5 hT5 ⟨rfl, rfl, hJ5⟩ hS5 hk5 hlen5 hle5 hh5
    obtain rfl : us1 = [] := List.length_eq_zero_iff.1 hl5
    change TrL σ5 es5 S5 vs2 at hT5
    try simp (disch := omega) only [go_sem, ↓reduceIte, Nat.reduceEqDiff, reduceCtorEq, Nat.reduceAdd, Nat.reduceLeDiff, Nat.reduceMul, Int.reduceNeg, Int.reduceLT, Int.reduceAdd, Int.reduceSub, e1, e10, e11, e12, hcl, get_new]
    refine hK7 _ ?_
    refine vc_reg ?_
    try simp (disch := omega) only [go_sem, ↓reduceIte, Nat.reduceEqDiff, reduceCtorEq, Nat.reduceAdd, Nat.reduceLeDiff, Nat.reduceMul, Int.reduceNeg, Int.reduceLT, Int.reduceAdd, Int.reduceSub, e1, e10, e11, e12, hcl]
    refine hK4 _ _ ?_ ⟨n + 1, E.foG st us[n] t1, es5, S5, _, rfl, (by first | rfl | simp), (by first | rfl | assumption), (by first | rfl | assumption), (by first | rfl | assumption), (by first | rfl | assumption), ?_, ?_, ?_, ?_, ?_, ?_⟩
    · omega
    · first | omega | assumption | rfl | simp_all
    · exact hT5
    · exact hJ5
    · rw [← ht1, E.foGL_drop (l := us) (n := n) (by omega)]
    · show σ0.length ≤ σ5.length; simp only [List.length_append, List.length_cons, List.length_nil] at hlen5; omega
    · exact le_comp hle1 (le_comp (more_le _ _) hle5)
  · (try simp only [go_sem] at hc1)
    refine vc_exit ?_
    rw [List.drop_of_length_le (by omega), E.foGL] at ht1
    rw [List.drop_of_length_le (by omega), E.szL, Nat.add_zero] at hJ1
    refine retW (h0 := h0) (Q := (fun sh es1 es2 => sh = .unit ∧ es1 = [] ∧ J b (E.foG st (.mk k nm us) t) es2)) .unit (us1 := []) (es1 := []) (es2 := d1) (vs2 := vs2) rfl rfl rfl hlen1 hT1 (fun u hu r hr => List.mem_range.1 (hT0.root u hu r hr)) ⟨rfl, rfl, by rw [← ht1]; exact hJ1⟩ hle1

theorem vstep_T {kind : Int} {x : E} {acc : List ByteArray} (h1 : x.kind = kind) (h2 : ix x.name 0 acc < 0) : vstep kind x acc = acc ++ [x.name] := by rw [vstep, if_pos h1, un_one, if_neg (by omega)]
theorem vstep_F {kind : Int} {x : E} {acc : List ByteArray} (h : x.kind ≠ kind ∨ 0 ≤ ix x.name 0 acc) : vstep kind x acc = acc := by
  rw [vstep]
  split
  · rename_i hk
    rcases h with h | h
    · exact absurd hk h
    · rw [un_one, if_pos h]
  · rfl
theorem Ds_app_one (xs : List ByteArray) (x : ByteArray) : Ds (xs ++ [x]) = Ds xs ++ [[D.t (.str x)]] := by rw [Ds_app]; rfl
/-- What the two cells hold: the kind, and the names so far. -/
def JN (kind : Int) (n : Nat) (acc : List ByteArray) (ds2 : List D) : Prop := ∃ g1 g2 d gd, ds2 = [.ow g1 1 [[.t (.int .i64 kind)]], .ow g2 1 [[d]]] ∧ d.er = .sl gd (Ts acc) ∧ d.grows 1 ∧ acc.length + n ≤ 4194304

/-- impl.namesOf$1 -/
theorem impl_namesOf_1 (kind : Int) (x : E) (c : List T) (acc : List ByteArray) (ds2 : List D) (b : Nat) (hc : x.rep c) (hJ : JN kind (b + 1) acc ds2) : WCtr Tryz.prog 91 (fun _ vs2 => .agg (c.map .t) :: vs2.map V.cellp) [] ds2 (fun sh es1 es2 => sh = .unit ∧ es1 = [] ∧ JN kind b (vstep kind x acc) es2) := by
  obtain ⟨gx, cx, rfl, _⟩ := E.rep_cells hc
  obtain ⟨g1, g2, d, gd, rfl, hd, hg, hal⟩ := hJ
  intro σ0 vs1 vs2 hvl hT0
  obtain rfl := List.length_eq_zero_iff.1 hvl
  change TrL σ0 [.ow g1 1 [[.t (.int .i64 kind)]], .ow g2 1 [[d]]] (List.range σ0.length) vs2 at hT0
  obtain ⟨w1, l1, R1, R2, rfl, hR, hj, hw1, hl1⟩ := hT0.inv_cons
  obtain ⟨w2, rfl, hw2⟩ := hl1.inv_one
  obtain ⟨r1, ver1, m1, u1, S1, rfl, hn1, rfl, hrow1, hu1⟩ := hw1.cell
  obtain ⟨r2, ver2, m2, u2, S2, rfl, hn2, rfl, hrow2, hu2⟩ := hw2.cell
  rw [Tr] at hu1
  obtain ⟨rfl, rfl, _⟩ := hu1
  obtain ⟨ds2_, hTb, hds2⟩ := hu2.tb hd hg
  obtain rfl := hTb.Ts hds2
  have hr12 : r1 ≠ r2 := fun he => hj r1 (by simp) (by simp [he])
  have hr1S : r1 ∉ S2 := fun hx => hj r1 (by simp) (by simp [hx])
  have hlt1 := (List.getElem?_eq_some_iff.1 hrow1).1
  have hlt2 := (List.getElem?_eq_some_iff.1 hrow2).1
  show Ctr _ _ [.agg [.t (.int .i64 x.kind), .t (.str x.name), .t (.sl gx cx)], .ptr r1 ver1 0 0, .ptr r2 ver2 0 0] σ0 _
  refine Ctr.of_vc (rs := []) (fn := Tryz.f91) mixed Tryz.func91 rfl rfl (by kernel_rfl) (by kernel_rfl) (by simp [Tryz.ntmps91]) (fun h0 => ?_)
  refine vc_seq fun K1 hK1 => ?_
  refine vc_reg ?_
  try simp (disch := omega) only [go_sem, ↓reduceIte, Nat.reduceEqDiff, reduceCtorEq, Nat.reduceAdd, Nat.reduceLeDiff, Nat.reduceMul, Int.reduceNeg, Int.reduceLT, Int.reduceAdd, Int.reduceSub]
  intro g0_0 hg0_0
  refine hK1 _ ?_
  refine vc_seq fun K2 hK2 => ?_
  have hx1 : (σ0 ++ [.row g0_0 0 3 3 [[V.t (.int .i64 x.kind), V.t (.str x.name), V.t (.sl gx cx)]]])[r1]? = _ := (get_old hlt1).trans hrow1
  have hx2 : (σ0 ++ [.row g0_0 0 3 3 [[V.t (.int .i64 x.kind), V.t (.str x.name), V.t (.sl gx cx)]]])[r2]? = _ := (get_old hlt2).trans hrow2
  have hTbx := hTb.more (.row g0_0 0 3 3 [[V.t (.int .i64 x.kind), V.t (.str x.name), V.t (.sl gx cx)]])
  obtain ⟨gl, hlend⟩ := hTbx.lend
  rw [Ds_er] at hlend
  refine vc_reg ?_
  refine vcX_cut 5 fun K3 hK3 => ?_
  try simp (disch := omega) only [go_sem, ↓reduceIte, Nat.reduceEqDiff, reduceCtorEq, Nat.reduceAdd, Nat.reduceLeDiff, Nat.reduceMul, Int.reduceNeg, Int.reduceLT, Int.reduceAdd, Int.reduceSub, get_new, hx1, hx2]
  refine hK3 _ ?_
  refine vcX_bool (fun hb1_4 => ?_) (fun hb1_4 => ?_)
  · (try simp only [go_sem] at hb1_4)
    try simp (disch := omega) only [go_sem, ↓reduceIte, Nat.reduceEqDiff, reduceCtorEq, Nat.reduceAdd, Nat.reduceLeDiff, Nat.reduceMul, Int.reduceNeg, Int.reduceLT, Int.reduceAdd, Int.reduceSub, get_new, hx1, hx2]
    refine vcX_callS (caps := []) S2 [.t (.sl gl (Ts acc)), .t (.str x.name)] _ (slices_Contains_string gl acc x.name (by omega)) (by first | rfl | simp (disch := omega) only [go_sem, ↓reduceIte, Nat.reduceEqDiff, reduceCtorEq, Nat.reduceAdd, Nat.reduceLeDiff, Nat.reduceMul, Int.reduceNeg, Int.reduceLT, Int.reduceAdd, Int.reduceSub, get_new, hx1, hx2]) ?_ ?_
    · show Subs [V.loc _ [] _ u2, V.t (.str x.name)] _
      exact Subs.cons hlend (Subs.cons (.refl _) (Subs.nil))
    rintro r1_8 h1_8 hh1_8 rfl -
    refine ⟨fun q hq o ho hm => by simp [V.ids, T.ids] at hm, ?_⟩
    try simp (disch := omega) only [go_sem, ↓reduceIte, Nat.reduceEqDiff, reduceCtorEq, Nat.reduceAdd, Nat.reduceLeDiff, Nat.reduceMul, Int.reduceNeg, Int.reduceLT, Int.reduceAdd, Int.reduceSub, get_new, hx1, hx2]
    refine hK2 _ ?_
    refine vc_cond (t := _) rfl (fun hc1 => ?_) (fun hc1 => ?_)
    · (try simp only [go_sem] at hc1)
      refine vc_reg ?_
      try simp (disch := omega) only [go_sem, ↓reduceIte, Nat.reduceEqDiff, reduceCtorEq, Nat.reduceAdd, Nat.reduceLeDiff, Nat.reduceMul, Int.reduceNeg, Int.reduceLT, Int.reduceAdd, Int.reduceSub, hx2, get_new]
      refine .inl ⟨by simp [bsOk], fun g2_3 hg2_3 => ?_⟩
      try simp (disch := omega) only [go_sem, ↓reduceIte, Nat.reduceEqDiff, reduceCtorEq, Nat.reduceAdd, Nat.reduceLeDiff, Nat.reduceMul, Int.reduceNeg, Int.reduceLT, Int.reduceAdd, Int.reduceSub, hx2, get_new]
      refine x_appT [V.t (.str x.name)] (show tElem Tryz.prog 36 = some 9 by kernel_rfl) (show tSize Tryz.prog 9 = some 1 by kernel_rfl) (show tZero Tryz.prog 9 = some [.t (.str ⟨#[]⟩)] by kernel_rfl) (show tBytes Tryz.prog 9 = some 16 by kernel_rfl) rfl (hTbx.more _) (by first | rfl | (simp (disch := omega) only [go_sem, ↓reduceIte, Nat.reduceEqDiff, reduceCtorEq, Nat.reduceAdd, Nat.reduceLeDiff, Nat.reduceMul, Int.reduceNeg, Int.reduceLT, Int.reduceAdd, Int.reduceSub, hx2, get_new, appElems, St.elems])) (by simp) (TrL_one Tr_str) rfl (Dj_nil _) (by rw [Ds_len]; omega) ?_
      rintro v2_4 S2_4 σ2_4 h2_4 hT2_4 hk2_4 hS2_4 hl2_4 hle2_4 hh2_4
      have hy2 : σ2_4[r2]? = some (.row g2 ver2 1 m2 [[u2]]) := by rw [hk2_4 r2 (by simp; omega) hn2, get_old (by simp; omega)]; exact hx2
      have hy1 : σ2_4[r1]? = some (.row g1 ver1 1 m1 [[V.t (.int .i64 kind)]]) := by rw [hk2_4 r1 (by simp; omega) hr1S, get_old (by simp; omega)]; exact hx1
      have hvl := hT2_4.leaf
      have hsl_ := solid_of hvl
      have hcl_ := cells_of hvl
      try simp (disch := omega) only [go_sem, ↓reduceIte, Nat.reduceEqDiff, reduceCtorEq, Nat.reduceAdd, Nat.reduceLeDiff, Nat.reduceMul, Int.reduceNeg, Int.reduceLT, Int.reduceAdd, Int.reduceSub, hy2, hsl_, hcl_, setV, List.set_cons_zero]
      obtain ⟨d4, g4, hTd, hd4, hg4⟩ := hT2_4.trG
      rw [← Ds_app_one, Ds_er] at hd4
      have hn24 : ∀ r ∈ S2_4, r ≠ r2 ∧ r ≠ r1 := fun r hr => by
        rcases hS2_4 r hr with h | h | h
        · exact ⟨fun he => hn2 (he ▸ h), fun he => hr1S (he ▸ h)⟩
        · cases h
        · simp only [List.length_append, List.length_cons, List.length_nil] at h; exact ⟨by omega, by omega⟩
      have hst := vstep_T (kind := kind) (acc := acc) hb1_4 (by simpa using hc1)
      refine retW (h0 := h0) (Q := (fun sh es1 es2 => sh = .unit ∧ es1 = [] ∧ JN kind b (vstep kind x acc) es2)) .unit (us1 := []) (es1 := []) (es2 := [.ow g1 1 [[.t (.int .i64 kind)]], .ow g2 1 [[d4]]]) (vs2 := [.own r1 ver1 0 1, .own r2 ver2 0 1]) (S := [r1] ++ (r2 :: S2_4)) rfl rfl rfl ?_ ?_ ?_ ⟨rfl, rfl, g1, g2, d4, g4, rfl, by rw [hst]; exact hd4, hg4, by rw [hst, List.length_append]; simp; omega⟩ ?_
      · show σ0.length ≤ (List.set _ _ _).length; rw [List.length_set]; simp only [List.length_append, List.length_cons, List.length_nil] at hl2_4; omega
      · refine TrL_cons (Tr.of_cell (by simp) ((List.getElem?_set_ne hr12.symm).trans hy1) Tr_int) (TrL_one (Tr.of_cell (fun h => (hn24 _ h).1 rfl) (List.getElem?_set_self (List.getElem?_eq_some_iff.1 hy2).1) (hTd.keep (fun r hr => List.getElem?_set_ne (fun he => (hn24 r hr).1 he.symm))))) (fun r hr hx => ?_)
        obtain rfl := List.mem_singleton.1 hr
        rcases List.mem_cons.1 hx with h | h
        · exact hr12 h
        · exact (hn24 _ h).2 rfl
      · exact fun u hu r hr => List.mem_range.1 (hT0.root u hu r hr)
      · exact le_comp (more_le _ _) (le_comp (more_le _ _) (le_comp hle2_4 (set_le hy2 rfl)))
    · (try simp only [go_sem] at hc1)
      refine vc_skip ?_
      have hst := vstep_F (kind := kind) (acc := acc) (x := x) (.inr (by simpa using hc1))
      exact retW (h0 := h0) (Q := (fun sh es1 es2 => sh = .unit ∧ es1 = [] ∧ JN kind b (vstep kind x acc) es2)) .unit (us1 := []) (es1 := []) rfl rfl rfl (by simp) (hT0.more _) (fun u hu r hr => List.mem_range.1 (hT0.root u hu r hr)) ⟨rfl, rfl, g1, g2, d, gd, rfl, by rw [hst]; exact hd, hg, by rw [hst]; omega⟩ (more_le _ _)
  · (try simp only [go_sem] at hb1_4)
    try simp (disch := omega) only [go_sem, ↓reduceIte, Nat.reduceEqDiff, reduceCtorEq, Nat.reduceAdd, Nat.reduceLeDiff, Nat.reduceMul, Int.reduceNeg, Int.reduceLT, Int.reduceAdd, Int.reduceSub, get_new, hx1, hx2]
    refine hK2 _ ?_
    refine vc_cond (t := _) rfl (fun hc2 => ?_) (fun hc2 => ?_)
    · exact absurd hc2 (by simp)
    · (try simp only [go_sem] at hc2)
      refine vc_skip ?_
      have hst := vstep_F (kind := kind) (acc := acc) (x := x) (.inl hb1_4)
      exact retW (h0 := h0) (Q := (fun sh es1 es2 => sh = .unit ∧ es1 = [] ∧ JN kind b (vstep kind x acc) es2)) .unit (us1 := []) (es1 := []) rfl rfl rfl (by simp) (hT0.more _) (fun u hu r hr => List.mem_range.1 (hT0.root u hu r hr)) ⟨rfl, rfl, g1, g2, d, gd, rfl, by rw [hst]; exact hd, hg, by rw [hst]; omega⟩ (more_le _ _)

/-- impl.namesOf -/
theorem impl_namesOf (e : E) (c : List T) (hc : e.rep c) (hw : e.wt ≤ 1048576) : OCtr Tryz.prog 62 [.agg (c.map .t), .t (.int .i64 1)] (fun s ts => s = .one ∧ ∃ g, ts = [.sl g (Ts (evs e []))]) := by
  have hc0 := hc
  obtain ⟨g, cs, rfl, hcs⟩ := E.rep_cells hc
  have hszw := E.sz_wt e
  unfold OCtr
  refine Ctr.of_vc (rs := [.tmp 4]) (fn := Tryz.f62) mixed Tryz.func62 rfl rfl (by kernel_rfl) (by kernel_rfl) (by simp [Tryz.ntmps62]) (fun h0 => ?_)
  refine vc_seq fun K1 hK1 => ?_
  refine vc_reg ?_
  try simp (disch := omega) only [go_sem, ↓reduceIte, Nat.reduceEqDiff, reduceCtorEq, Nat.reduceAdd, Nat.reduceLeDiff, Nat.reduceMul, Int.reduceNeg, Int.reduceLT, Int.reduceAdd, Int.reduceSub]
  intro g0_0 hg0_0
  intro g0_1 hg0_1
  refine hK1 _ ?_
  refine vc_seq fun K2 hK2 => ?_
  refine vc_reg ?_
  try simp (disch := omega) only [go_sem, ↓reduceIte, Nat.reduceEqDiff, reduceCtorEq, Nat.reduceAdd, Nat.reduceLeDiff, Nat.reduceMul, Int.reduceNeg, Int.reduceLT, Int.reduceAdd, Int.reduceSub]
  intro g1_0 hg1_0
  refine hK2 _ ?_
  refine vc_seq fun K3 hK3 => ?_
  refine vc_reg ?_
  try simp (disch := omega) only [go_sem, ↓reduceIte, Nat.reduceEqDiff, reduceCtorEq, Nat.reduceAdd, Nat.reduceLeDiff, Nat.reduceMul, Int.reduceNeg, Int.reduceLT, Int.reduceAdd, Int.reduceSub]
  refine x_callW (vs1 := []) (vs2 := [.own 1 0 0 1, .own 2 0 0 1]) (ds1 := []) (ds2 := [.ow g0_1 1 [[.t (.int .i64 1)]], .ow g1_0 1 [[.nil]]]) (S := [1] ++ [2]) (impl_visitW 91 (vstep 1) (JN 1) (fun x c acc ds2 b h1 h2 => impl_namesOf_1 1 x c acc ds2 b h1 h2) e _ [] _ 0 hc0 ⟨g0_1, g1_0, .nil, 0, rfl, rfl, trivial, by simp; omega⟩ hw) (by first | rfl | simp (disch := omega) only [go_sem, ↓reduceIte, Nat.reduceEqDiff, reduceCtorEq, Nat.reduceAdd, Nat.reduceLeDiff, Nat.reduceMul, Int.reduceNeg, Int.reduceLT, Int.reduceAdd, Int.reduceSub]) rfl (TrL_cons (Tr.of_cell (by simp) rfl Tr_int) (TrL_one (Tr.of_cell (by simp) rfl Tr_nil)) (fun r hr hx => by simp at hr hx; omega)) (by (try simp (disch := omega) only [go_sem, ↓reduceIte, Nat.reduceEqDiff, reduceCtorEq, Nat.reduceAdd, Nat.reduceLeDiff, Nat.reduceMul, Int.reduceNeg, Int.reduceLT, Int.reduceAdd, Int.reduceSub]); rfl) ?_
  rintro sh es1 es2 us1 S2 σ2 h2 hl2 hT2 ⟨rfl, rfl, g1, g2, d, gd, rfl, hd, hg, _⟩ hS2 hk2 hlen2 hle2 hh2
  obtain rfl : us1 = [] := List.length_eq_zero_iff.1 hl2
  change TrL σ2 [.ow g1 1 [[.t (.int .i64 1)]], .ow g2 1 [[d]]] S2 [.own 1 0 0 1, .own 2 0 0 1] at hT2
  obtain ⟨w1, l1, R1, R2, he1, hR, hj, hw1, hl1⟩ := hT2.inv_cons
  injection he1 with he1 he2
  subst he2
  obtain ⟨w2, he2, hw2⟩ := hl1.inv_one
  injection he2 with he2
  subst he2
  obtain ⟨r2, ver2, m2, u2, S3, rfl, hn2, he3, hrow2, hu2⟩ := hw2.cell
  injection he3 with he3 he4 he5 he6
  subst he3
  subst he4
  rw [foG_evs] at hd
  try simp (disch := omega) only [go_sem, ↓reduceIte, Nat.reduceEqDiff, reduceCtorEq, Nat.reduceAdd, Nat.reduceLeDiff, Nat.reduceMul, Int.reduceNeg, Int.reduceLT, Int.reduceAdd, Int.reduceSub]
  refine hK3 _ ?_
  refine vc_seq fun K4 hK4 => ?_
  refine vc_reg ?_
  try simp (disch := omega) only [go_sem, ↓reduceIte, Nat.reduceEqDiff, reduceCtorEq, Nat.reduceAdd, Nat.reduceLeDiff, Nat.reduceMul, Int.reduceNeg, Int.reduceLT, Int.reduceAdd, Int.reduceSub, hrow2]
  refine hK4 _ ?_
  refine vc_ret ?_
  exact retO (h0 := h0) (Q := (fun s ts => s = .one ∧ ∃ g, ts = [.sl g (Ts (evs e []))])) .one (ws := [u2]) rfl rfl trivial (TrL_one hu2) ⟨rfl, gd, by rw [D.erL, D.erL, hd]⟩

/-- impl.VarsOf -/
theorem impl_VarsOf (e : E) (c : List T) (hc : e.rep c) (hw : e.wt ≤ 1048576) : OCtr Tryz.prog 29 [.agg (c.map .t)] (fun s ts => s = .one ∧ ∃ g, ts = [.sl g (Ts (evs e []))]) := by
  have hc0 := hc
  obtain ⟨g, cs, rfl, hcs⟩ := E.rep_cells hc
  unfold OCtr
  refine Ctr.of_vc (rs := [.tmp 2]) (fn := Tryz.f29) mixed Tryz.func29 rfl rfl (by kernel_rfl) (by kernel_rfl) (by simp [Tryz.ntmps29]) (fun h0 => ?_)
  refine vc_seq fun K1 hK1 => ?_
  refine vc_reg ?_
  try simp (disch := omega) only [go_sem, ↓reduceIte, Nat.reduceEqDiff, reduceCtorEq, Nat.reduceAdd, Nat.reduceLeDiff, Nat.reduceMul, Int.reduceNeg, Int.reduceLT, Int.reduceAdd, Int.reduceSub]
  intro g0_0 hg0_0
  refine hK1 _ ?_
  refine vc_seq fun K2 hK2 => ?_
  refine vc_reg ?_
  try simp (disch := omega) only [go_sem, ↓reduceIte, Nat.reduceEqDiff, reduceCtorEq, Nat.reduceAdd, Nat.reduceLeDiff, Nat.reduceMul, Int.reduceNeg, Int.reduceLT, Int.reduceAdd, Int.reduceSub]
  refine x_callO (caps := []) [] [.agg (List.map V.t [.int .i64 e.kind, .str e.name, .sl g cs]), .t (.int .i64 1)] _ (impl_namesOf e _ hc0 hw) (by first | rfl | simp (disch := omega) only [go_sem, ↓reduceIte, Nat.reduceEqDiff, reduceCtorEq, Nat.reduceAdd, Nat.reduceLeDiff, Nat.reduceMul, Int.reduceNeg, Int.reduceLT, Int.reduceAdd, Int.reduceSub]) ?_ ?_
  · exact Subs.of_eq (by first | rfl | simp (disch := omega) only [go_sem, ↓reduceIte, Nat.reduceEqDiff, reduceCtorEq, Nat.reduceAdd, Nat.reduceLeDiff, Nat.reduceMul, Int.reduceNeg, Int.reduceLT, Int.reduceAdd, Int.reduceSub])
  rintro s ds1 vs1 S1 σ1 h1 ⟨rfl, g1, hE1⟩ hT1 hk1 hS1 hl1 hh1
  obtain ⟨d1, v1, rfl, rfl, hT1, hE1⟩ := hT1.er_one hE1
  try simp (disch := omega) only [go_sem, ↓reduceIte, Nat.reduceEqDiff, reduceCtorEq, Nat.reduceAdd, Nat.reduceLeDiff, Nat.reduceMul, Int.reduceNeg, Int.reduceLT, Int.reduceAdd, Int.reduceSub]
  refine hK2 _ ?_
  refine vc_ret ?_
  exact retO (h0 := h0) (Q := (fun s ts => s = .one ∧ ∃ g, ts = [.sl g (Ts (evs e []))])) .one (ws := [v1]) rfl rfl trivial (TrL_one hT1) ⟨rfl, g1, by rw [D.erL, D.erL, hE1]⟩

/-- spec.VarsOf -/
theorem spec_VarsOf (e : E) (c : List T) (hc : e.rep c) (hw : e.wt ≤ 1048576) : OCtr Tryz.prog 40 [.agg (c.map .t)] (fun s ts => s = .one ∧ ∃ g, ts = [.sl g (Ts (evs e []))]) := by
  have hc0 := hc
  obtain ⟨g, cs, rfl, hcs⟩ := E.rep_cells hc
  have hszw := E.sz_wt e
  unfold OCtr
  refine Ctr.of_vc (rs := [.tmp 2]) (fn := Tryz.f40) mixed Tryz.func40 rfl rfl (by kernel_rfl) (by kernel_rfl) (by simp [Tryz.ntmps40]) (fun h0 => ?_)
  refine vc_seq fun K1 hK1 => ?_
  refine vc_reg ?_
  try simp (disch := omega) only [go_sem, ↓reduceIte, Nat.reduceEqDiff, reduceCtorEq, Nat.reduceAdd, Nat.reduceLeDiff, Nat.reduceMul, Int.reduceNeg, Int.reduceLT, Int.reduceAdd, Int.reduceSub]
  intro g0_0 hg0_0
  refine hK1 _ ?_
  refine vc_seq fun K2 hK2 => ?_
  refine vc_reg ?_
  try simp (disch := omega) only [go_sem, ↓reduceIte, Nat.reduceEqDiff, reduceCtorEq, Nat.reduceAdd, Nat.reduceLeDiff, Nat.reduceMul, Int.reduceNeg, Int.reduceLT, Int.reduceAdd, Int.reduceSub]
  refine .inl ⟨by simp [bsOk], fun g1_1 hg1_1 => ?_⟩
  try simp (disch := omega) only [go_sem, ↓reduceIte, Nat.reduceEqDiff, reduceCtorEq, Nat.reduceAdd, Nat.reduceLeDiff, Nat.reduceMul, Int.reduceNeg, Int.reduceLT, Int.reduceAdd, Int.reduceSub]
  refine x_callW (vs1 := [.own 1 0 0 0]) (vs2 := []) (S := [1]) (spec_l3Vars e _ hc0 hw [] (.ow g1_1 1 []) g1_1 rfl rfl (by simp; omega)) (by first | rfl | simp (disch := omega) only [go_sem, ↓reduceIte, Nat.reduceEqDiff, reduceCtorEq, Nat.reduceAdd, Nat.reduceLeDiff, Nat.reduceMul, Int.reduceNeg, Int.reduceLT, Int.reduceAdd, Int.reduceSub]) rfl (TrL_one ?_) (by (try simp (disch := omega) only [go_sem, ↓reduceIte, Nat.reduceEqDiff, reduceCtorEq, Nat.reduceAdd, Nat.reduceLeDiff, Nat.reduceMul, Int.reduceNeg, Int.reduceLT, Int.reduceAdd, Int.reduceSub]); rfl) ?_
  · rw [Tr]
    exact ⟨1, 0, 0, [], [], rfl, by simp, rfl, rfl, TrLL_nil, fun e he => by cases he⟩
  rintro sh es1 es2 us1 S2 σ2 h2 hl2 hT2 ⟨rfl, rfl, d, gd, rfl, hd, hg⟩ hS2 hk2 hlen2 hle2 hh2
  obtain ⟨u2, rfl⟩ := List.length_eq_one_iff.1 hl2
  obtain ⟨u2', hv2, hT2⟩ := TrL.inv_one (vs := [u2]) hT2
  obtain rfl : u2 = u2' := by simpa using hv2
  try simp (disch := omega) only [go_sem, ↓reduceIte, Nat.reduceEqDiff, reduceCtorEq, Nat.reduceAdd, Nat.reduceLeDiff, Nat.reduceMul, Int.reduceNeg, Int.reduceLT, Int.reduceAdd, Int.reduceSub]
  refine hK2 _ ?_
  refine vc_ret ?_
  exact retO (h0 := h0) (Q := (fun s ts => s = .one ∧ ∃ g, ts = [.sl g (Ts (evs e []))])) .one (ws := [u2]) rfl rfl trivial (TrL_one hT2) ⟨rfl, gd, by rw [D.erL, D.erL, hd]⟩
end Go.Proofs.YtldhhppfnhgcdaaGreat
