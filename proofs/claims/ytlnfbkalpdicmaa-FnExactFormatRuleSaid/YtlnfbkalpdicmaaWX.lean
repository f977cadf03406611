/- Walks through the code: each function's contract. -/
import Derived.Test.YtlnfbkalpdicmaaWU
set_option linter.unusedVariables false
set_option linter.unusedSimpArgs false
set_option maxRecDepth 8000
namespace Go.Proofs.Ytlnfbkalpdicmaa
open Go Go.VL

mutual
/-- The variables of a term behind those that are there, each once. -/
def evs : E → List ByteArray → List ByteArray
  | .mk k n us, acc => evsL us (if k = 1 then un acc [n] else acc)
def evsL : List E → List ByteArray → List ByteArray
  | [], acc => acc
  | e :: l, acc => evsL l (evs e acc)
end
theorem evsL_drop {l : List E} {n : Nat} {acc : List ByteArray} (h : n < l.length) : evsL (l.drop n) acc = evsL (l.drop (n + 1)) (evs l[n] acc) := by rw [drop_get h, evsL]
theorem un_one {acc : List ByteArray} {n : ByteArray} : un acc [n] = if 0 ≤ ix n 0 acc then acc else acc ++ [n] := by rw [un]; split <;> rfl
theorem un_one_len (acc : List ByteArray) (n : ByteArray) : (un acc [n]).length ≤ acc.length + 1 := by rw [un_one]; split <;> simp
theorem evs_len : ∀ (e : E) (acc : List ByteArray), (evs e acc).length ≤ acc.length + e.sz := by
  intro e
  induction e using E.ind with
  | h k n us ih =>
    intro acc
    rw [evs, E.sz]
    have : ∀ (l : List E), (∀ a ∈ l, ∀ acc, (evs a acc).length ≤ acc.length + a.sz) → ∀ acc, (evsL l acc).length ≤ acc.length + E.szL l := by
      intro l
      induction l with
      | nil => exact fun _ acc => by rw [evsL]; omega
      | cons a l ihl =>
        intro h acc
        rw [evsL, E.szL]
        have h1 := h a List.mem_cons_self acc
        have h2 := ihl (fun b hb => h b (List.mem_cons_of_mem _ hb)) (evs a acc)
        omega
    have h1 := this us ih (if k = 1 then un acc [n] else acc)
    have h2 : (if k = 1 then un acc [n] else acc).length ≤ acc.length + 1 := by
      split
      · exact un_one_len acc n
      · omega
    omega
/-- The step at a node. -/
def vstep (kind : Int) (x : E) (acc : List ByteArray) : List ByteArray := if x.kind = kind then un acc [x.name] else acc
theorem foG_evs : ∀ (e : E) (acc : List ByteArray), E.foG (vstep 1) e acc = evs e acc := by
  intro e
  induction e using E.ind with
  | h k n us ih =>
    intro acc
    rw [E.foG, evs]
    have : ∀ (l : List E), (∀ a ∈ l, ∀ acc, E.foG (vstep 1) a acc = evs a acc) → ∀ acc, E.foGL (vstep 1) l acc = evsL l acc := by
      intro l
      induction l with
      | nil => exact fun _ acc => rfl
      | cons a l ihl => exact fun h acc => by rw [E.foGL, evsL, h a List.mem_cons_self, ihl (fun b hb => h b (List.mem_cons_of_mem _ hb))]
    rw [this us ih]
    rfl

/-- impl.visit -/
theorem impl_visitW {τ : Type} (f : Nat) (st : E → τ → τ) (J : Nat → τ → List D → Prop) (hf : ∀ (x : E) (c : List T) (t : τ) (ds2 : List D) (b : Nat), x.rep c → J (b + 1) t ds2 → WCtr Try.prog f (fun _ vs2 => .agg (c.map .t) :: vs2.map V.cellp) [] ds2 (fun sh es1 es2 => sh = .unit ∧ es1 = [] ∧ J b (st x t) es2)) (e : E) (c : List T) (t : τ) (ds2 : List D) (b : Nat) (hc : e.rep c) (hJ : J (b + e.sz) t ds2) (hw : e.wt ≤ 1048576) : WCtr Try.prog 117 (fun _ vs2 => [.agg (c.map .t), .fn f (vs2.map V.cellp)]) [] ds2 (fun sh es1 es2 => sh = .unit ∧ es1 = [] ∧ J b (E.foG st e t) es2) := by
  have hc0 := hc
  induction e using E.ind generalizing c t ds2 b
  rename_i k nm us ih
  obtain ⟨g, cs, rfl, ha⟩ := E.rep_mk hc
  have hcl := E.repL_len ha
  rw [E.wt] at hw
  rw [E.sz] at hJ
  have hwl := E.wtL_len us
  intro σ0 vs1 vs2 hvl hT0
  obtain rfl := List.length_eq_zero_iff.1 hvl
  change TrL σ0 ds2 (List.range σ0.length) vs2 at hT0
  show Ctr _ _ [.agg [.t (.int .i64 k), .t (.str nm), .t (.sl g cs)], .fn f (vs2.map V.cellp)] σ0 _
  refine Ctr.of_vc (rs := []) (fn := Try.f117) mixed Try.func117 rfl rfl (by kernel_rfl) (by kernel_rfl) (by simp [Try.ntmps117]) (fun h0 => ?_)
  refine vc_seq fun K1 hK1 => ?_
  refine vc_reg ?_
  try simp (disch := omega) only [go_sem, ↓reduceIte, Nat.reduceEqDiff, reduceCtorEq, Nat.reduceAdd, Nat.reduceLeDiff, Nat.reduceMul, Int.reduceNeg, Int.reduceLT, Int.reduceAdd, Int.reduceSub, hcl]
  intro g0_0 hg0_0
  refine hK1 _ ?_
  refine vc_seq fun K2 hK2 => ?_
  have hT0b := hT0.more (.row g0_0 0 3 3 [[V.t (.int .i64 k), V.t (.str nm), V.t (.sl g cs)]])
  refine vc_reg ?_
  try simp (disch := omega) only [go_sem, ↓reduceIte, Nat.reduceEqDiff, reduceCtorEq, Nat.reduceAdd, Nat.reduceLeDiff, Nat.reduceMul, Int.reduceNeg, Int.reduceLT, Int.reduceAdd, Int.reduceSub, hcl, get_new]
  refine x_callW (vs1 := []) (vs2 := vs2) (S := List.range σ0.length) (hf (.mk k nm us) _ t ds2 (b + E.szL us) hc0 (by rw [Nat.add_assoc, Nat.add_comm _ 1]; exact hJ)) (by first | rfl | simp (disch := omega) only [go_sem, ↓reduceIte, Nat.reduceEqDiff, reduceCtorEq, Nat.reduceAdd, Nat.reduceLeDiff, Nat.reduceMul, Int.reduceNeg, Int.reduceLT, Int.reduceAdd, Int.reduceSub, hcl, get_new]) rfl hT0b ?_ ?_
  · (try simp (disch := omega) only [go_sem, ↓reduceIte, Nat.reduceEqDiff, reduceCtorEq, Nat.reduceAdd, Nat.reduceLeDiff, Nat.reduceMul, Int.reduceNeg, Int.reduceLT, Int.reduceAdd, Int.reduceSub, hcl, get_new])
    try simp only [List.map_append, List.map_cons, List.map_nil, List.cons_append, List.nil_append]
    rw [loc_cellp List.nodup_range hT0b (fun r hr => hr)]; rfl
  rintro sh es1 es2_ us1 S2_ σ2 h2 hl2 hT2 ⟨rfl, rfl, hJ2⟩ hS2 hk2 hlen2 hle2 hh2
  obtain rfl : us1 = [] := List.length_eq_zero_iff.1 hl2
  change TrL σ2 es2_ S2_ vs2 at hT2
  have hbox : σ2[σ0.length]? = some (.row g0_0 0 3 3 [[V.t (.int .i64 k), V.t (.str nm), V.t (.sl g cs)]]) := (hk2 _ (by simp) (by simp)).trans (get_new _ _)
  try simp (disch := omega) only [go_sem, ↓reduceIte, Nat.reduceEqDiff, reduceCtorEq, Nat.reduceAdd, Nat.reduceLeDiff, Nat.reduceMul, Int.reduceNeg, Int.reduceLT, Int.reduceAdd, Int.reduceSub, hcl, get_new]
  refine hK2 _ ?_
  refine vc_seq fun K3 hK3 => ?_
  refine vc_reg ?_
  try simp (disch := omega) only [go_sem, ↓reduceIte, Nat.reduceEqDiff, reduceCtorEq, Nat.reduceAdd, Nat.reduceLeDiff, Nat.reduceMul, Int.reduceNeg, Int.reduceLT, Int.reduceAdd, Int.reduceSub, hcl, hbox]
  refine hK3 _ ?_
  refine vc_block ?_
  refine vc_loop (fun m s => ∃ (n : Nat) (t1 : τ) (d1 : List D) (S1 : List Nat) (σ1 : List Ob), (m = us.length - n) ∧ (s.σ = σ1) ∧ (s.env 1 = .fn f (vs2.map V.cellp)) ∧ (s.env 10 = .t (.sl g cs)) ∧ (s.env 11 = .t (.int .i64 us.length)) ∧ (s.env 12 = .t (.int .i64 n)) ∧ (n ≤ us.length) ∧ (TrL σ1 d1 S1 vs2) ∧ (J (b + E.szL (us.drop n)) t1 d1) ∧ (E.foGL st (us.drop n) t1 = E.foG st (.mk k nm us) t) ∧ (σ0.length ≤ σ1.length) ∧ (∀ (r : Nat) (o : Ob), σ0[r]? = some o → ∃ o' : Ob, σ1[r]? = some o' ∧ o.le o')) (us.length - 0) ⟨0, st (.mk k nm us) t, es2_, S2_, _, rfl, (by first | rfl | simp), (by first | rfl | assumption | (simp (disch := omega) only [go_sem, ↓reduceIte, Nat.reduceEqDiff, reduceCtorEq, Nat.reduceAdd, Nat.reduceLeDiff, Nat.reduceMul, Int.reduceNeg, Int.reduceLT, Int.reduceAdd, Int.reduceSub, hcl])), (by first | rfl | assumption | (simp (disch := omega) only [go_sem, ↓reduceIte, Nat.reduceEqDiff, reduceCtorEq, Nat.reduceAdd, Nat.reduceLeDiff, Nat.reduceMul, Int.reduceNeg, Int.reduceLT, Int.reduceAdd, Int.reduceSub, hcl])), (by first | rfl | assumption | (simp (disch := omega) only [go_sem, ↓reduceIte, Nat.reduceEqDiff, reduceCtorEq, Nat.reduceAdd, Nat.reduceLeDiff, Nat.reduceMul, Int.reduceNeg, Int.reduceLT, Int.reduceAdd, Int.reduceSub, hcl])), (by first | rfl | assumption | (simp (disch := omega) only [go_sem, ↓reduceIte, Nat.reduceEqDiff, reduceCtorEq, Nat.reduceAdd, Nat.reduceLeDiff, Nat.reduceMul, Int.reduceNeg, Int.reduceLT, Int.reduceAdd, Int.reduceSub, hcl])), (by first | rfl | omega | simp), (by exact hT2), (by exact hJ2), (by rfl), (by show σ0.length ≤ σ2.length; simp only [List.length_append, List.length_cons, List.length_nil] at hlen2; omega), (by exact le_comp (more_le _ _) hle2)⟩ ?_
  rintro m ⟨e, σ, h⟩ ⟨n, t1, d1, S1, σ1, hm, hσ, e1, e10, e11, e12, hn, hT1, hJ1, ht1, hlen1, hle1⟩ K4 hK4
  simp only at hσ e1 e10 e11 e12
  subst hσ
  refine vc_seq fun K5 hK5 => ?_
  refine vc_reg ?_
  try simp (disch := omega) only [go_sem, ↓reduceIte, Nat.reduceEqDiff, reduceCtorEq, Nat.reduceAdd, Nat.reduceLeDiff, Nat.reduceMul, Int.reduceNeg, Int.reduceLT, Int.reduceAdd, Int.reduceSub, e1, e10, e11, e12, hcl]
  refine hK5 _ ?_
  refine vc_seq fun K6 hK6 => ?_
  refine vc_cond (t := _) (by first | rfl | (simp (disch := omega) only [go_sem, ↓reduceIte, Nat.reduceEqDiff, reduceCtorEq, Nat.reduceAdd, Nat.reduceLeDiff, Nat.reduceMul, Int.reduceNeg, Int.reduceLT, Int.reduceAdd, Int.reduceSub, e1, e10, e11, e12, hcl]; rfl)) (fun hc1 => ?_) (fun hc1 => ?_)
  · (try simp only [go_sem] at hc1)
    refine vc_skip ?_
    refine hK6 _ ?_
    refine vc_seq fun K7 hK7 => ?_
    refine vc_block ?_
    refine vc_seq fun K8 hK8 => ?_
    obtain ⟨c, hc, hrc⟩ := E.repL_get ha (n := n) (by omega)
    obtain ⟨gc, cc, rfl, hcc⟩ := E.rep_cells hrc
    refine vc_reg ?_
    try simp (disch := omega) only [go_sem, ↓reduceIte, Nat.reduceEqDiff, reduceCtorEq, Nat.reduceAdd, Nat.reduceLeDiff, Nat.reduceMul, Int.reduceNeg, Int.reduceLT, Int.reduceAdd, Int.reduceSub, e1, e10, e11, e12, hcl, hc, get_new, setV]
    intro g4_2 hg4_2
    refine hK8 _ ?_
    refine vc_reg ?_
    try simp (disch := omega) only [go_sem, ↓reduceIte, Nat.reduceEqDiff, reduceCtorEq, Nat.reduceAdd, Nat.reduceLeDiff, Nat.reduceMul, Int.reduceNeg, Int.reduceLT, Int.reduceAdd, Int.reduceSub, e1, e10, e11, e12, hcl, get_new]
    refine x_callW (vs1 := []) (vs2 := vs2) (S := S1) (ih _ (List.getElem_mem (show n < us.length by omega)) _ t1 d1 (b + E.szL (us.drop (n + 1))) hrc (by rw [Nat.add_assoc, Nat.add_comm _ us[n].sz, ← E.szL_drop (by omega)]; exact hJ1) (by have := E.wtL_mem (List.getElem_mem (show n < us.length by omega)); omega) hrc) (by first | rfl | simp (disch := omega) only [go_sem, ↓reduceIte, Nat.reduceEqDiff, reduceCtorEq, Nat.reduceAdd, Nat.reduceLeDiff, Nat.reduceMul, Int.reduceNeg, Int.reduceLT, Int.reduceAdd, Int.reduceSub, e1, e10, e11, e12, hcl, get_new]) rfl (hT1.more _) ?_ ?_
    · (try simp (disch := omega) only [go_sem, ↓reduceIte, Nat.reduceEqDiff, reduceCtorEq, Nat.reduceAdd, Nat.reduceLeDiff, Nat.reduceMul, Int.reduceNeg, Int.reduceLT, Int.reduceAdd, Int.reduceSub, e1, e10, e11, e12, hcl, get_new])
      try simp only [List.map_append, List.map_cons, List.map_nil, List.cons_append, List.nil_append, List.append_nil]
      rw [loc_fn_cellp hT1.nodup (hT1.more _) (fun r hr => hr)]; rfl
    rintro sh es1 es5 us1 S5 σ5 h5 hl5 hT5 ⟨rfl, rfl, hJ5⟩ hS5 hk5 hlen5 hle5 hh5
    obtain rfl : us1 = [] := List.length_eq_zero_iff.1 hl5
    change TrL σ5 es5 S5 vs2 at hT5
    try simp (disch := omega) only [go_sem, ↓reduceIte, Nat.reduceEqDiff, reduceCtorEq, Nat.reduceAdd, Nat.reduceLeDiff, Nat.reduceMul, Int.reduceNeg, Int.reduceLT, Int.reduceAdd, Int.reduceSub, e1, e10, e11, e12, hcl, get_new]
    refine hK7 _ ?_
    refine vc_reg ?_
    try simp (disch := omega) only [go_sem, ↓reduceIte, Nat.reduceEqDiff, reduceCtorEq, Nat.reduceAdd, Nat.reduceLeDiff, Nat.reduceMul, Int.reduceNeg, Int.reduceLT, Int.reduceAdd, Int.reduceSub, e1, e10, e11, e12, hcl]
    refine hK4 _ _ ?_ ⟨n + 1, E.foG st us[n] t1, es5, S5, _, rfl, (by first | rfl | simp), (by first | rfl | assumption | (simp (disch := omega) only [go_sem, ↓reduceIte, Nat.reduceEqDiff, reduceCtorEq, Nat.reduceAdd, Nat.reduceLeDiff, Nat.reduceMul, Int.reduceNeg, Int.reduceLT, Int.reduceAdd, Int.reduceSub, e1, e10, e11, e12, hcl])), (by first | rfl | assumption | (simp (disch := omega) only [go_sem, ↓reduceIte, Nat.reduceEqDiff, reduceCtorEq, Nat.reduceAdd, Nat.reduceLeDiff, Nat.reduceMul, Int.reduceNeg, Int.reduceLT, Int.reduceAdd, Int.reduceSub, e1, e10, e11, e12, hcl])), (by first | rfl | assumption | (simp (disch := omega) only [go_sem, ↓reduceIte, Nat.reduceEqDiff, reduceCtorEq, Nat.reduceAdd, Nat.reduceLeDiff, Nat.reduceMul, Int.reduceNeg, Int.reduceLT, Int.reduceAdd, Int.reduceSub, e1, e10, e11, e12, hcl])), (by first | rfl | assumption | (simp (disch := omega) only [go_sem, ↓reduceIte, Nat.reduceEqDiff, reduceCtorEq, Nat.reduceAdd, Nat.reduceLeDiff, Nat.reduceMul, Int.reduceNeg, Int.reduceLT, Int.reduceAdd, Int.reduceSub, e1, e10, e11, e12, hcl])), ?_, ?_, ?_, ?_, ?_, ?_⟩
    · omega
    · first | omega | assumption | rfl | simp_all
    · exact hT5
    · exact hJ5
    · rw [← ht1, E.foGL_drop (l := us) (n := n) (by omega)]
    · show σ0.length ≤ σ5.length; simp only [List.length_append, List.length_cons, List.length_nil] at hlen5; omega
    · exact le_comp hle1 (le_comp (more_le _ _) hle5)
  · (try simp only [go_sem] at hc1)
    refine vc_exit ?_
    rw [List.drop_of_length_le (by omega), E.foGL] at ht1
    rw [List.drop_of_length_le (by omega), E.szL, Nat.add_zero] at hJ1
    refine retW (h0 := h0) (Q := (fun sh es1 es2 => sh = .unit ∧ es1 = [] ∧ J b (E.foG st (.mk k nm us) t) es2)) .unit (us1 := []) (es1 := []) (es2 := d1) (vs2 := vs2) rfl rfl rfl hlen1 hT1 (fun u hu r hr => List.mem_range.1 (hT0.root u hu r hr)) ⟨rfl, rfl, by rw [← ht1]; exact hJ1⟩ hle1

theorem vstep_T {kind : Int} {x : E} {acc : List ByteArray} (h1 : x.kind = kind) (h2 : ix x.name 0 acc < 0) : vstep kind x acc = acc ++ [x.name] := by rw [vstep, if_pos h1, un_one, if_neg (by omega)]
theorem vstep_F {kind : Int} {x : E} {acc : List ByteArray} (h : x.kind ≠ kind ∨ 0 ≤ ix x.name 0 acc) : vstep kind x acc = acc := by
  rw [vstep]
  split
  · rename_i hk
    rcases h with h | h
    · exact absurd hk h
    · rw [un_one, if_pos h]
  · rfl
theorem Ds_app_one (xs : List ByteArray) (x : ByteArray) : Ds (xs ++ [x]) = Ds xs ++ [[D.t (.str x)]] := by rw [Ds_app]; rfl
/-- What the two cells hold: the kind, and the names so far. -/
def JN (kind : Int) (n : Nat) (acc : List ByteArray) (ds2 : List D) : Prop := ∃ g1 g2 d gd, ds2 = [.ow g1 1 [[.t (.int .i64 kind)]], .ow g2 1 [[d]]] ∧ d.er = .sl gd (Ts acc) ∧ d.grows 1 ∧ acc.length + n ≤ 4194304

/-- laws.markExpr -/
theorem laws_markExpr (e : E) (ds : List D) (k : Nat) (hd : e.rep (D.erL ds)) (hk : 0 < k ∧ k + 2 * E.szL e.args ≤ 2^60) (σ0 : List Ob) (vs : List V) (hT : TrL σ0 ds (List.range σ0.length) vs) : Ctr Try.prog 32 [Shp.agg.v vs, .t (.int .i64 k)] σ0 (fun _ _ r' σ' => r' = .t (.int .i64 ((k + 2 * E.szL e.args : Nat) : Int)) ∧ (∃ ds', TrL σ' ds' (List.range σ'.length) vs ∧ (fun ts => (E.mk e.kind e.name (E.mkL e.args k)).rep ts) (D.erL ds')) ∧ σ'.length = σ0.length ∧ (∀ (r : Nat) (o : Ob), σ0[r]? = some o → ∃ o' : Ob, σ'[r]? = some o' ∧ o.le o')) := by
  obtain ⟨d, v, g, cs, rfl, rfl, hTd, hEd, hRd⟩ := E.own_cells hT hd
  have hvl := hTd.leaf
  show Ctr _ _ [.agg [.t (.int .i64 e.kind), .t (.str e.name), v], .t (.int .i64 k)] σ0 _
  refine Ctr.of_vc (rs := [.tmp 4]) (fn := Try.f32) mixed Try.func32 rfl rfl (by kernel_rfl) (by kernel_rfl) (by simp [Try.ntmps32]) (fun h0 => ?_)
  refine vc_seq fun K1 hK1 => ?_
  refine vc_reg ?_
  try simp (disch := omega) only [go_sem, ↓reduceIte, Nat.reduceEqDiff, reduceCtorEq, Nat.reduceAdd, Nat.reduceLeDiff, Nat.reduceMul, Int.reduceNeg, Int.reduceLT, Int.reduceAdd, Int.reduceSub]
  intro g0_0 hg0_0
  refine hK1 _ ?_
  refine vc_seq fun K2 hK2 => ?_
  refine vc_reg ?_
  try simp (disch := omega) only [go_sem, ↓reduceIte, Nat.reduceEqDiff, reduceCtorEq, Nat.reduceAdd, Nat.reduceLeDiff, Nat.reduceMul, Int.reduceNeg, Int.reduceLT, Int.reduceAdd, Int.reduceSub, get_new]
  refine x_callM (laws_markExprS_M e.args d g cs k hEd hRd hk) (TrL_one (hTd.keep (fun r hr => get_old (hTd.lt r hr)))) (by first | rfl | simp (disch := omega) only [go_sem, ↓reduceIte, Nat.reduceEqDiff, reduceCtorEq, Nat.reduceAdd, Nat.reduceLeDiff, Nat.reduceMul, Int.reduceNeg, Int.reduceLT, Int.reduceAdd, Int.reduceSub, get_new]) (by first | rfl | simp (disch := omega) only [go_sem, ↓reduceIte, Nat.reduceEqDiff, reduceCtorEq, Nat.reduceAdd, Nat.reduceLeDiff, Nat.reduceMul, Int.reduceNeg, Int.reduceLT, Int.reduceAdd, Int.reduceSub, get_new]) ?_
  rintro ds3 σ3 h3 hT3 ⟨g3, c3, hE3, hR3⟩ hk3 hl3 hle3 hh3
  obtain ⟨d3, v3, rfl, hv3, hT3, hE3⟩ := hT3.er_one hE3
  obtain rfl : v = v3 := by simpa using hv3
  try simp (disch := omega) only [go_sem, ↓reduceIte, Nat.reduceEqDiff, reduceCtorEq, Nat.reduceAdd, Nat.reduceLeDiff, Nat.reduceMul, Int.reduceNeg, Int.reduceLT, Int.reduceAdd, Int.reduceSub, get_new]
  refine hK2 _ ?_
  refine vc_seq fun K3 hK3 => ?_
  refine vc_reg ?_
  try simp (disch := omega) only [go_sem, ↓reduceIte, Nat.reduceEqDiff, reduceCtorEq, Nat.reduceAdd, Nat.reduceLeDiff, Nat.reduceMul, Int.reduceNeg, Int.reduceLT, Int.reduceAdd, Int.reduceSub]
  refine hK3 _ ?_
  refine vc_ret ?_
  exact retM2 (h0 := h0) (Q' := (fun ts => (E.mk e.kind e.name (E.mkL e.args k)).rep ts)) (ds' := [.t (.int .i64 e.kind), .t (.str e.name), d3]) rfl rfl (by rw [hl3]; simp) (TrL_leaf Tr_int (TrL_leaf Tr_str (TrL_one hT3))) (E.rep_own hE3 hR3) (le_comp (more_le _ _) hle3)

theorem laws_markExpr_M (e : E) (ds : List D) (k : Nat) (hd : e.rep (D.erL ds)) (hk : 0 < k ∧ k + 2 * E.szL e.args ≤ 2^60) : MCtr Try.prog 32 .agg ds k ((k + 2 * E.szL e.args : Nat) : Int) (fun ts => (E.mk e.kind e.name (E.mkL e.args k)).rep ts) :=
  fun σ vs hT => laws_markExpr e ds k hd hk σ vs hT

/-- laws.heldExpr -/
theorem laws_heldExpr (e : E) (c : List T) (k : Nat) (hc : (E.mk e.kind e.name (E.mkL e.args k)).rep c) (hk : 0 < k ∧ k + 2 * E.szL e.args ≤ 2^60) : FCtr Try.prog 34 [.agg (c.map .t), .t (.int .i64 ((k : Nat) : Int))] (fun r => r = .t (.int .i64 ((k + 2 * E.szL e.args : Nat) : Int))) := by
  obtain ⟨g, cs, rfl, hcs⟩ := E.rep_mk hc
  refine Ctr.of_vc (rs := [.tmp 4]) (fn := Try.f34) mixed Try.func34 rfl rfl (by kernel_rfl) (by kernel_rfl) (by simp [Try.ntmps34]) (fun h0 => ?_)
  refine vc_seq fun K1 hK1 => ?_
  refine vc_reg ?_
  try simp (disch := omega) only [go_sem, ↓reduceIte, Nat.reduceEqDiff, reduceCtorEq, Nat.reduceAdd, Nat.reduceLeDiff, Nat.reduceMul, Int.reduceNeg, Int.reduceLT, Int.reduceAdd, Int.reduceSub]
  intro g0_0 hg0_0
  refine hK1 _ ?_
  refine vc_seq fun K2 hK2 => ?_
  refine vc_reg ?_
  try simp (disch := omega) only [go_sem, ↓reduceIte, Nat.reduceEqDiff, reduceCtorEq, Nat.reduceAdd, Nat.reduceLeDiff, Nat.reduceMul, Int.reduceNeg, Int.reduceLT, Int.reduceAdd, Int.reduceSub]
  refine vcX_call _ _ (laws_heldExprS e.args g k cs hcs hk) (by first | rfl | (simp (disch := omega) only [go_sem, ↓reduceIte, Nat.reduceEqDiff, reduceCtorEq, Nat.reduceAdd, Nat.reduceLeDiff, Nat.reduceMul, Int.reduceNeg, Int.reduceLT, Int.reduceAdd, Int.reduceSub])) (by first | rfl | (simp (disch := omega) only [go_sem, ↓reduceIte, Nat.reduceEqDiff, reduceCtorEq, Nat.reduceAdd, Nat.reduceLeDiff, Nat.reduceMul, Int.reduceNeg, Int.reduceLT, Int.reduceAdd, Int.reduceSub])) (by first | rfl | simp [V.pures, V.pure, V.pures_t]) ?_
  rintro r1_3 h1_3 hh1_3 rfl -
  try simp (disch := omega) only [go_sem, ↓reduceIte, Nat.reduceEqDiff, reduceCtorEq, Nat.reduceAdd, Nat.reduceLeDiff, Nat.reduceMul, Int.reduceNeg, Int.reduceLT, Int.reduceAdd, Int.reduceSub]
  refine hK2 _ ?_
  refine vc_seq fun K3 hK3 => ?_
  refine vc_seq fun K4 hK4 => ?_
  refine vc_reg ?_
  try simp (disch := omega) only [go_sem, ↓reduceIte, Nat.reduceEqDiff, reduceCtorEq, Nat.reduceAdd, Nat.reduceLeDiff, Nat.reduceMul, Int.reduceNeg, Int.reduceLT, Int.reduceAdd, Int.reduceSub]
  refine hK4 _ ?_
  refine vc_cond (t := _) (by first | rfl | (simp (disch := omega) only [go_sem, ↓reduceIte, Nat.reduceEqDiff, reduceCtorEq, Nat.reduceAdd, Nat.reduceLeDiff, Nat.reduceMul, Int.reduceNeg, Int.reduceLT, Int.reduceAdd, Int.reduceSub]; rfl)) (fun hc1 => ?_) (fun hc1 => ?_)
  · exact absurd hc1 (by first | (simp; done) | (simp; omega))
  · (try simp only [go_sem] at hc1)
    refine vc_skip ?_
    refine hK3 _ ?_
    refine vc_seq fun K5 hK5 => ?_
    refine vc_reg ?_
    try simp (disch := omega) only [go_sem, ↓reduceIte, Nat.reduceEqDiff, reduceCtorEq, Nat.reduceAdd, Nat.reduceLeDiff, Nat.reduceMul, Int.reduceNeg, Int.reduceLT, Int.reduceAdd, Int.reduceSub]
    refine hK5 _ ?_
    refine vc_ret ?_
    refine ⟨_, by first | rfl | (simp only [go_sem, resQ, List.mapM_cons, List.mapM_nil, ↓reduceIte, Nat.reduceEqDiff, Nat.reduceAdd, Nat.reduceLeDiff, reduceCtorEq]; rfl), [], [], .nil, by simp, by simp, fun hi_ h1_ => ⟨?_, rfl, rfl⟩, by simp⟩
    first | rfl | simp_all
end Go.Proofs.Ytlnfbkalpdicmaa
