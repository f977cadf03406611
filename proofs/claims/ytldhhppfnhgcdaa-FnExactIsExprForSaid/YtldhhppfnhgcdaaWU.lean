/- Walks through the code: each function's contract. -/
import Derived.Test.YtldhhppfnhgcdaaWS
import Derived.Test.YtldhhppfnhgcdaaWE
set_option linter.unusedVariables false
set_option linter.unusedSimpArgs false
set_option maxRecDepth 8000
namespace Go.Proofs.Ytldhhppfnhgcdaa
open Go Go.VL

/-- laws.toExprS -/
theorem laws_toExprS_o (g : Nat) (us : List E) (cs : List (List T)) (ha : E.repL us cs) (hl : us.length < 2^40) (ih : ∀ a ∈ us, ∀ (c : List T), a.rep c → OCtr Try.prog 15 [.agg (c.map .t)] (fun s ts => s = .agg ∧ a.rep ts)) : OCtr Try.prog 38 [.t (.sl g cs)] (fun s ts => s = .one ∧ ∃ g' cs', ts = [.sl g' cs'] ∧ E.repL us cs') := by
  have hcl := E.repL_len ha
  unfold OCtr
  refine Ctr.of_vc (rs := [.tmp 2]) (fn := Try.f38) mixed Try.func38 rfl rfl (by kernel_rfl) (by kernel_rfl) (by simp [Try.ntmps38]) (fun h0 => ?_)
  refine vc_seq fun K1 hK1 => ?_
  refine vc_reg ?_
  try simp (disch := omega) only [go_sem, ↓reduceIte, Nat.reduceEqDiff, reduceCtorEq, Nat.reduceAdd, Nat.reduceLeDiff, Nat.reduceMul, Int.reduceNeg, Int.reduceLT, Int.reduceAdd, Int.reduceSub, hcl, Int.toNat_natCast]
  refine hK1 _ ?_
  refine vc_seq fun K2 hK2 => ?_
  refine vc_reg ?_
  try simp (disch := omega) only [go_sem, ↓reduceIte, Nat.reduceEqDiff, reduceCtorEq, Nat.reduceAdd, Nat.reduceLeDiff, Nat.reduceMul, Int.reduceNeg, Int.reduceLT, Int.reduceAdd, Int.reduceSub, hcl, Int.toNat_natCast]
  refine ⟨by simp [mkOk]; omega, fun g1_2 hg1_2 => ?_⟩
  try simp (disch := omega) only [go_sem, ↓reduceIte, Nat.reduceEqDiff, reduceCtorEq, Nat.reduceAdd, Nat.reduceLeDiff, Nat.reduceMul, Int.reduceNeg, Int.reduceLT, Int.reduceAdd, Int.reduceSub, hcl, Int.toNat_natCast]
  refine hK2 _ ?_
  refine vc_seq fun K3 hK3 => ?_
  refine vc_seq fun K4 hK4 => ?_
  refine vc_reg ?_
  try simp (disch := omega) only [go_sem, ↓reduceIte, Nat.reduceEqDiff, reduceCtorEq, Nat.reduceAdd, Nat.reduceLeDiff, Nat.reduceMul, Int.reduceNeg, Int.reduceLT, Int.reduceAdd, Int.reduceSub, hcl, Int.toNat_natCast]
  refine hK4 _ ?_
  refine vc_block ?_
  refine vc_loop (fun m s => ∃ (n g' : Nat) (ds : List (List D)) (S : List Nat) (acc : List (List V)) (σ1 : List Ob), (m = us.length - n) ∧ (s.σ = σ1) ∧ (s.env 0 = .t (.sl g cs)) ∧ (s.env 3 = .own 0 0 0 us.length) ∧ (s.env 4 = .t (.int .i64 n)) ∧ (n ≤ us.length) ∧ (σ1[0]? = some (.row g' 0 3 (us.length * 3) (acc ++ List.replicate (us.length - n) [V.t (.int .i64 0), V.t (.str ⟨#[]⟩), V.nil0]))) ∧ (TrLL σ1 ds S acc) ∧ (0 ∉ S) ∧ (E.repL (us.take n) (D.erLL ds))) (us.length - 0) ⟨0, g1_2, [], [], [], _, rfl, (by first | rfl | simp), (by first | rfl | assumption | (simp (disch := omega) only [go_sem, ↓reduceIte, Nat.reduceEqDiff, reduceCtorEq, Nat.reduceAdd, Nat.reduceLeDiff, Nat.reduceMul, Int.reduceNeg, Int.reduceLT, Int.reduceAdd, Int.reduceSub, hcl, Int.toNat_natCast])), (by first | rfl | assumption | (simp (disch := omega) only [go_sem, ↓reduceIte, Nat.reduceEqDiff, reduceCtorEq, Nat.reduceAdd, Nat.reduceLeDiff, Nat.reduceMul, Int.reduceNeg, Int.reduceLT, Int.reduceAdd, Int.reduceSub, hcl, Int.toNat_natCast])), (by first | rfl | assumption | (simp (disch := omega) only [go_sem, ↓reduceIte, Nat.reduceEqDiff, reduceCtorEq, Nat.reduceAdd, Nat.reduceLeDiff, Nat.reduceMul, Int.reduceNeg, Int.reduceLT, Int.reduceAdd, Int.reduceSub, hcl, Int.toNat_natCast])), (by first | rfl | omega | simp), (by rfl), (by exact TrLL_nil), (by first | rfl | omega | simp), (by exact E.repL_nil)⟩ ?_
  rintro m ⟨e, σ, h⟩ ⟨n, g', ds, S, acc, σ1, hm, hσ, e0, e3, e4, hn, hrow, hT, h0S, hrep⟩ K5 hK5
  simp only at hσ e0 e3 e4
  subst hσ
  refine vc_seq fun K6 hK6 => ?_
  refine vc_seq fun K7 hK7 => ?_
  refine vc_reg ?_
  try simp (disch := omega) only [go_sem, ↓reduceIte, Nat.reduceEqDiff, reduceCtorEq, Nat.reduceAdd, Nat.reduceLeDiff, Nat.reduceMul, Int.reduceNeg, Int.reduceLT, Int.reduceAdd, Int.reduceSub, e0, e3, e4, hcl, Int.toNat_natCast]
  refine hK7 _ ?_
  refine vc_cond (t := _) (by first | rfl | (simp (disch := omega) only [go_sem, ↓reduceIte, Nat.reduceEqDiff, reduceCtorEq, Nat.reduceAdd, Nat.reduceLeDiff, Nat.reduceMul, Int.reduceNeg, Int.reduceLT, Int.reduceAdd, Int.reduceSub, e0, e3, e4, hcl, Int.toNat_natCast]; rfl)) (fun hc1 => ?_) (fun hc1 => ?_)
  · (try simp only [go_sem] at hc1)
    refine vc_skip ?_
    refine hK6 _ ?_
    refine vc_seq fun K8 hK8 => ?_
    refine vc_block ?_
    obtain ⟨c, hc, hrc⟩ := E.repL_get ha (n := n) (by omega)
    obtain ⟨gc, cc, rfl, hcc⟩ := E.rep_cells hrc
    have hlt0 := (List.getElem?_eq_some_iff.1 hrow).1
    have hal : acc.length = n := by have h1 := hT.len; have h2 := E.repL_len hrep; rw [D.erLL_len] at h2; simp at h2; omega
    have hget := fill_get acc (us.length - n) [V.t (.int .i64 0), V.t (.str ⟨#[]⟩), V.nil0] (by omega)
    have hset := fun v => fill_set acc (us.length - n) [V.t (.int .i64 0), V.t (.str ⟨#[]⟩), V.nil0] v (by omega)
    rw [hal] at hget
    simp only [hal] at hset
    have hsub : us.length - n - 1 = us.length - (n + 1) := by omega
    simp only [hsub] at hset
    refine vc_reg ?_
    try simp (disch := omega) only [go_sem, ↓reduceIte, Nat.reduceEqDiff, reduceCtorEq, Nat.reduceAdd, Nat.reduceLeDiff, Nat.reduceMul, Int.reduceNeg, Int.reduceLT, Int.reduceAdd, Int.reduceSub, e0, e3, e4, hcl, Int.toNat_natCast, hc, show n < us.length by omega]
    refine x_callO (caps := []) [] [.agg (List.map V.t [.int .i64 us[n].kind, .str us[n].name, .sl gc cc])] _ (ih _ (List.getElem_mem (show n < us.length by omega)) _ hrc) (by first | rfl | simp (disch := omega) only [go_sem, ↓reduceIte, Nat.reduceEqDiff, reduceCtorEq, Nat.reduceAdd, Nat.reduceLeDiff, Nat.reduceMul, Int.reduceNeg, Int.reduceLT, Int.reduceAdd, Int.reduceSub, e0, e3, e4, hcl, Int.toNat_natCast, hc, show n < us.length by omega]) ?_ ?_
    · exact Subs.of_eq (by first | rfl | simp (disch := omega) only [go_sem, ↓reduceIte, Nat.reduceEqDiff, reduceCtorEq, Nat.reduceAdd, Nat.reduceLeDiff, Nat.reduceMul, Int.reduceNeg, Int.reduceLT, Int.reduceAdd, Int.reduceSub, e0, e3, e4, hcl, Int.toNat_natCast, hc, show n < us.length by omega])
    rintro s d5 v5 S5 σ5 h5 ⟨rfl, hE5⟩ hT5 hk5 hS5 hl5 hh5
    obtain ⟨dd, vv, gg, ccs, rfl, rfl, hTd, hEd, hRd⟩ := E.own_cells hT5 hE5
    have hrow5 := (hk5 0 hlt0).trans hrow
    have hvl := hTd.leaf
    try simp (disch := omega) only [go_sem, ↓reduceIte, Nat.reduceEqDiff, reduceCtorEq, Nat.reduceAdd, Nat.reduceLeDiff, Nat.reduceMul, Int.reduceNeg, Int.reduceLT, Int.reduceAdd, Int.reduceSub, e0, e3, e4, hcl, Int.toNat_natCast, hrow5, hget, hset, show n < us.length by omega, setV, hvl, List.all_cons, List.all_nil, Bool.and_true, Bool.and_self]
    refine hK8 _ ?_
    refine vc_reg ?_
    try simp (disch := omega) only [go_sem, ↓reduceIte, Nat.reduceEqDiff, reduceCtorEq, Nat.reduceAdd, Nat.reduceLeDiff, Nat.reduceMul, Int.reduceNeg, Int.reduceLT, Int.reduceAdd, Int.reduceSub, e0, e3, e4, hcl, Int.toNat_natCast]
    have h0S5 : 0 ∉ S5 := fun hx => by have := hS5 0 hx; omega
    refine hK5 _ _ ?_ ⟨n + 1, g', ds ++ [[.t (.int .i64 us[n].kind), .t (.str us[n].name), dd]], S ++ S5, acc ++ [[.t (.int .i64 us[n].kind), .t (.str us[n].name), vv]], _, rfl, (by first | rfl | simp), (by first | rfl | assumption | (simp (disch := omega) only [go_sem, ↓reduceIte, Nat.reduceEqDiff, reduceCtorEq, Nat.reduceAdd, Nat.reduceLeDiff, Nat.reduceMul, Int.reduceNeg, Int.reduceLT, Int.reduceAdd, Int.reduceSub, e0, e3, e4, hcl, Int.toNat_natCast])), (by first | rfl | assumption | (simp (disch := omega) only [go_sem, ↓reduceIte, Nat.reduceEqDiff, reduceCtorEq, Nat.reduceAdd, Nat.reduceLeDiff, Nat.reduceMul, Int.reduceNeg, Int.reduceLT, Int.reduceAdd, Int.reduceSub, e0, e3, e4, hcl, Int.toNat_natCast])), (by first | rfl | assumption | (simp (disch := omega) only [go_sem, ↓reduceIte, Nat.reduceEqDiff, reduceCtorEq, Nat.reduceAdd, Nat.reduceLeDiff, Nat.reduceMul, Int.reduceNeg, Int.reduceLT, Int.reduceAdd, Int.reduceSub, e0, e3, e4, hcl, Int.toNat_natCast])), ?_, ?_, ?_, ?_, ?_⟩
    · omega
    · first | omega | assumption | rfl | simp_all
    · exact List.getElem?_set_self (by omega)
    · exact ((hT.keep (fun r hr => hk5 r (hT.lt r hr))).app (TrLL_one hT5) (fun r hr hx => by have h1 := hT.lt r hr; have h2 := hS5 r hx; omega)).keep (fun r hr => List.getElem?_set_ne (fun he => by subst he; exact (List.mem_append.1 hr).elim h0S h0S5))
    · exact fun hx => (List.mem_append.1 hx).elim h0S h0S5
    · rw [List.take_add_one, List.getElem?_eq_getElem (by omega), D.erLL_app]; exact E.repL_append hrep (E.repL_one hE5)
  · (try simp only [go_sem] at hc1)
    refine vc_exit ?_
    refine hK3 _ ?_
    refine vc_seq fun K9 hK9 => ?_
    refine vc_reg ?_
    try simp (disch := omega) only [go_sem, ↓reduceIte, Nat.reduceEqDiff, reduceCtorEq, Nat.reduceAdd, Nat.reduceLeDiff, Nat.reduceMul, Int.reduceNeg, Int.reduceLT, Int.reduceAdd, Int.reduceSub, e0, e3, e4, hcl, Int.toNat_natCast]
    refine hK9 _ ?_
    refine vc_ret ?_
    have hfin : acc ++ List.replicate (us.length - n) [V.t (.int .i64 0), V.t (.str ⟨#[]⟩), V.nil0] = acc := by rw [show us.length - n = 0 by omega]; simp
    rw [hfin] at hrow
    rw [List.take_of_length_le (by omega)] at hrep
    have hlen : acc.length = us.length := by have h1 := hT.len; have h2 := E.repL_len hrep; rw [D.erLL_len] at h2; omega
    refine retO (h0 := h0) (Q := (fun s ts => s = .one ∧ ∃ g' cs', ts = [.sl g' cs'] ∧ E.repL us cs')) .one (ds := [.ow g' 3 ds]) (S := 0 :: S) (ws := [.own 0 0 0 us.length]) rfl rfl trivial (TrL_one ?_) ⟨rfl, g', D.erLL ds, by rw [D.erL, D.erL, D.er], hrep⟩
    rw [Tr]
    exact ⟨0, 0, _, acc, S, rfl, h0S, by rw [hlen], hrow, hT, hT.lens (E.repL_all hrep)⟩

/-- laws.toExpr -/
theorem laws_toExpr_o (e : E) (c : List T) (hc : e.rep c) (hw : e.wt < 2^40) : OCtr Try.prog 15 [.agg (c.map .t)] (fun s ts => s = .agg ∧ e.rep ts) := by
  induction e using E.ind generalizing c
  rename_i k nm us ih
  obtain ⟨g, cs, rfl, hcs⟩ := E.rep_mk hc
  rw [E.wt] at hw
  have hwl := E.wtL_len us
  unfold OCtr
  refine Ctr.of_vc (rs := [.cell 2 40]) (fn := Try.f15) mixed Try.func15 rfl rfl (by kernel_rfl) (by kernel_rfl) (by simp [Try.ntmps15]) (fun h0 => ?_)
  refine vc_seq fun K1 hK1 => ?_
  refine vc_reg ?_
  try simp (disch := omega) only [go_sem, ↓reduceIte, Nat.reduceEqDiff, reduceCtorEq, Nat.reduceAdd, Nat.reduceLeDiff, Nat.reduceMul, Int.reduceNeg, Int.reduceLT, Int.reduceAdd, Int.reduceSub]
  intro g0_0 hg0_0
  intro g0_1 hg0_1
  refine hK1 _ ?_
  refine vc_seq fun K2 hK2 => ?_
  refine vc_reg ?_
  try simp (disch := omega) only [go_sem, ↓reduceIte, Nat.reduceEqDiff, reduceCtorEq, Nat.reduceAdd, Nat.reduceLeDiff, Nat.reduceMul, Int.reduceNeg, Int.reduceLT, Int.reduceAdd, Int.reduceSub]
  intro g1_0 hg1_0
  refine hK2 _ ?_
  refine vc_seq fun K3 hK3 => ?_
  refine vc_reg ?_
  try simp (disch := omega) only [go_sem, ↓reduceIte, Nat.reduceEqDiff, reduceCtorEq, Nat.reduceAdd, Nat.reduceLeDiff, Nat.reduceMul, Int.reduceNeg, Int.reduceLT, Int.reduceAdd, Int.reduceSub]
  refine hK3 _ ?_
  refine vc_seq fun K4 hK4 => ?_
  refine vc_reg ?_
  try simp (disch := omega) only [go_sem, ↓reduceIte, Nat.reduceEqDiff, reduceCtorEq, Nat.reduceAdd, Nat.reduceLeDiff, Nat.reduceMul, Int.reduceNeg, Int.reduceLT, Int.reduceAdd, Int.reduceSub]
  refine hK4 _ ?_
  refine vc_seq fun K5 hK5 => ?_
  refine vc_reg ?_
  try simp (disch := omega) only [go_sem, ↓reduceIte, Nat.reduceEqDiff, reduceCtorEq, Nat.reduceAdd, Nat.reduceLeDiff, Nat.reduceMul, Int.reduceNeg, Int.reduceLT, Int.reduceAdd, Int.reduceSub]
  refine x_callO (caps := []) [] [.t (.sl g cs)] _ (laws_toExprS_o g us cs hcs (by omega) (fun a ha c h1 => ih a ha c h1 (by have := E.wtL_mem ha; omega))) (by first | rfl | simp (disch := omega) only [go_sem, ↓reduceIte, Nat.reduceEqDiff, reduceCtorEq, Nat.reduceAdd, Nat.reduceLeDiff, Nat.reduceMul, Int.reduceNeg, Int.reduceLT, Int.reduceAdd, Int.reduceSub]) ?_ ?_
  · exact Subs.of_eq (by first | rfl | simp (disch := omega) only [go_sem, ↓reduceIte, Nat.reduceEqDiff, reduceCtorEq, Nat.reduceAdd, Nat.reduceLeDiff, Nat.reduceMul, Int.reduceNeg, Int.reduceLT, Int.reduceAdd, Int.reduceSub])
  rintro s ds4 vs4 S4 σ4 h4 ⟨rfl, g4, cs4, hE4, hR4⟩ hT4 hk4 hS4 hl4 hh4
  obtain ⟨d4, v4, rfl, rfl, hT4, hE4⟩ := hT4.er_one hE4
  have k0 : σ4[0]? = some _ := hk4 0 (by simp)
  have k1 : σ4[1]? = some _ := hk4 1 (by simp)
  have k2 : σ4[2]? = some _ := hk4 2 (by simp)
  have hvl := hT4.leaf
  have hsl_ := solid_of hvl
  have hcl_ := cells_of hvl
  have hl3 : 3 ≤ σ4.length := hl4
  have hl2 : 2 < σ4.length := by omega
  have hl1 : 1 < σ4.length := by omega
  have hS3 : ∀ r ∈ S4, 3 ≤ r := hS4
  try simp (disch := omega) only [go_sem, ↓reduceIte, Nat.reduceEqDiff, reduceCtorEq, Nat.reduceAdd, Nat.reduceLeDiff, Nat.reduceMul, Int.reduceNeg, Int.reduceLT, Int.reduceAdd, Int.reduceSub, hsl_, hcl_, k2, List.getElem?_set, hl2, setV, hvl, List.all_cons, List.all_nil, Bool.and_true, Bool.and_self]
  refine hK5 _ ?_
  refine vc_seq fun K6 hK6 => ?_
  refine vc_reg ?_
  try simp (disch := omega) only [go_sem, ↓reduceIte, Nat.reduceEqDiff, reduceCtorEq, Nat.reduceAdd, Nat.reduceLeDiff, Nat.reduceMul, Int.reduceNeg, Int.reduceLT, Int.reduceAdd, Int.reduceSub, k1, k2, List.getElem?_set, hl2, hl1, List.length_set, Nat.reduceEqDiff, setV, hvl, List.all_cons, List.all_nil, Bool.and_true, Bool.and_self]
  refine hK6 _ ?_
  refine vc_ret ?_
  refine retO (h0 := h0) (Q := (fun s ts => s = .agg ∧ (E.mk k nm us).rep ts)) .agg (ds := [.t (.int .i64 k), .t (.str nm), d4]) (S := S4) (ws := [.t (.int .i64 k), .t (.str nm), v4]) (vs := [.agg [.t (.int .i64 k), .t (.str nm), v4]]) ?_ rfl trivial (TrL_leaf Tr_int (TrL_leaf Tr_str (TrL_one (hT4.keep (fun r hr => by have := hS3 r hr; rw [List.getElem?_set_ne (by omega), List.getElem?_set_ne (by omega)]))))) ⟨rfl, E.rep_own hE4 hR4⟩
  simp (disch := omega) only [go_sem, resQ, List.mapM_cons, List.mapM_nil, k1, k2, List.getElem?_set, hl2, hl1, List.length_set, Nat.reduceEqDiff, ↓reduceIte, reduceCtorEq, Nat.reduceAdd, Nat.reduceLeDiff, setV]
  rfl

end Go.Proofs.Ytldhhppfnhgcdaa
namespace Go.VL
mutual
/-- A term whose places are marked from k on. -/
def E.mk_ : E → Nat → E
  | .mk _ _ us, k => .mk k (mtx (k + 1)) (E.mkL us (k + 2))
def E.mkL : List E → Nat → List E
  | [], _ => []
  | e :: l, k => E.mk_ e k :: E.mkL l (k + 2 * e.sz)
end
theorem E.mkL_len : ∀ (l : List E) (k : Nat), (E.mkL l k).length = l.length
  | [], _ => rfl
  | e :: l, k => by rw [E.mkL, List.length_cons, E.mkL_len l, List.length_cons]
theorem E.mkL_app : ∀ (l l' : List E) (k : Nat), E.mkL (l ++ l') k = E.mkL l k ++ E.mkL l' (k + 2 * E.szL l)
  | [], l', k => rfl
  | e :: l, l', k => by
    rw [List.cons_append, E.mkL, E.mkL_app l l', E.mkL, E.szL, List.cons_append]
    congr 3
    omega
theorem E.szL_app : ∀ (l l' : List E), E.szL (l ++ l') = E.szL l + E.szL l'
  | [], l' => by rw [List.nil_append, E.szL, Nat.zero_add]
  | e :: l, l' => by rw [List.cons_append, E.szL, E.szL_app l l', E.szL]; omega
theorem E.szL_take {l : List E} {n : Nat} (h : n < l.length) : E.szL (l.take (n + 1)) = E.szL (l.take n) + l[n].sz := by
  rw [List.take_add_one, List.getElem?_eq_getElem h, E.szL_app]; simp [E.szL]
theorem E.szL_le {l : List E} (n : Nat) : E.szL (l.take n) ≤ E.szL l := by
  have : E.szL l = E.szL (l.take n) + E.szL (l.drop n) := by rw [← E.szL_app, List.take_append_drop]
  omega
theorem E.len_szL : ∀ l : List E, l.length ≤ E.szL l
  | [] => Nat.zero_le _
  | e :: l => by have := E.len_szL l; cases e; rw [List.length_cons, E.szL, E.sz]; omega
theorem E.sz_args (e : E) : e.sz = 1 + E.szL e.args := by cases e; rw [E.sz]; rfl
theorem E.mk_eq (e : E) (k : Nat) : E.mk_ e k = .mk k (mtx (k + 1)) (E.mkL e.args (k + 2)) := by cases e; rw [E.mk_]; rfl
theorem E.mkL_set {us : List E} {n k : Nat} (h : n < us.length) : (E.mkL (us.take n) k ++ us.drop n).set n (E.mk_ us[n] (k + 2 * E.szL (us.take n))) = E.mkL (us.take (n + 1)) k ++ us.drop (n + 1) := by
  have hl : (E.mkL (us.take n) k).length = n := by rw [E.mkL_len, List.length_take]; omega
  rw [drop_get h, List.set_append_right _ _ (by omega), hl, Nat.sub_self, List.take_add_one, List.getElem?_eq_getElem h, E.mkL_app, List.set_cons_zero, List.append_assoc]
  rfl
theorem E.mkL_at {us : List E} {n k : Nat} (h : n < us.length) : (E.mkL (us.take n) k ++ us.drop n)[n]? = some us[n] := by
  have hl : (E.mkL (us.take n) k).length = n := by rw [E.mkL_len, List.length_take]; omega
  rw [List.getElem?_append_right (by omega), hl, Nat.sub_self, List.getElem?_drop, Nat.add_zero, List.getElem?_eq_getElem h]
theorem E.mkL_get {us : List E} {n k : Nat} (h : n < us.length) : (E.mkL us k)[n]? = some (E.mk_ us[n] (k + 2 * E.szL (us.take n))) := by
  have h1 := List.take_append_drop n us
  have hl : (E.mkL (us.take n) k).length = n := by rw [E.mkL_len, List.length_take]; omega
  have h2 : E.mkL us k = E.mkL (us.take n ++ us.drop n) k := by rw [h1]
  rw [h2, E.mkL_app, List.getElem?_append_right (by omega), hl, Nat.sub_self, drop_get h, E.mkL]
  simp
theorem E.repL_at {l : List E} {cs : List (List T)} {n : Nat} {a : E} {c : List T} (h : E.repL l cs) (ha : l[n]? = some a) (hc : cs[n]? = some c) : a.rep c := by
  have hn := (List.getElem?_eq_some_iff.1 ha).1
  obtain ⟨c', h1, h2⟩ := E.repL_get h hn
  rw [h1] at hc
  injection hc with hc
  rw [List.getElem?_eq_getElem hn] at ha
  injection ha with ha
  rw [← hc, ← ha]; exact h2
end Go.VL
namespace Go.Proofs.Ytldhhppfnhgcdaa
open Go Go.VL

/-- laws.markExprS -/
theorem laws_markExprS_r (us : List E) (k g : Nat) (ds : List (List D)) (σ : List Ob) (r ver mm : Nat) (es : List (List V)) (S' : List Nat) (hS : List.range σ.length = r :: S') (hr : r ∉ S') (hrow : σ[r]? = some (.row g ver 3 mm es)) (hT : TrLL σ ds S' es) (hz : ∀ e ∈ es, e.length = 3) (hrep : E.repL us (D.erLL ds)) (hk : 0 < k ∧ k + 2 * E.szL us ≤ 2^60) (ih : ∀ a ∈ us, ∀ (d : D) (g : Nat) (cs : List (List T)) (k : Nat), d.er = .sl g cs → E.repL a.args cs → 0 < k ∧ k + 2 * E.szL a.args ≤ 2^60 → MCtr Try.prog 52 .one [d] k ((k + 2 * E.szL a.args : Nat) : Int) (fun ts => ∃ g cs, ts = [.sl g cs] ∧ E.repL (E.mkL a.args k) cs)) : Ctr Try.prog 52 [.own r ver 0 es.length, .t (.int .i64 k)] σ (fun _ _ r' σ' => r' = .t (.int .i64 ((k + 2 * E.szL us : Nat) : Int)) ∧ (∃ ds', TrL σ' ds' (List.range σ'.length) [V.own r ver 0 es.length] ∧ (fun ts => ∃ g cs, ts = [.sl g cs] ∧ E.repL (E.mkL us k) cs) (D.erL ds')) ∧ σ'.length = σ.length ∧ (∀ (r : Nat) (o : Ob), σ[r]? = some o → ∃ o' : Ob, σ'[r]? = some o' ∧ o.le o')) := by
  have hlb := E.len_szL us
  have hlen : es.length = us.length := by have h1 := hT.len; have h2 := E.repL_len hrep; rw [D.erLL_len] at h2; omega
  refine Ctr.of_vc (rs := [.tmp 4]) (fn := Try.f52) mixed Try.func52 rfl rfl (by kernel_rfl) (by kernel_rfl) (by simp [Try.ntmps52]) (fun h0 => ?_)
  refine vc_seq fun K1 hK1 => ?_
  refine vc_reg ?_
  try simp (disch := omega) only [go_sem, ↓reduceIte, Nat.reduceEqDiff, reduceCtorEq, Nat.reduceAdd, Nat.reduceLeDiff, Nat.reduceMul, Int.reduceNeg, Int.reduceLT, Int.reduceAdd, Int.reduceSub]
  refine hK1 _ ?_
  refine vc_seq fun K2 hK2 => ?_
  refine vc_seq fun K3 hK3 => ?_
  refine vc_reg ?_
  try simp (disch := omega) only [go_sem, ↓reduceIte, Nat.reduceEqDiff, reduceCtorEq, Nat.reduceAdd, Nat.reduceLeDiff, Nat.reduceMul, Int.reduceNeg, Int.reduceLT, Int.reduceAdd, Int.reduceSub]
  refine hK3 _ ?_
  refine vc_block ?_
  refine vc_loop (fun m s => ∃ (n : Nat) (dn : List (List D)) (en : List (List V)) (σ1 : List Ob), (m = us.length - n) ∧ (s.σ = σ1) ∧ (s.env 0 = .own r ver 0 es.length) ∧ (s.env 1 = .t (.int .i64 ((k + 2 * E.szL (us.take n) : Nat) : Int))) ∧ (s.env 5 = .t (.int .i64 n)) ∧ (n ≤ us.length) ∧ (σ1[r]? = some (.row g ver 3 mm en)) ∧ (en.length = es.length) ∧ (TrLL σ1 dn S' en) ∧ (E.repL (E.mkL (us.take n) k ++ us.drop n) (D.erLL dn)) ∧ (σ1.length = σ.length) ∧ (∀ (q : Nat) (o : Ob), σ[q]? = some o → ∃ o' : Ob, σ1[q]? = some o' ∧ o.le o') ∧ (∀ e ∈ en, e.length = 3)) (us.length - 0) ⟨0, ds, es, _, rfl, (by first | rfl | simp), (by first | rfl | assumption | (simp (disch := omega) only [go_sem, ↓reduceIte, Nat.reduceEqDiff, reduceCtorEq, Nat.reduceAdd, Nat.reduceLeDiff, Nat.reduceMul, Int.reduceNeg, Int.reduceLT, Int.reduceAdd, Int.reduceSub])), (by first | rfl | assumption | (simp (disch := omega) only [go_sem, ↓reduceIte, Nat.reduceEqDiff, reduceCtorEq, Nat.reduceAdd, Nat.reduceLeDiff, Nat.reduceMul, Int.reduceNeg, Int.reduceLT, Int.reduceAdd, Int.reduceSub])), (by first | rfl | assumption | (simp (disch := omega) only [go_sem, ↓reduceIte, Nat.reduceEqDiff, reduceCtorEq, Nat.reduceAdd, Nat.reduceLeDiff, Nat.reduceMul, Int.reduceNeg, Int.reduceLT, Int.reduceAdd, Int.reduceSub])), (by first | rfl | omega | simp), (by exact hrow), (by first | rfl | omega | simp), (by exact hT), (by exact hrep), (by first | rfl | omega | simp), (by exact le_self σ), (by exact hz)⟩ ?_
  rintro m ⟨e, σ, h⟩ ⟨n, dn, en, σ1, hm, hσ, e0, e1, e5, hn, hrow1, hel, hT1, hrep1, hl1, hle1, hz1⟩ K4 hK4
  simp only at hσ e0 e1 e5
  subst hσ
  refine vc_seq fun K5 hK5 => ?_
  refine vc_seq fun K6 hK6 => ?_
  refine vc_reg ?_
  try simp (disch := omega) only [go_sem, ↓reduceIte, Nat.reduceEqDiff, reduceCtorEq, Nat.reduceAdd, Nat.reduceLeDiff, Nat.reduceMul, Int.reduceNeg, Int.reduceLT, Int.reduceAdd, Int.reduceSub, e0, e1, e5, hrow1, hlen]
  refine hK6 _ ?_
  refine vc_cond (t := _) (by first | rfl | (simp (disch := omega) only [go_sem, ↓reduceIte, Nat.reduceEqDiff, reduceCtorEq, Nat.reduceAdd, Nat.reduceLeDiff, Nat.reduceMul, Int.reduceNeg, Int.reduceLT, Int.reduceAdd, Int.reduceSub, e0, e1, e5]; rfl)) (fun hc1 => ?_) (fun hc1 => ?_)
  · (try simp only [go_sem] at hc1)
    refine vc_skip ?_
    refine hK5 _ ?_
    refine vc_seq fun K7 hK7 => ?_
    refine vc_block ?_
    refine vc_seq fun K8 hK8 => ?_
    have hlt : n < us.length := by omega
    have hln : n < es.length := by omega
    have hdl : dn.length = us.length := by have h1 := hT1.len; omega
    obtain ⟨cn, Sn, hgn, hSn, hTn, hfoc⟩ := hT1.focus (n := n) (by omega)
    have hrn := E.repL_at hrep1 (E.mkL_at hlt) (D.erLL_get (l := dn) (n := n) (by omega))
    obtain ⟨d2, v2, g2, c2, hdn, rfl, hT2, hE2, hR2⟩ := E.own_cells hTn hrn
    have hrl := (List.getElem?_eq_some_iff.1 hrow1).1
    have hnl : n < en.length := by omega
    have hrS : r ∉ Sn := fun hx => hr (hSn r hx)
    have hKb := E.szL_le (l := us) (n + 1)
    rw [E.szL_take hlt, E.sz_args] at hKb
    have hKn : k + 2 * E.szL (us.take n) + 2 + 2 * E.szL us[n].args = k + 2 * E.szL (us.take (n + 1)) := by rw [E.szL_take hlt, E.sz_args]; omega
    have hvl := hT2.leaf
    refine vc_reg ?_
    try simp (disch := omega) only [go_sem, ↓reduceIte, Nat.reduceEqDiff, reduceCtorEq, Nat.reduceAdd, Nat.reduceLeDiff, Nat.reduceMul, Int.reduceNeg, Int.reduceLT, Int.reduceAdd, Int.reduceSub, e0, e1, e5, hrow1, hgn, hln, setV, hvl, List.all_cons, List.all_nil, Bool.and_true, Bool.and_self]
    refine hK8 _ ?_
    refine vc_seq fun K9 hK9 => ?_
    refine vc_reg ?_
    try simp (disch := omega) only [go_sem, ↓reduceIte, Nat.reduceEqDiff, reduceCtorEq, Nat.reduceAdd, Nat.reduceLeDiff, Nat.reduceMul, Int.reduceNeg, Int.reduceLT, Int.reduceAdd, Int.reduceSub, e0, e1, e5, w64 (show -9223372036854775808 ≤ (((k + 2 * E.szL (us.take n) : Nat) : Int)) + 1 ∧ (((k + 2 * E.szL (us.take n) : Nat) : Int)) + 1 ≤ 9223372036854775807 by omega), show (((k + 2 * E.szL (us.take n) : Nat) : Int)) + 1 = ((k + 2 * E.szL (us.take n) + 1 : Nat) : Int) by omega]
    refine hK9 _ ?_
    refine vc_seq fun K10 hK10 => ?_
    have hrow2 : (σ.set r (.row g ver 3 mm (en.set n [V.t (.int .i64 ((k + 2 * E.szL (us.take n) : Nat) : Int)), V.t (.str us[n].name), v2])))[r]? = some (.row g ver 3 mm (en.set n [V.t (.int .i64 ((k + 2 * E.szL (us.take n) : Nat) : Int)), V.t (.str us[n].name), v2])) := List.getElem?_set_self hrl
    have hgn2 : (en.set n [V.t (.int .i64 ((k + 2 * E.szL (us.take n) : Nat) : Int)), V.t (.str us[n].name), v2])[n]? = some [V.t (.int .i64 ((k + 2 * E.szL (us.take n) : Nat) : Int)), V.t (.str us[n].name), v2] := List.getElem?_set_self hnl
    have hrow3 : (σ.set r (.row g ver 3 mm (en.set n [V.t (.int .i64 ((k + 2 * E.szL (us.take n) : Nat) : Int)), V.t (.str (mtx (k + 2 * E.szL (us.take n) + 1))), v2])))[r]? = some (.row g ver 3 mm (en.set n [V.t (.int .i64 ((k + 2 * E.szL (us.take n) : Nat) : Int)), V.t (.str (mtx (k + 2 * E.szL (us.take n) + 1))), v2])) := List.getElem?_set_self hrl
    have hgn3 : (en.set n [V.t (.int .i64 ((k + 2 * E.szL (us.take n) : Nat) : Int)), V.t (.str (mtx (k + 2 * E.szL (us.take n) + 1))), v2])[n]? = some [V.t (.int .i64 ((k + 2 * E.szL (us.take n) : Nat) : Int)), V.t (.str (mtx (k + 2 * E.szL (us.take n) + 1))), v2] := List.getElem?_set_self hnl
    refine vc_reg ?_
    try simp (disch := omega) only [go_sem, ↓reduceIte, Nat.reduceEqDiff, reduceCtorEq, Nat.reduceAdd, Nat.reduceLeDiff, Nat.reduceMul, Int.reduceNeg, Int.reduceLT, Int.reduceAdd, Int.reduceSub, e0, e1, e5, hln]
    refine vcX_call _ _ (laws_markText (k + 2 * E.szL (us.take n) + 1) (by omega)) (by first | rfl | (simp (disch := omega) only [go_sem, ↓reduceIte, Nat.reduceEqDiff, reduceCtorEq, Nat.reduceAdd, Nat.reduceLeDiff, Nat.reduceMul, Int.reduceNeg, Int.reduceLT, Int.reduceAdd, Int.reduceSub, e0, e1, e5, hln])) (by first | rfl | (simp (disch := omega) only [go_sem, ↓reduceIte, Nat.reduceEqDiff, reduceCtorEq, Nat.reduceAdd, Nat.reduceLeDiff, Nat.reduceMul, Int.reduceNeg, Int.reduceLT, Int.reduceAdd, Int.reduceSub, e0, e1, e5, hln])) (by first | rfl | simp [V.pures, V.pure, V.pures_t]) ?_
    rintro r6_3 h6_3 hh6_3 rfl -
    try simp (disch := omega) only [go_sem, ↓reduceIte, Nat.reduceEqDiff, reduceCtorEq, Nat.reduceAdd, Nat.reduceLeDiff, Nat.reduceMul, Int.reduceNeg, Int.reduceLT, Int.reduceAdd, Int.reduceSub, e0, e1, e5, hrow2, hgn2, hln, List.set_set, setV, hvl, List.all_cons, List.all_nil, Bool.and_true, Bool.and_self]
    refine hK10 _ ?_
    refine vc_seq fun K11 hK11 => ?_
    refine vc_reg ?_
    try simp (disch := omega) only [go_sem, ↓reduceIte, Nat.reduceEqDiff, reduceCtorEq, Nat.reduceAdd, Nat.reduceLeDiff, Nat.reduceMul, Int.reduceNeg, Int.reduceLT, Int.reduceAdd, Int.reduceSub, e0, e1, e5, w64 (show -9223372036854775808 ≤ (((k + 2 * E.szL (us.take n) + 1 : Nat) : Int)) + 1 ∧ (((k + 2 * E.szL (us.take n) + 1 : Nat) : Int)) + 1 ≤ 9223372036854775807 by omega), show (((k + 2 * E.szL (us.take n) + 1 : Nat) : Int)) + 1 = ((k + 2 * E.szL (us.take n) + 2 : Nat) : Int) by omega]
    refine hK11 _ ?_
    refine vc_reg ?_
    try simp (disch := omega) only [go_sem, ↓reduceIte, Nat.reduceEqDiff, reduceCtorEq, Nat.reduceAdd, Nat.reduceLeDiff, Nat.reduceMul, Int.reduceNeg, Int.reduceLT, Int.reduceAdd, Int.reduceSub, e0, e1, e5, hrow3, hgn3, hln]
    refine x_callM (ih _ (List.getElem_mem hlt) d2 g2 c2 (k + 2 * E.szL (us.take n) + 2) hE2 hR2 (by omega)) (TrL_one (hT2.keep (fun q hq => List.getElem?_set_ne (fun he => hrS (by rw [he]; exact hq))))) (by first | rfl | simp (disch := omega) only [go_sem, ↓reduceIte, Nat.reduceEqDiff, reduceCtorEq, Nat.reduceAdd, Nat.reduceLeDiff, Nat.reduceMul, Int.reduceNeg, Int.reduceLT, Int.reduceAdd, Int.reduceSub, e0, e1, e5, hrow3, hgn3, hln]) (by first | rfl | simp (disch := omega) only [go_sem, ↓reduceIte, Nat.reduceEqDiff, reduceCtorEq, Nat.reduceAdd, Nat.reduceLeDiff, Nat.reduceMul, Int.reduceNeg, Int.reduceLT, Int.reduceAdd, Int.reduceSub, e0, e1, e5, hrow3, hgn3, hln]) ?_
    rintro ds3 σ3 h3 hT3 ⟨g3, c3, hE3, hR3⟩ hk3 hl3 hle3 hh3
    obtain ⟨d3, v3, rfl, hv3, hT3, hE3⟩ := hT3.er_one hE3
    obtain rfl : v2 = v3 := by simpa using hv3
    rw [hKn]
    try simp (disch := omega) only [go_sem, ↓reduceIte, Nat.reduceEqDiff, reduceCtorEq, Nat.reduceAdd, Nat.reduceLeDiff, Nat.reduceMul, Int.reduceNeg, Int.reduceLT, Int.reduceAdd, Int.reduceSub, e0, e1, e5, hrow3, hgn3, hln]
    refine hK7 _ ?_
    refine vc_reg ?_
    try simp (disch := omega) only [go_sem, ↓reduceIte, Nat.reduceEqDiff, reduceCtorEq, Nat.reduceAdd, Nat.reduceLeDiff, Nat.reduceMul, Int.reduceNeg, Int.reduceLT, Int.reduceAdd, Int.reduceSub, e0, e1, e5]
    refine hK4 _ _ ?_ ⟨n + 1, dn.set n [.t (.int .i64 ((k + 2 * E.szL (us.take n) : Nat) : Int)), .t (.str (mtx (k + 2 * E.szL (us.take n) + 1))), d3], en.set n [V.t (.int .i64 ((k + 2 * E.szL (us.take n) : Nat) : Int)), V.t (.str (mtx (k + 2 * E.szL (us.take n) + 1))), v2], _, rfl, (by first | rfl | simp), (by first | rfl | assumption | (simp (disch := omega) only [go_sem, ↓reduceIte, Nat.reduceEqDiff, reduceCtorEq, Nat.reduceAdd, Nat.reduceLeDiff, Nat.reduceMul, Int.reduceNeg, Int.reduceLT, Int.reduceAdd, Int.reduceSub, e0, e1, e5])), (by first | rfl | assumption | (simp (disch := omega) only [go_sem, ↓reduceIte, Nat.reduceEqDiff, reduceCtorEq, Nat.reduceAdd, Nat.reduceLeDiff, Nat.reduceMul, Int.reduceNeg, Int.reduceLT, Int.reduceAdd, Int.reduceSub, e0, e1, e5])), (by first | rfl | assumption | (simp (disch := omega) only [go_sem, ↓reduceIte, Nat.reduceEqDiff, reduceCtorEq, Nat.reduceAdd, Nat.reduceLeDiff, Nat.reduceMul, Int.reduceNeg, Int.reduceLT, Int.reduceAdd, Int.reduceSub, e0, e1, e5])), ?_, ?_, ?_, ?_, ?_, ?_, ?_, ?_⟩
    · omega
    · first | omega | assumption | rfl | simp_all
    · exact (hk3 r hrS).trans hrow3
    · rw [List.length_set]; exact hel
    · exact hfoc _ _ _ (fun q hq hqn => (hk3 q hqn).trans (List.getElem?_set_ne (fun he => hr (by rw [he]; exact hq)))) (TrL_leaf Tr_int (TrL_leaf Tr_str (TrL_one hT3)))
    · rw [← E.mkL_set hlt, D.erLL_set]; exact E.repL_set hrep1 (by rw [E.mk_eq]; exact E.rep_own hE3 hR3)
    · rw [hl3, List.length_set, hl1]
    · exact le_comp hle1 (le_comp (set_le hrow1 (by rw [List.length_set])) hle3)
    · exact fun e he => (List.mem_or_eq_of_mem_set he).elim (hz1 e) (fun h => by rw [h]; rfl)
  · (try simp only [go_sem] at hc1)
    refine vc_exit ?_
    refine hK2 _ ?_
    refine vc_seq fun K12 hK12 => ?_
    refine vc_reg ?_
    try simp (disch := omega) only [go_sem, ↓reduceIte, Nat.reduceEqDiff, reduceCtorEq, Nat.reduceAdd, Nat.reduceLeDiff, Nat.reduceMul, Int.reduceNeg, Int.reduceLT, Int.reduceAdd, Int.reduceSub, e0, e1, e5]
    refine hK12 _ ?_
    refine vc_ret ?_
    obtain rfl : n = us.length := by omega
    rw [List.take_length, List.drop_length, List.append_nil] at hrep1
    rw [List.take_length] at e1
    refine retM (h0 := h0) (vs := [.own r ver 0 es.length]) (ds' := [.ow g 3 dn]) (Q' := (fun ts => ∃ g cs, ts = [.sl g cs] ∧ E.repL (E.mkL us k) cs)) rfl ?_ hl1 (TrL_one ?_) ⟨g, D.erLL dn, by rw [D.erL, D.erL, D.er], hrep1⟩ hle1
    · show V.t _ = _
      rw [List.take_length]
    · rw [Tr]
      exact ⟨r, ver, mm, en, S', hS, hr, by rw [hel], hrow1, hT1, hz1⟩

/-- laws.markExprS -/
theorem laws_markExprS_n (k : Int) : FCtr Try.prog 52 [.nil0, .t (.int .i64 k)] (fun r => r = .t (.int .i64 k)) := by
  refine Ctr.of_vc (rs := [.tmp 4]) (fn := Try.f52) mixed Try.func52 rfl rfl (by kernel_rfl) (by kernel_rfl) (by simp [Try.ntmps52]) (fun h0 => ?_)
  refine vc_seq fun K1 hK1 => ?_
  refine vc_reg ?_
  try simp (disch := omega) only [go_sem, ↓reduceIte, Nat.reduceEqDiff, reduceCtorEq, Nat.reduceAdd, Nat.reduceLeDiff, Nat.reduceMul, Int.reduceNeg, Int.reduceLT, Int.reduceAdd, Int.reduceSub]
  refine hK1 _ ?_
  refine vc_seq fun K2 hK2 => ?_
  refine vc_seq fun K3 hK3 => ?_
  refine vc_reg ?_
  try simp (disch := omega) only [go_sem, ↓reduceIte, Nat.reduceEqDiff, reduceCtorEq, Nat.reduceAdd, Nat.reduceLeDiff, Nat.reduceMul, Int.reduceNeg, Int.reduceLT, Int.reduceAdd, Int.reduceSub]
  refine hK3 _ ?_
  refine vc_block ?_
  refine vc_loop (fun m s => (m = 0) ∧ (s.σ = []) ∧ (s.env 0 = .nil0) ∧ (s.env 1 = .t (.int .i64 k)) ∧ (s.env 5 = .t (.int .i64 0))) (0) ⟨rfl, rfl, (by first | rfl | assumption | (simp (disch := omega) only [go_sem, ↓reduceIte, Nat.reduceEqDiff, reduceCtorEq, Nat.reduceAdd, Nat.reduceLeDiff, Nat.reduceMul, Int.reduceNeg, Int.reduceLT, Int.reduceAdd, Int.reduceSub])), (by first | rfl | assumption | (simp (disch := omega) only [go_sem, ↓reduceIte, Nat.reduceEqDiff, reduceCtorEq, Nat.reduceAdd, Nat.reduceLeDiff, Nat.reduceMul, Int.reduceNeg, Int.reduceLT, Int.reduceAdd, Int.reduceSub])), (by first | rfl | assumption | (simp (disch := omega) only [go_sem, ↓reduceIte, Nat.reduceEqDiff, reduceCtorEq, Nat.reduceAdd, Nat.reduceLeDiff, Nat.reduceMul, Int.reduceNeg, Int.reduceLT, Int.reduceAdd, Int.reduceSub]))⟩ ?_
  rintro m ⟨e, σ, h⟩ ⟨hm, hσ, e0, e1, e5⟩ K4 hK4
  simp only at hσ e0 e1 e5
  subst hσ
  refine vc_seq fun K5 hK5 => ?_
  refine vc_seq fun K6 hK6 => ?_
  refine vc_reg ?_
  try simp (disch := omega) only [go_sem, ↓reduceIte, Nat.reduceEqDiff, reduceCtorEq, Nat.reduceAdd, Nat.reduceLeDiff, Nat.reduceMul, Int.reduceNeg, Int.reduceLT, Int.reduceAdd, Int.reduceSub, e0, e1, e5]
  refine hK6 _ ?_
  refine vc_cond (t := _) (by first | rfl | (simp (disch := omega) only [go_sem, ↓reduceIte, Nat.reduceEqDiff, reduceCtorEq, Nat.reduceAdd, Nat.reduceLeDiff, Nat.reduceMul, Int.reduceNeg, Int.reduceLT, Int.reduceAdd, Int.reduceSub, e0, e1, e5]; rfl)) (fun hc1 => ?_) (fun hc1 => ?_)
  · exact absurd hc1 (by simp)
  · (try simp only [go_sem] at hc1)
    refine vc_exit ?_
    refine hK2 _ ?_
    refine vc_seq fun K7 hK7 => ?_
    refine vc_reg ?_
    try simp (disch := omega) only [go_sem, ↓reduceIte, Nat.reduceEqDiff, reduceCtorEq, Nat.reduceAdd, Nat.reduceLeDiff, Nat.reduceMul, Int.reduceNeg, Int.reduceLT, Int.reduceAdd, Int.reduceSub, e0, e1, e5]
    refine hK7 _ ?_
    refine vc_ret ?_
    refine ⟨_, by first | rfl | (simp only [go_sem, resQ, List.mapM_cons, List.mapM_nil, ↓reduceIte, Nat.reduceEqDiff, Nat.reduceAdd, Nat.reduceLeDiff, reduceCtorEq]; rfl), [], [], .nil, by simp, by simp, fun hi_ h1_ => ⟨?_, rfl, rfl⟩, by simp⟩
    first | rfl | simp_all

/-- laws.markExprS -/
theorem laws_markExprS_0 (g ver sz mm : Nat) (k : Int) : Ctr Try.prog 52 [.own 0 ver 0 0, .t (.int .i64 k)] [.row g ver sz mm []] (fun _ _ r σ' => r = .t (.int .i64 k) ∧ σ' = [.row g ver sz mm []]) := by
  refine Ctr.of_vc (rs := [.tmp 4]) (fn := Try.f52) mixed Try.func52 rfl rfl (by kernel_rfl) (by kernel_rfl) (by simp [Try.ntmps52]) (fun h0 => ?_)
  refine vc_seq fun K1 hK1 => ?_
  refine vc_reg ?_
  try simp (disch := omega) only [go_sem, ↓reduceIte, Nat.reduceEqDiff, reduceCtorEq, Nat.reduceAdd, Nat.reduceLeDiff, Nat.reduceMul, Int.reduceNeg, Int.reduceLT, Int.reduceAdd, Int.reduceSub]
  refine hK1 _ ?_
  refine vc_seq fun K2 hK2 => ?_
  refine vc_seq fun K3 hK3 => ?_
  refine vc_reg ?_
  try simp (disch := omega) only [go_sem, ↓reduceIte, Nat.reduceEqDiff, reduceCtorEq, Nat.reduceAdd, Nat.reduceLeDiff, Nat.reduceMul, Int.reduceNeg, Int.reduceLT, Int.reduceAdd, Int.reduceSub]
  refine hK3 _ ?_
  refine vc_block ?_
  refine vc_loop (fun m s => (m = 0) ∧ (s.σ = [.row g ver sz mm []]) ∧ (s.env 0 = .own 0 ver 0 0) ∧ (s.env 1 = .t (.int .i64 k)) ∧ (s.env 5 = .t (.int .i64 0))) (0) ⟨rfl, (by first | rfl | simp), (by first | rfl | assumption | (simp (disch := omega) only [go_sem, ↓reduceIte, Nat.reduceEqDiff, reduceCtorEq, Nat.reduceAdd, Nat.reduceLeDiff, Nat.reduceMul, Int.reduceNeg, Int.reduceLT, Int.reduceAdd, Int.reduceSub])), (by first | rfl | assumption | (simp (disch := omega) only [go_sem, ↓reduceIte, Nat.reduceEqDiff, reduceCtorEq, Nat.reduceAdd, Nat.reduceLeDiff, Nat.reduceMul, Int.reduceNeg, Int.reduceLT, Int.reduceAdd, Int.reduceSub])), (by first | rfl | assumption | (simp (disch := omega) only [go_sem, ↓reduceIte, Nat.reduceEqDiff, reduceCtorEq, Nat.reduceAdd, Nat.reduceLeDiff, Nat.reduceMul, Int.reduceNeg, Int.reduceLT, Int.reduceAdd, Int.reduceSub]))⟩ ?_
  rintro m ⟨e, σ, h⟩ ⟨hm, hσ, e0, e1, e5⟩ K4 hK4
  simp only at hσ e0 e1 e5
  subst hσ
  refine vc_seq fun K5 hK5 => ?_
  refine vc_seq fun K6 hK6 => ?_
  refine vc_reg ?_
  try simp (disch := omega) only [go_sem, ↓reduceIte, Nat.reduceEqDiff, reduceCtorEq, Nat.reduceAdd, Nat.reduceLeDiff, Nat.reduceMul, Int.reduceNeg, Int.reduceLT, Int.reduceAdd, Int.reduceSub, e0, e1, e5]
  refine hK6 _ ?_
  refine vc_cond (t := _) (by first | rfl | (simp (disch := omega) only [go_sem, ↓reduceIte, Nat.reduceEqDiff, reduceCtorEq, Nat.reduceAdd, Nat.reduceLeDiff, Nat.reduceMul, Int.reduceNeg, Int.reduceLT, Int.reduceAdd, Int.reduceSub, e0, e1, e5]; rfl)) (fun hc1 => ?_) (fun hc1 => ?_)
  · exact absurd hc1 (by simp)
  · (try simp only [go_sem] at hc1)
    refine vc_exit ?_
    refine hK2 _ ?_
    refine vc_seq fun K7 hK7 => ?_
    refine vc_reg ?_
    try simp (disch := omega) only [go_sem, ↓reduceIte, Nat.reduceEqDiff, reduceCtorEq, Nat.reduceAdd, Nat.reduceLeDiff, Nat.reduceMul, Int.reduceNeg, Int.reduceLT, Int.reduceAdd, Int.reduceSub, e0, e1, e5]
    refine hK7 _ ?_
    refine vc_ret ?_
    refine ⟨_, rfl, [0], [], by simp, by simp, by simp, fun hi_ h1_ => ⟨rfl, rfl⟩, ?_⟩
    intro r o ho
    cases r with
    | zero => simp only [List.getElem?_cons_zero, Option.some.injEq] at ho; subst ho; exact ⟨_, rfl, by simp [Ob.loc, Ob.le]⟩
    | succ r => simp at ho

theorem laws_markExprS_E (e : E) : ∀ (d : D) (g : Nat) (cs : List (List T)) (k : Nat), d.er = .sl g cs → E.repL e.args cs → 0 < k ∧ k + 2 * E.szL e.args ≤ 2^60 → MCtr Try.prog 52 .one [d] k ((k + 2 * E.szL e.args : Nat) : Int) (fun ts => ∃ g cs, ts = [.sl g cs] ∧ E.repL (E.mkL e.args k) cs) := by
  induction e using E.ind with
  | h k0 nm us ih =>
    intro d g cs k hd hrep hk σ vs hT
    change E.repL us cs at hrep
    change 0 < k ∧ k + 2 * E.szL us ≤ 2^60 at hk
    show Ctr _ _ _ σ (fun _ _ r σ' => r = .t (.int .i64 ((k + 2 * E.szL us : Nat) : Int)) ∧ (∃ ds', TrL σ' ds' (List.range σ'.length) vs ∧ (∃ g cs, D.erL ds' = [.sl g cs] ∧ E.repL (E.mkL us k) cs)) ∧ σ'.length = σ.length ∧ _)
    obtain ⟨v, rfl, h1⟩ := hT.inv_one
    rcases h1.er_sl hd with ⟨rfl, h2, rfl, rfl⟩ | ⟨ds, r, ver, sz, m, es, S', rfl, h2, h3, rfl, h5, h6, hz, h7⟩
    · obtain rfl : us = [] := List.length_eq_zero_iff.1 (by have := E.repL_len hrep; simpa using this.symm)
      obtain rfl : σ = [] := List.length_eq_zero_iff.1 (range_nil h2)
      refine Ctr.weaken (laws_markExprS_n k) (fun lo hi r σ' ⟨h3, _, h5⟩ => ?_)
      subst h5
      exact ⟨h3, ⟨[.nil], TrL_one Tr_nil, 0, [], rfl, E.repL_nil⟩, rfl, fun r o h => by simp at h⟩
    · subst h7
      cases us with
      | nil =>
        have hds : D.erLL ds = [] := List.length_eq_zero_iff.1 (by have := E.repL_len hrep; simpa using this)
        obtain rfl : ds = [] := List.length_eq_zero_iff.1 (by rw [← D.erLL_len, hds]; rfl)
        obtain rfl : es = [] := List.length_eq_zero_iff.1 h6.len
        rw [TrLL] at h6
        obtain ⟨rfl, _⟩ := h6
        obtain ⟨h8, rfl⟩ := range_one h2
        obtain ⟨o, rfl⟩ := List.length_eq_one_iff.1 h8
        simp only [List.getElem?_cons_zero, Option.some.injEq] at h5
        subst h5
        refine Ctr.weaken (laws_markExprS_0 g ver sz m k) (fun lo hi r σ' ⟨h3, h4⟩ => ?_)
        subst h4
        exact ⟨h3, ⟨[.ow g sz []], hT, g, [], rfl, E.repL_nil⟩, rfl, fun r o h => ⟨o, h, o.le_refl⟩⟩
      | cons a l =>
        have h3' := h6.lens (E.repL_all hrep)
        obtain rfl : 3 = sz := by
          have hl := h6.len
          have hl2 := E.repL_len hrep
          rw [D.erLL_len] at hl2
          cases es with
          | nil => simp at hl hl2; omega
          | cons e0 es0 => rw [← hz e0 List.mem_cons_self, h3' e0 List.mem_cons_self]
        exact laws_markExprS_r (a :: l) k g ds σ r ver m es S' h2 h3 h5 h6 h3' hrep hk (fun b hb => ih b hb)
theorem laws_markExprS_M (us : List E) (d : D) (g : Nat) (cs : List (List T)) (k : Nat) (hd : d.er = .sl g cs) (hrep : E.repL us cs) (hk : 0 < k ∧ k + 2 * E.szL us ≤ 2^60) : MCtr Try.prog 52 .one [d] k ((k + 2 * E.szL us : Nat) : Int) (fun ts => ∃ g cs, ts = [.sl g cs] ∧ E.repL (E.mkL us k) cs) :=
  laws_markExprS_E (.mk 0 ⟨#[]⟩ us) d g cs k hd hrep hk

/-- laws.heldExprS -/
theorem laws_heldExprS_i (us : List E) (g k : Nat) (cs : List (List T)) (ha : E.repL (E.mkL us k) cs) (hk : 0 < k ∧ k + 2 * E.szL us ≤ 2^60) (ih : ∀ a ∈ us, ∀ (g k : Nat) (cs : List (List T)), E.repL (E.mkL a.args k) cs → 0 < k ∧ k + 2 * E.szL a.args ≤ 2^60 → FCtr Try.prog 53 [.t (.sl g cs), .t (.int .i64 ((k : Nat) : Int))] (fun r => r = .t (.int .i64 ((k + 2 * E.szL a.args : Nat) : Int)))) : FCtr Try.prog 53 [.t (.sl g cs), .t (.int .i64 ((k : Nat) : Int))] (fun r => r = .t (.int .i64 ((k + 2 * E.szL us : Nat) : Int))) := by
  have hlb := E.len_szL us
  have hcl : cs.length = us.length := by rw [E.repL_len ha, E.mkL_len]
  refine Ctr.of_vc (rs := [.tmp 4]) (fn := Try.f53) mixed Try.func53 rfl rfl (by kernel_rfl) (by kernel_rfl) (by simp [Try.ntmps53]) (fun h0 => ?_)
  refine vc_seq fun K1 hK1 => ?_
  refine vc_reg ?_
  try simp (disch := omega) only [go_sem, ↓reduceIte, Nat.reduceEqDiff, reduceCtorEq, Nat.reduceAdd, Nat.reduceLeDiff, Nat.reduceMul, Int.reduceNeg, Int.reduceLT, Int.reduceAdd, Int.reduceSub, hcl]
  refine hK1 _ ?_
  refine vc_seq fun K2 hK2 => ?_
  refine vc_seq fun K3 hK3 => ?_
  refine vc_reg ?_
  try simp (disch := omega) only [go_sem, ↓reduceIte, Nat.reduceEqDiff, reduceCtorEq, Nat.reduceAdd, Nat.reduceLeDiff, Nat.reduceMul, Int.reduceNeg, Int.reduceLT, Int.reduceAdd, Int.reduceSub, hcl]
  refine hK3 _ ?_
  refine vc_block ?_
  refine vc_loop (fun m s => ∃ (n : Nat), (m = us.length - n) ∧ (s.σ = []) ∧ (s.env 0 = .t (.sl g cs)) ∧ (s.env 1 = .t (.int .i64 ((k + 2 * E.szL (us.take n) : Nat) : Int))) ∧ (s.env 5 = .t (.int .i64 n)) ∧ (n ≤ us.length)) (us.length - 0) ⟨0, rfl, rfl, (by first | rfl | assumption | (simp (disch := omega) only [go_sem, ↓reduceIte, Nat.reduceEqDiff, reduceCtorEq, Nat.reduceAdd, Nat.reduceLeDiff, Nat.reduceMul, Int.reduceNeg, Int.reduceLT, Int.reduceAdd, Int.reduceSub, hcl])), (by first | rfl | assumption | (simp (disch := omega) only [go_sem, ↓reduceIte, Nat.reduceEqDiff, reduceCtorEq, Nat.reduceAdd, Nat.reduceLeDiff, Nat.reduceMul, Int.reduceNeg, Int.reduceLT, Int.reduceAdd, Int.reduceSub, hcl])), (by first | rfl | assumption | (simp (disch := omega) only [go_sem, ↓reduceIte, Nat.reduceEqDiff, reduceCtorEq, Nat.reduceAdd, Nat.reduceLeDiff, Nat.reduceMul, Int.reduceNeg, Int.reduceLT, Int.reduceAdd, Int.reduceSub, hcl])), (by first | rfl | omega | simp)⟩ ?_
  rintro m ⟨e, σ, h⟩ ⟨n, hm, hσ, e0, e1, e5, hn⟩ K4 hK4
  simp only at hσ e0 e1 e5
  subst hσ
  refine vc_seq fun K5 hK5 => ?_
  refine vc_seq fun K6 hK6 => ?_
  refine vc_reg ?_
  try simp (disch := omega) only [go_sem, ↓reduceIte, Nat.reduceEqDiff, reduceCtorEq, Nat.reduceAdd, Nat.reduceLeDiff, Nat.reduceMul, Int.reduceNeg, Int.reduceLT, Int.reduceAdd, Int.reduceSub, e0, e1, e5, hcl]
  refine hK6 _ ?_
  refine vc_cond (t := _) (by first | rfl | (simp (disch := omega) only [go_sem, ↓reduceIte, Nat.reduceEqDiff, reduceCtorEq, Nat.reduceAdd, Nat.reduceLeDiff, Nat.reduceMul, Int.reduceNeg, Int.reduceLT, Int.reduceAdd, Int.reduceSub, e0, e1, e5, hcl]; rfl)) (fun hc1 => ?_) (fun hc1 => ?_)
  · (try simp only [go_sem] at hc1)
    refine vc_skip ?_
    refine hK5 _ ?_
    refine vc_seq fun K7 hK7 => ?_
    refine vc_block ?_
    refine vc_seq fun K8 hK8 => ?_
    refine vc_seq fun K9 hK9 => ?_
    have hlt : n < us.length := by omega
    obtain ⟨c, hc, hrc⟩ := E.repL_get ha (n := n) (by rw [E.mkL_len]; exact hlt)
    have hmg := E.mkL_get (k := k) hlt
    rw [List.getElem?_eq_getElem (by rw [E.mkL_len]; exact hlt)] at hmg
    injection hmg with hmg
    rw [hmg, E.mk_eq] at hrc
    obtain ⟨gc, cc, rfl, hcc⟩ := E.rep_mk hrc
    have hKb := E.szL_le (l := us) (n + 1)
    have hKn : k + 2 * E.szL (us.take n) + 2 + 2 * E.szL us[n].args = k + 2 * E.szL (us.take (n + 1)) := by rw [E.szL_take hlt, E.sz_args]; omega
    rw [E.szL_take hlt, E.sz_args] at hKb
    refine vc_reg ?_
    try simp (disch := omega) only [go_sem, ↓reduceIte, Nat.reduceEqDiff, reduceCtorEq, Nat.reduceAdd, Nat.reduceLeDiff, Nat.reduceMul, Int.reduceNeg, Int.reduceLT, Int.reduceAdd, Int.reduceSub, e0, e1, e5, hcl, hc]
    refine hK9 _ ?_
    refine vc_cond (t := _) (by first | rfl | (simp (disch := omega) only [go_sem, ↓reduceIte, Nat.reduceEqDiff, reduceCtorEq, Nat.reduceAdd, Nat.reduceLeDiff, Nat.reduceMul, Int.reduceNeg, Int.reduceLT, Int.reduceAdd, Int.reduceSub, e0, e1, e5, hcl]; rfl)) (fun hc2 => ?_) (fun hc2 => ?_)
    · exact absurd hc2 (by simp)
    · (try simp only [go_sem] at hc2)
      refine vc_skip ?_
      refine hK8 _ ?_
      refine vc_seq fun K10 hK10 => ?_
      refine vc_reg ?_
      try simp (disch := omega) only [go_sem, ↓reduceIte, Nat.reduceEqDiff, reduceCtorEq, Nat.reduceAdd, Nat.reduceLeDiff, Nat.reduceMul, Int.reduceNeg, Int.reduceLT, Int.reduceAdd, Int.reduceSub, e0, e1, e5, hcl, w64 (show -9223372036854775808 ≤ (((k + 2 * E.szL (us.take n) : Nat) : Int)) + 1 ∧ (((k + 2 * E.szL (us.take n) : Nat) : Int)) + 1 ≤ 9223372036854775807 by omega), show (((k + 2 * E.szL (us.take n) : Nat) : Int)) + 1 = ((k + 2 * E.szL (us.take n) + 1 : Nat) : Int) by omega]
      refine hK10 _ ?_
      refine vc_seq fun K11 hK11 => ?_
      refine vc_seq fun K12 hK12 => ?_
      refine vc_regD [(0, false), (1, false), (2, false), (3, false), (4, false), (5, false), (6, false), (7, false)] (by kernel_rfl) ?_
      try simp (disch := omega) only [go_sem, ↓reduceIte, Nat.reduceEqDiff, reduceCtorEq, Nat.reduceAdd, Nat.reduceLeDiff, Nat.reduceMul, Int.reduceNeg, Int.reduceLT, Int.reduceAdd, Int.reduceSub, e0, e1, e5, hcl, hc]
      refine vcX_call _ _ (laws_markText (k + 2 * E.szL (us.take n) + 1) (by omega)) (by first | rfl | (simp (disch := omega) only [go_sem, ↓reduceIte, Nat.reduceEqDiff, reduceCtorEq, Nat.reduceAdd, Nat.reduceLeDiff, Nat.reduceMul, Int.reduceNeg, Int.reduceLT, Int.reduceAdd, Int.reduceSub, e0, e1, e5, hcl, hc])) (by first | rfl | (simp (disch := omega) only [go_sem, ↓reduceIte, Nat.reduceEqDiff, reduceCtorEq, Nat.reduceAdd, Nat.reduceLeDiff, Nat.reduceMul, Int.reduceNeg, Int.reduceLT, Int.reduceAdd, Int.reduceSub, e0, e1, e5, hcl, hc])) (by first | rfl | simp [V.pures, V.pure, V.pures_t]) ?_
      rintro r7_6 h7_6 hh7_6 rfl -
      try simp (disch := omega) only [go_sem, ↓reduceIte, Nat.reduceEqDiff, reduceCtorEq, Nat.reduceAdd, Nat.reduceLeDiff, Nat.reduceMul, Int.reduceNeg, Int.reduceLT, Int.reduceAdd, Int.reduceSub, e0, e1, e5, hcl, hc]
      refine hK12 _ ?_
      refine vc_cond (t := _) (by first | rfl | (simp (disch := omega) only [go_sem, ↓reduceIte, Nat.reduceEqDiff, reduceCtorEq, Nat.reduceAdd, Nat.reduceLeDiff, Nat.reduceMul, Int.reduceNeg, Int.reduceLT, Int.reduceAdd, Int.reduceSub, e0, e1, e5, hcl]; rfl)) (fun hc3 => ?_) (fun hc3 => ?_)
      · exact absurd hc3 (by simp)
      · (try simp only [go_sem] at hc3)
        refine vc_skip ?_
        refine hK11 _ ?_
        refine vc_seq fun K13 hK13 => ?_
        refine vc_reg ?_
        try simp (disch := omega) only [go_sem, ↓reduceIte, Nat.reduceEqDiff, reduceCtorEq, Nat.reduceAdd, Nat.reduceLeDiff, Nat.reduceMul, Int.reduceNeg, Int.reduceLT, Int.reduceAdd, Int.reduceSub, e0, e1, e5, hcl, w64 (show -9223372036854775808 ≤ (((k + 2 * E.szL (us.take n) + 1 : Nat) : Int)) + 1 ∧ (((k + 2 * E.szL (us.take n) + 1 : Nat) : Int)) + 1 ≤ 9223372036854775807 by omega), show (((k + 2 * E.szL (us.take n) + 1 : Nat) : Int)) + 1 = ((k + 2 * E.szL (us.take n) + 2 : Nat) : Int) by omega]
        refine hK13 _ ?_
        refine vc_seq fun K14 hK14 => ?_
        refine vc_reg ?_
        try simp (disch := omega) only [go_sem, ↓reduceIte, Nat.reduceEqDiff, reduceCtorEq, Nat.reduceAdd, Nat.reduceLeDiff, Nat.reduceMul, Int.reduceNeg, Int.reduceLT, Int.reduceAdd, Int.reduceSub, e0, e1, e5, hcl, hc]
        refine vcX_call _ _ (ih _ (List.getElem_mem hlt) gc (k + 2 * E.szL (us.take n) + 2) cc hcc (by omega)) (by first | rfl | (simp (disch := omega) only [go_sem, ↓reduceIte, Nat.reduceEqDiff, reduceCtorEq, Nat.reduceAdd, Nat.reduceLeDiff, Nat.reduceMul, Int.reduceNeg, Int.reduceLT, Int.reduceAdd, Int.reduceSub, e0, e1, e5, hcl, hc])) (by first | rfl | (simp (disch := omega) only [go_sem, ↓reduceIte, Nat.reduceEqDiff, reduceCtorEq, Nat.reduceAdd, Nat.reduceLeDiff, Nat.reduceMul, Int.reduceNeg, Int.reduceLT, Int.reduceAdd, Int.reduceSub, e0, e1, e5, hcl, hc])) (by first | rfl | simp [V.pures, V.pure, V.pures_t]) ?_
        rintro r10_6 h10_6 hh10_6 rfl -
        rw [hKn]
        try simp (disch := omega) only [go_sem, ↓reduceIte, Nat.reduceEqDiff, reduceCtorEq, Nat.reduceAdd, Nat.reduceLeDiff, Nat.reduceMul, Int.reduceNeg, Int.reduceLT, Int.reduceAdd, Int.reduceSub, e0, e1, e5, hcl, hc]
        refine hK14 _ ?_
        refine vc_seq fun K15 hK15 => ?_
        refine vc_reg ?_
        try simp (disch := omega) only [go_sem, ↓reduceIte, Nat.reduceEqDiff, reduceCtorEq, Nat.reduceAdd, Nat.reduceLeDiff, Nat.reduceMul, Int.reduceNeg, Int.reduceLT, Int.reduceAdd, Int.reduceSub, e0, e1, e5, hcl]
        refine hK15 _ ?_
        refine vc_cond (t := _) (by first | rfl | (simp (disch := omega) only [go_sem, ↓reduceIte, Nat.reduceEqDiff, reduceCtorEq, Nat.reduceAdd, Nat.reduceLeDiff, Nat.reduceMul, Int.reduceNeg, Int.reduceLT, Int.reduceAdd, Int.reduceSub, e0, e1, e5, hcl]; rfl)) (fun hc4 => ?_) (fun hc4 => ?_)
        · exact absurd hc4 (by first | (simp; done) | (simp; omega))
        · (try simp only [go_sem] at hc4)
          refine vc_skip ?_
          refine hK7 _ ?_
          refine vc_reg ?_
          try simp (disch := omega) only [go_sem, ↓reduceIte, Nat.reduceEqDiff, reduceCtorEq, Nat.reduceAdd, Nat.reduceLeDiff, Nat.reduceMul, Int.reduceNeg, Int.reduceLT, Int.reduceAdd, Int.reduceSub, e0, e1, e5, hcl]
          refine hK4 _ _ ?_ ⟨n + 1, rfl, rfl, (by first | rfl | assumption | (simp (disch := omega) only [go_sem, ↓reduceIte, Nat.reduceEqDiff, reduceCtorEq, Nat.reduceAdd, Nat.reduceLeDiff, Nat.reduceMul, Int.reduceNeg, Int.reduceLT, Int.reduceAdd, Int.reduceSub, e0, e1, e5, hcl])), (by first | rfl | assumption | (simp (disch := omega) only [go_sem, ↓reduceIte, Nat.reduceEqDiff, reduceCtorEq, Nat.reduceAdd, Nat.reduceLeDiff, Nat.reduceMul, Int.reduceNeg, Int.reduceLT, Int.reduceAdd, Int.reduceSub, e0, e1, e5, hcl])), (by first | rfl | assumption | (simp (disch := omega) only [go_sem, ↓reduceIte, Nat.reduceEqDiff, reduceCtorEq, Nat.reduceAdd, Nat.reduceLeDiff, Nat.reduceMul, Int.reduceNeg, Int.reduceLT, Int.reduceAdd, Int.reduceSub, e0, e1, e5, hcl])), ?_⟩
          · omega
          · first | omega | assumption | rfl | simp_all
  · (try simp only [go_sem] at hc1)
    refine vc_exit ?_
    refine hK2 _ ?_
    refine vc_seq fun K16 hK16 => ?_
    obtain rfl : n = us.length := by omega
    rw [List.take_length] at e1
    refine vc_reg ?_
    try simp (disch := omega) only [go_sem, ↓reduceIte, Nat.reduceEqDiff, reduceCtorEq, Nat.reduceAdd, Nat.reduceLeDiff, Nat.reduceMul, Int.reduceNeg, Int.reduceLT, Int.reduceAdd, Int.reduceSub, e0, e1, e5, hcl]
    refine hK16 _ ?_
    refine vc_ret ?_
    refine ⟨_, by first | rfl | (simp only [go_sem, resQ, List.mapM_cons, List.mapM_nil, ↓reduceIte, Nat.reduceEqDiff, Nat.reduceAdd, Nat.reduceLeDiff, reduceCtorEq]; rfl), [], [], .nil, by simp, by simp, fun hi_ h1_ => ⟨?_, rfl, rfl⟩, by simp⟩
    first | rfl | simp_all

theorem laws_heldExprS_E (e : E) : ∀ (g k : Nat) (cs : List (List T)), E.repL (E.mkL e.args k) cs → 0 < k ∧ k + 2 * E.szL e.args ≤ 2^60 → FCtr Try.prog 53 [.t (.sl g cs), .t (.int .i64 ((k : Nat) : Int))] (fun r => r = .t (.int .i64 ((k + 2 * E.szL e.args : Nat) : Int))) := by
  induction e using E.ind with
  | h k0 nm us ih => exact fun g k cs h1 h2 => laws_heldExprS_i us g k cs h1 h2 (fun a ha => ih a ha)
theorem laws_heldExprS (us : List E) (g k : Nat) (cs : List (List T)) (ha : E.repL (E.mkL us k) cs) (hk : 0 < k ∧ k + 2 * E.szL us ≤ 2^60) : FCtr Try.prog 53 [.t (.sl g cs), .t (.int .i64 ((k : Nat) : Int))] (fun r => r = .t (.int .i64 ((k + 2 * E.szL us : Nat) : Int))) :=
  laws_heldExprS_E (.mk 0 ⟨#[]⟩ us) g k cs ha hk
end Go.Proofs.Ytldhhppfnhgcdaa
