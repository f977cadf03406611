/- Walks through the code: each function's contract. -/
import Derived.Test.YtlooiifgbiedeaaWA1
set_option linter.unusedVariables false
set_option linter.unusedSimpArgs false
set_option maxRecDepth 8000
namespace Go.Proofs.Ytlooiifgbiedeaa
open Go Go.VL

end Go.Proofs.Ytlooiifgbiedeaa
namespace Go.VL
theorem B.own_cells {σ : List Ob} {ds : List D} {S : List Nat} {vs : List V} {b : B} (hT : TrL σ ds S vs) (h : b.rep (D.erL ds)) : ∃ (d : D) (v : V) (g : Nat) (cs : List (List T)), ds = [.t (.str b.nm), .t (.int .i64 b.va.kind), .t (.str b.va.name), d] ∧ vs = [.t (.str b.nm), .t (.int .i64 b.va.kind), .t (.str b.va.name), v] ∧ Tr σ d S v ∧ d.er = .sl g cs ∧ E.repL b.va.args cs := by
  obtain ⟨ce, h1, h2⟩ := h
  obtain ⟨ds1, l1, rfl, rfl, h3, h4⟩ := hT.er_str h1
  subst h4
  obtain ⟨d, v, g, cs, rfl, rfl, h5, h6, h7⟩ := E.own_cells h3 h2
  exact ⟨d, v, g, cs, rfl, rfl, h5, h6, h7⟩
theorem B.rep_own {nm : ByteArray} {k : Int} {n : ByteArray} {us : List E} {d : D} {g : Nat} {cs : List (List T)} (h : d.er = .sl g cs) (hr : E.repL us cs) : (B.mk nm (.mk k n us)).rep (D.erL [.t (.str nm), .t (.int .i64 k), .t (.str n), d]) := by
  rw [D.erL]
  exact B.rep_of (E.rep_own h hr)
section
variable {α : Type} {R : α → List T → Prop}
theorem Rl.set : ∀ {l : List α} {cs : List (List T)} {n : Nat} {a : α} {c : List T}, Rl R l cs → R a c → Rl R (l.set n a) (cs.set n c)
  | [], cs, n, a, c, h, ha => by unfold Rl at h; subst h; simpa using Rl.nil
  | e :: l, cs, n, a, c, h, ha => by
    unfold Rl at h
    obtain ⟨c0, r, rfl, h1, h2⟩ := h
    cases n with
    | zero => rw [List.set_cons_zero, List.set_cons_zero, Rl]; exact ⟨c, r, rfl, ha, h2⟩
    | succ n => rw [List.set_cons_succ, List.set_cons_succ, Rl]; exact ⟨c0, _, rfl, h1, Rl.set h2 ha⟩
theorem Rl.at_ {l : List α} {cs : List (List T)} {n : Nat} {a : α} {c : List T} (h : Rl R l cs) (ha : l[n]? = some a) (hc : cs[n]? = some c) : R a c := by
  have hn := (List.getElem?_eq_some_iff.1 ha).1
  obtain ⟨c', h1, h2⟩ := h.get hn
  rw [h1] at hc
  injection hc with hc
  rw [List.getElem?_eq_getElem hn] at ha
  injection ha with ha
  rw [← hc, ← ha]; exact h2
theorem Rl.all {m : Nat} (hR : ∀ a c, R a c → c.length = m) {l : List α} {cs : List (List T)} (h : Rl R l cs) : ∀ c ∈ cs, c.length = m := by
  intro c hc
  obtain ⟨i, hi, rfl⟩ := List.mem_iff_getElem.1 hc
  obtain ⟨c', h1, h2⟩ := h.get (n := i) (by rw [← h.len]; exact hi)
  rw [List.getElem?_eq_getElem hi] at h1
  injection h1 with h1
  rw [h1]; exact hR _ _ h2
end
theorem B.len4 (b : B) (c : List T) (h : b.rep c) : c.length = 4 := by
  obtain ⟨k, n, g, cs, h1, _⟩ := B.cells h
  rw [h1]; rfl
theorem wl_take {α : Type} {f : α → Nat} {l : List α} {n : Nat} (h : n < l.length) : wl f (l.take (n + 1)) = wl f (l.take n) + (1 + f l[n]) := by
  have app : ∀ a b : List α, wl f (a ++ b) = wl f a + wl f b := by
    intro a b
    induction a with
    | nil => simp [wl]
    | cons x a ih => rw [List.cons_append, wl, wl, ih]; omega
  rw [List.take_add_one, List.getElem?_eq_getElem h, app]; simp [wl]
theorem wl_le {α : Type} {f : α → Nat} {l : List α} (n : Nat) : wl f (l.take n) ≤ wl f l := by
  have app : ∀ a b : List α, wl f (a ++ b) = wl f a + wl f b := by
    intro a b
    induction a with
    | nil => simp [wl]
    | cons x a ih => rw [List.cons_append, wl, wl, ih]; omega
  have : wl f l = wl f (l.take n) + wl f (l.drop n) := by rw [← app, List.take_append_drop]
  omega
/-- How many places a binding has, less one. -/
def B.pl (b : B) : Nat := 2 * b.va.sz
def B.mk_ (b : B) (k : Nat) : B := ⟨mtx k, .mk ((k + 1 : Nat) : Int) (mtx (k + 2)) (E.mkL b.va.args (k + 3))⟩
def B.mkL : List B → Nat → List B
  | [], _ => []
  | b :: l, k => b.mk_ k :: B.mkL l (k + (1 + b.pl))
theorem B.mkL_len : ∀ (l : List B) (k : Nat), (B.mkL l k).length = l.length
  | [], _ => rfl
  | e :: l, k => by rw [B.mkL, List.length_cons, B.mkL_len l, List.length_cons]
theorem B.mkL_app : ∀ (l l' : List B) (k : Nat), B.mkL (l ++ l') k = B.mkL l k ++ B.mkL l' (k + wl B.pl l)
  | [], l', k => rfl
  | e :: l, l', k => by
    rw [List.cons_append, B.mkL, B.mkL_app l l', B.mkL, wl, List.cons_append]
    congr 3
    omega
theorem B.mkL_set {us : List B} {n k : Nat} (h : n < us.length) : (B.mkL (us.take n) k ++ us.drop n).set n (us[n].mk_ (k + wl B.pl (us.take n))) = B.mkL (us.take (n + 1)) k ++ us.drop (n + 1) := by
  have hl : (B.mkL (us.take n) k).length = n := by rw [B.mkL_len, List.length_take]; omega
  rw [drop_get h, List.set_append_right _ _ (by omega), hl, Nat.sub_self, List.take_add_one, List.getElem?_eq_getElem h, B.mkL_app, List.set_cons_zero, List.append_assoc]
  rfl
theorem B.mkL_at {us : List B} {n k : Nat} (h : n < us.length) : (B.mkL (us.take n) k ++ us.drop n)[n]? = some us[n] := by
  have hl : (B.mkL (us.take n) k).length = n := by rw [B.mkL_len, List.length_take]; omega
  rw [List.getElem?_append_right (by omega), hl, Nat.sub_self, List.getElem?_drop, Nat.add_zero, List.getElem?_eq_getElem h]
theorem wl_pl_wt : ∀ l : List B, wl B.pl l ≤ 4 * wl B.wt l
  | [] => Nat.le_refl _
  | b :: l => by
    have h1 := wl_pl_wt l
    have h2 := E.sz_wt b.va
    rw [wl, wl, B.pl, B.wt]
    omega
end Go.VL
namespace Go.Proofs.Ytlooiifgbiedeaa
open Go Go.VL

/-- laws.toBinding -/
theorem laws_toBinding_o (b : B) (c : List T) (hc : b.rep c) (hw : b.wt < 2^40) : OCtr Try.prog 68 [.agg (c.map .t)] (fun s ts => s = .agg ∧ b.rep ts) := by
  obtain ⟨k, nm, g, cs, rfl, hv⟩ := B.cells hc
  rw [B.wt] at hw
  unfold OCtr
  refine Ctr.of_vc (rs := [.cell 2 84]) (fn := Try.f68) mixed Try.func68 rfl rfl (by kernel_rfl) (by kernel_rfl) (by simp [Try.ntmps68]) (fun h0 => ?_)
  refine vc_seq fun K1 hK1 => ?_
  refine vc_reg ?_
  try simp (disch := omega) only [go_sem, ↓reduceIte, Nat.reduceEqDiff, reduceCtorEq, Nat.reduceAdd, Nat.reduceLeDiff, Nat.reduceMul, Int.reduceNeg, Int.reduceLT, Int.reduceAdd, Int.reduceSub]
  intro g0_0 hg0_0
  intro g0_1 hg0_1
  refine hK1 _ ?_
  refine vc_seq fun K2 hK2 => ?_
  refine vc_reg ?_
  try simp (disch := omega) only [go_sem, ↓reduceIte, Nat.reduceEqDiff, reduceCtorEq, Nat.reduceAdd, Nat.reduceLeDiff, Nat.reduceMul, Int.reduceNeg, Int.reduceLT, Int.reduceAdd, Int.reduceSub]
  intro g1_0 hg1_0
  refine hK2 _ ?_
  refine vc_seq fun K3 hK3 => ?_
  refine vc_reg ?_
  try simp (disch := omega) only [go_sem, ↓reduceIte, Nat.reduceEqDiff, reduceCtorEq, Nat.reduceAdd, Nat.reduceLeDiff, Nat.reduceMul, Int.reduceNeg, Int.reduceLT, Int.reduceAdd, Int.reduceSub]
  refine hK3 _ ?_
  refine vc_seq fun K4 hK4 => ?_
  refine vc_reg ?_
  try simp (disch := omega) only [go_sem, ↓reduceIte, Nat.reduceEqDiff, reduceCtorEq, Nat.reduceAdd, Nat.reduceLeDiff, Nat.reduceMul, Int.reduceNeg, Int.reduceLT, Int.reduceAdd, Int.reduceSub]
  refine x_callO (caps := []) [] [.agg (List.map V.t [.int .i64 k, .str nm, .sl g cs])] _ (laws_toExpr_o b.va _ hv (by omega)) (by first | rfl | simp (disch := omega) only [go_sem, ↓reduceIte, Nat.reduceEqDiff, reduceCtorEq, Nat.reduceAdd, Nat.reduceLeDiff, Nat.reduceMul, Int.reduceNeg, Int.reduceLT, Int.reduceAdd, Int.reduceSub]) ?_ ?_
  · exact Subs.of_eq (by first | rfl | simp (disch := omega) only [go_sem, ↓reduceIte, Nat.reduceEqDiff, reduceCtorEq, Nat.reduceAdd, Nat.reduceLeDiff, Nat.reduceMul, Int.reduceNeg, Int.reduceLT, Int.reduceAdd, Int.reduceSub])
  rintro s d4 vs4 S4 σ4 h4 ⟨rfl, hE4⟩ hT4 hk4 hS4 hl4 hh4
  obtain ⟨dd, vv, gg, ccs, hdd, rfl, hTd, hEd, hRd⟩ := E.own_cells hT4 hE4
  have k1 : σ4[1]? = some _ := hk4 1 (by simp)
  have k2 : σ4[2]? = some _ := hk4 2 (by simp)
  have hvl := hTd.leaf
  have hl2 : 2 < σ4.length := hl4
  have hl1 : 1 < σ4.length := by omega
  have hS3 : ∀ r ∈ S4, 3 ≤ r := hS4
  try simp (disch := omega) only [go_sem, ↓reduceIte, Nat.reduceEqDiff, reduceCtorEq, Nat.reduceAdd, Nat.reduceLeDiff, Nat.reduceMul, Int.reduceNeg, Int.reduceLT, Int.reduceAdd, Int.reduceSub, k2, setV, hvl, List.getElem?_set, hl2, List.all_cons, List.all_nil, Bool.and_true, Bool.and_self]
  refine hK4 _ ?_
  refine vc_seq fun K5 hK5 => ?_
  refine vc_reg ?_
  try simp (disch := omega) only [go_sem, ↓reduceIte, Nat.reduceEqDiff, reduceCtorEq, Nat.reduceAdd, Nat.reduceLeDiff, Nat.reduceMul, Int.reduceNeg, Int.reduceLT, Int.reduceAdd, Int.reduceSub, k1, k2, List.getElem?_set, hl2, hl1, List.length_set, Nat.reduceEqDiff, setV, hvl, List.all_cons, List.all_nil, Bool.and_true, Bool.and_self]
  refine hK5 _ ?_
  refine vc_ret ?_
  refine retO (h0 := h0) (Q := (fun s ts => s = .agg ∧ b.rep ts)) .agg (ds := .t (.str b.nm) :: d4) (S := S4) (ws := [.t (.str b.nm), .t (.int .i64 b.va.kind), .t (.str b.va.name), vv]) (vs := [.agg [.t (.str b.nm), .t (.int .i64 b.va.kind), .t (.str b.va.name), vv]]) ?_ rfl trivial (TrL_leaf Tr_str (hT4.keep (fun r hr => by have := hS3 r hr; rw [List.getElem?_set_ne (by omega), List.getElem?_set_ne (by omega)]))) ⟨rfl, by rw [D.erL]; exact B.rep_of hE4⟩
  simp (disch := omega) only [go_sem, resQ, List.mapM_cons, List.mapM_nil, k1, k2, List.getElem?_set, hl2, hl1, List.length_set, Nat.reduceEqDiff, ↓reduceIte, reduceCtorEq, Nat.reduceAdd, Nat.reduceLeDiff, setV]
  rfl

/-- laws.toBindingS -/
theorem laws_toBindingS_o (g : Nat) (us : List B) (cs : List (List T)) (ha : Rl B.rep us cs) (hl : us.length < 2^40) (ih : ∀ a ∈ us, ∀ (c : List T), a.rep c → OCtr Try.prog 68 [.agg (c.map .t)] (fun s ts => s = .agg ∧ a.rep ts)) : OCtr Try.prog 40 [.t (.sl g cs)] (fun s ts => s = .one ∧ ∃ g' cs', ts = [.sl g' cs'] ∧ Rl B.rep us cs') := by
  have hcl := ha.len
  unfold OCtr
  refine Ctr.of_vc (rs := [.tmp 2]) (fn := Try.f40) mixed Try.func40 rfl rfl (by kernel_rfl) (by kernel_rfl) (by simp [Try.ntmps40]) (fun h0 => ?_)
  refine vc_seq fun K1 hK1 => ?_
  refine vc_reg ?_
  try simp (disch := omega) only [go_sem, ↓reduceIte, Nat.reduceEqDiff, reduceCtorEq, Nat.reduceAdd, Nat.reduceLeDiff, Nat.reduceMul, Int.reduceNeg, Int.reduceLT, Int.reduceAdd, Int.reduceSub, hcl, Int.toNat_natCast]
  refine hK1 _ ?_
  refine vc_seq fun K2 hK2 => ?_
  refine vc_reg ?_
  try simp (disch := omega) only [go_sem, ↓reduceIte, Nat.reduceEqDiff, reduceCtorEq, Nat.reduceAdd, Nat.reduceLeDiff, Nat.reduceMul, Int.reduceNeg, Int.reduceLT, Int.reduceAdd, Int.reduceSub, hcl, Int.toNat_natCast]
  refine ⟨by simp [mkOk]; omega, fun g1_2 hg1_2 => ?_⟩
  try simp (disch := omega) only [go_sem, ↓reduceIte, Nat.reduceEqDiff, reduceCtorEq, Nat.reduceAdd, Nat.reduceLeDiff, Nat.reduceMul, Int.reduceNeg, Int.reduceLT, Int.reduceAdd, Int.reduceSub, hcl, Int.toNat_natCast]
  refine hK2 _ ?_
  refine vc_seq fun K3 hK3 => ?_
  refine vc_seq fun K4 hK4 => ?_
  refine vc_reg ?_
  try simp (disch := omega) only [go_sem, ↓reduceIte, Nat.reduceEqDiff, reduceCtorEq, Nat.reduceAdd, Nat.reduceLeDiff, Nat.reduceMul, Int.reduceNeg, Int.reduceLT, Int.reduceAdd, Int.reduceSub, hcl, Int.toNat_natCast]
  refine hK4 _ ?_
  refine vc_block ?_
  refine vc_loop (fun m s => ∃ (n g' : Nat) (ds : List (List D)) (S : List Nat) (acc : List (List V)) (σ1 : List Ob), (m = us.length - n) ∧ (s.σ = σ1) ∧ (s.env 0 = .t (.sl g cs)) ∧ (s.env 3 = .own 0 0 0 us.length) ∧ (s.env 4 = .t (.int .i64 n)) ∧ (n ≤ us.length) ∧ (σ1[0]? = some (.row g' 0 4 (us.length * 4) (acc ++ List.replicate (us.length - n) [V.t (.str ⟨#[]⟩), V.t (.int .i64 0), V.t (.str ⟨#[]⟩), V.nil0]))) ∧ (TrLL σ1 ds S acc) ∧ (0 ∉ S) ∧ (Rl B.rep (us.take n) (D.erLL ds))) (us.length - 0) ⟨0, g1_2, [], [], [], _, rfl, (by first | rfl | simp), (by first | rfl | assumption | (simp (disch := omega) only [go_sem, ↓reduceIte, Nat.reduceEqDiff, reduceCtorEq, Nat.reduceAdd, Nat.reduceLeDiff, Nat.reduceMul, Int.reduceNeg, Int.reduceLT, Int.reduceAdd, Int.reduceSub, hcl, Int.toNat_natCast])), (by first | rfl | assumption | (simp (disch := omega) only [go_sem, ↓reduceIte, Nat.reduceEqDiff, reduceCtorEq, Nat.reduceAdd, Nat.reduceLeDiff, Nat.reduceMul, Int.reduceNeg, Int.reduceLT, Int.reduceAdd, Int.reduceSub, hcl, Int.toNat_natCast])), (by first | rfl | assumption | (simp (disch := omega) only [go_sem, ↓reduceIte, Nat.reduceEqDiff, reduceCtorEq, Nat.reduceAdd, Nat.reduceLeDiff, Nat.reduceMul, Int.reduceNeg, Int.reduceLT, Int.reduceAdd, Int.reduceSub, hcl, Int.toNat_natCast])), (by first | rfl | omega | simp), (by rfl), (by exact TrLL_nil), (by first | rfl | omega | simp), (by exact Rl.nil)⟩ ?_
  rintro m ⟨e, σ, h⟩ ⟨n, g', ds, S, acc, σ1, hm, hσ, e0, e3, e4, hn, hrow, hT, h0S, hrep⟩ K5 hK5
  simp only at hσ e0 e3 e4
  subst hσ
  refine vc_seq fun K6 hK6 => ?_
  refine vc_seq fun K7 hK7 => ?_
  refine vc_reg ?_
  try simp (disch := omega) only [go_sem, ↓reduceIte, Nat.reduceEqDiff, reduceCtorEq, Nat.reduceAdd, Nat.reduceLeDiff, Nat.reduceMul, Int.reduceNeg, Int.reduceLT, Int.reduceAdd, Int.reduceSub, e0, e3, e4, hcl, Int.toNat_natCast]
  refine hK7 _ ?_
  refine vc_cond (t := _) (by first | rfl | (simp (disch := omega) only [go_sem, ↓reduceIte, Nat.reduceEqDiff, reduceCtorEq, Nat.reduceAdd, Nat.reduceLeDiff, Nat.reduceMul, Int.reduceNeg, Int.reduceLT, Int.reduceAdd, Int.reduceSub, e0, e3, e4, hcl, Int.toNat_natCast]; rfl)) (fun hc1 => ?_) (fun hc1 => ?_)
  · (try simp only [go_sem] at hc1)
    refine vc_skip ?_
    refine hK6 _ ?_
    refine vc_seq fun K8 hK8 => ?_
    refine vc_block ?_
    obtain ⟨cc, hcc, hrc⟩ := Rl.get ha (n := n) (by omega)
    obtain ⟨kc_, nc_, gc_, csc_, rfl, hvc_⟩ := B.cells hrc
    have hlt0 := (List.getElem?_eq_some_iff.1 hrow).1
    have hal : acc.length = n := by have h1 := hT.len; have h2 := hrep.len; rw [D.erLL_len] at h2; simp at h2; omega
    have hget := fill_get acc (us.length - n) [V.t (.str ⟨#[]⟩), V.t (.int .i64 0), V.t (.str ⟨#[]⟩), V.nil0] (by omega)
    have hset := fun v => fill_set acc (us.length - n) [V.t (.str ⟨#[]⟩), V.t (.int .i64 0), V.t (.str ⟨#[]⟩), V.nil0] v (by omega)
    rw [hal] at hget
    simp only [hal] at hset
    have hsub : us.length - n - 1 = us.length - (n + 1) := by omega
    simp only [hsub] at hset
    refine vc_reg ?_
    try simp (disch := omega) only [go_sem, ↓reduceIte, Nat.reduceEqDiff, reduceCtorEq, Nat.reduceAdd, Nat.reduceLeDiff, Nat.reduceMul, Int.reduceNeg, Int.reduceLT, Int.reduceAdd, Int.reduceSub, e0, e3, e4, hcl, Int.toNat_natCast, hcc, show n < us.length by omega]
    refine x_callO (caps := []) [] [.agg (List.map V.t [.str us[n].nm, .int .i64 kc_, .str nc_, .sl gc_ csc_])] _ (ih _ (List.getElem_mem (show n < us.length by omega)) _ hrc) (by first | rfl | simp (disch := omega) only [go_sem, ↓reduceIte, Nat.reduceEqDiff, reduceCtorEq, Nat.reduceAdd, Nat.reduceLeDiff, Nat.reduceMul, Int.reduceNeg, Int.reduceLT, Int.reduceAdd, Int.reduceSub, e0, e3, e4, hcl, Int.toNat_natCast, hcc, show n < us.length by omega]) ?_ ?_
    · exact Subs.of_eq (by first | rfl | simp (disch := omega) only [go_sem, ↓reduceIte, Nat.reduceEqDiff, reduceCtorEq, Nat.reduceAdd, Nat.reduceLeDiff, Nat.reduceMul, Int.reduceNeg, Int.reduceLT, Int.reduceAdd, Int.reduceSub, e0, e3, e4, hcl, Int.toNat_natCast, hcc, show n < us.length by omega])
    rintro s d5 v5 S5 σ5 h5 ⟨rfl, hE5⟩ hT5 hk5 hS5 hl5 hh5
    obtain ⟨dd, vv, gg, ccs, hdd, rfl, hTd, hEd, hRd⟩ := B.own_cells hT5 hE5
    have hrow5 := (hk5 0 hlt0).trans hrow
    have hvl := hTd.leaf
    try simp (disch := omega) only [go_sem, ↓reduceIte, Nat.reduceEqDiff, reduceCtorEq, Nat.reduceAdd, Nat.reduceLeDiff, Nat.reduceMul, Int.reduceNeg, Int.reduceLT, Int.reduceAdd, Int.reduceSub, e0, e3, e4, hcl, Int.toNat_natCast, hrow5, hget, hset, show n < us.length by omega, setV, hvl, List.all_cons, List.all_nil, Bool.and_true, Bool.and_self]
    refine hK8 _ ?_
    refine vc_reg ?_
    try simp (disch := omega) only [go_sem, ↓reduceIte, Nat.reduceEqDiff, reduceCtorEq, Nat.reduceAdd, Nat.reduceLeDiff, Nat.reduceMul, Int.reduceNeg, Int.reduceLT, Int.reduceAdd, Int.reduceSub, e0, e3, e4, hcl, Int.toNat_natCast]
    have h0S5 : 0 ∉ S5 := fun hx => by have := hS5 0 hx; omega
    refine hK5 _ _ ?_ ⟨n + 1, g', ds ++ [d5], S ++ S5, acc ++ [[.t (.str us[n].nm), .t (.int .i64 us[n].va.kind), .t (.str us[n].va.name), vv]], _, rfl, (by first | rfl | simp), (by first | rfl | assumption | (simp (disch := omega) only [go_sem, ↓reduceIte, Nat.reduceEqDiff, reduceCtorEq, Nat.reduceAdd, Nat.reduceLeDiff, Nat.reduceMul, Int.reduceNeg, Int.reduceLT, Int.reduceAdd, Int.reduceSub, e0, e3, e4, hcl, Int.toNat_natCast])), (by first | rfl | assumption | (simp (disch := omega) only [go_sem, ↓reduceIte, Nat.reduceEqDiff, reduceCtorEq, Nat.reduceAdd, Nat.reduceLeDiff, Nat.reduceMul, Int.reduceNeg, Int.reduceLT, Int.reduceAdd, Int.reduceSub, e0, e3, e4, hcl, Int.toNat_natCast])), (by first | rfl | assumption | (simp (disch := omega) only [go_sem, ↓reduceIte, Nat.reduceEqDiff, reduceCtorEq, Nat.reduceAdd, Nat.reduceLeDiff, Nat.reduceMul, Int.reduceNeg, Int.reduceLT, Int.reduceAdd, Int.reduceSub, e0, e3, e4, hcl, Int.toNat_natCast])), ?_, ?_, ?_, ?_, ?_⟩
    · omega
    · first | omega | assumption | rfl | simp_all
    · exact List.getElem?_set_self (by omega)
    · exact ((hT.keep (fun r hr => hk5 r (hT.lt r hr))).app (TrLL_one hT5) (fun r hr hx => by have h1 := hT.lt r hr; have h2 := hS5 r hx; omega)).keep (fun r hr => List.getElem?_set_ne (fun he => by subst he; exact (List.mem_append.1 hr).elim h0S h0S5))
    · exact fun hx => (List.mem_append.1 hx).elim h0S h0S5
    · rw [List.take_add_one, List.getElem?_eq_getElem (by omega), D.erLL_app]; exact Rl.append hrep (Rl.one hE5)
  · (try simp only [go_sem] at hc1)
    refine vc_exit ?_
    refine hK3 _ ?_
    refine vc_seq fun K9 hK9 => ?_
    refine vc_reg ?_
    try simp (disch := omega) only [go_sem, ↓reduceIte, Nat.reduceEqDiff, reduceCtorEq, Nat.reduceAdd, Nat.reduceLeDiff, Nat.reduceMul, Int.reduceNeg, Int.reduceLT, Int.reduceAdd, Int.reduceSub, e0, e3, e4, hcl, Int.toNat_natCast]
    refine hK9 _ ?_
    refine vc_ret ?_
    have hfin : acc ++ List.replicate (us.length - n) [V.t (.str ⟨#[]⟩), V.t (.int .i64 0), V.t (.str ⟨#[]⟩), V.nil0] = acc := by rw [show us.length - n = 0 by omega]; simp
    rw [hfin] at hrow
    rw [List.take_of_length_le (by omega)] at hrep
    have hlen : acc.length = us.length := by have h1 := hT.len; have h2 := hrep.len; rw [D.erLL_len] at h2; omega
    refine retO (h0 := h0) (Q := (fun s ts => s = .one ∧ ∃ g' cs', ts = [.sl g' cs'] ∧ Rl B.rep us cs')) .one (ds := [.ow g' 4 ds]) (S := 0 :: S) (ws := [.own 0 0 0 us.length]) rfl rfl trivial (TrL_one ?_) ⟨rfl, g', D.erLL ds, by rw [D.erL, D.erL, D.er], hrep⟩
    rw [Tr]
    exact ⟨0, 0, _, acc, S, rfl, h0S, by rw [hlen], hrow, hT, hT.lens (Rl.all B.len4 hrep)⟩

/-- laws.markBindingS -/
theorem laws_markBindingS_r (us : List B) (k g : Nat) (ds : List (List D)) (σ : List Ob) (r ver mm : Nat) (es : List (List V)) (S' : List Nat) (hS : List.range σ.length = r :: S') (hr : r ∉ S') (hrow : σ[r]? = some (.row g ver 4 mm es)) (hT : TrLL σ ds S' es) (hz : ∀ e ∈ es, e.length = 4) (hrep : Rl B.rep us (D.erLL ds)) (hk : 0 < k ∧ k + wl B.pl us ≤ 2^60) : Ctr Try.prog 43 [.own r ver 0 es.length, .t (.int .i64 k)] σ (fun _ _ r' σ' => r' = .t (.int .i64 ((k + wl B.pl us : Nat) : Int)) ∧ (∃ ds', TrL σ' ds' (List.range σ'.length) [V.own r ver 0 es.length] ∧ (fun ts => ∃ g cs, ts = [.sl g cs] ∧ Rl B.rep (B.mkL us k) cs) (D.erL ds')) ∧ σ'.length = σ.length ∧ (∀ (r : Nat) (o : Ob), σ[r]? = some o → ∃ o' : Ob, σ'[r]? = some o' ∧ o.le o')) := by
  have hlb := wl_len B.pl us
  have hlen : es.length = us.length := by have h1 := hT.len; have h2 := hrep.len; rw [D.erLL_len] at h2; omega
  refine Ctr.of_vc (rs := [.tmp 4]) (fn := Try.f43) mixed Try.func43 rfl rfl (by kernel_rfl) (by kernel_rfl) (by simp [Try.ntmps43]) (fun h0 => ?_)
  refine vc_seq fun K1 hK1 => ?_
  refine vc_reg ?_
  try simp (disch := omega) only [go_sem, ↓reduceIte, Nat.reduceEqDiff, reduceCtorEq, Nat.reduceAdd, Nat.reduceLeDiff, Nat.reduceMul, Int.reduceNeg, Int.reduceLT, Int.reduceAdd, Int.reduceSub]
  refine hK1 _ ?_
  refine vc_seq fun K2 hK2 => ?_
  refine vc_seq fun K3 hK3 => ?_
  refine vc_reg ?_
  try simp (disch := omega) only [go_sem, ↓reduceIte, Nat.reduceEqDiff, reduceCtorEq, Nat.reduceAdd, Nat.reduceLeDiff, Nat.reduceMul, Int.reduceNeg, Int.reduceLT, Int.reduceAdd, Int.reduceSub]
  refine hK3 _ ?_
  refine vc_block ?_
  refine vc_loop (fun m s => ∃ (n : Nat) (dn : List (List D)) (en : List (List V)) (σ1 : List Ob), (m = us.length - n) ∧ (s.σ = σ1) ∧ (s.env 0 = .own r ver 0 es.length) ∧ (s.env 1 = .t (.int .i64 ((k + wl B.pl (us.take n) : Nat) : Int))) ∧ (s.env 5 = .t (.int .i64 n)) ∧ (n ≤ us.length) ∧ (σ1[r]? = some (.row g ver 4 mm en)) ∧ (en.length = es.length) ∧ (TrLL σ1 dn S' en) ∧ (Rl B.rep (B.mkL (us.take n) k ++ us.drop n) (D.erLL dn)) ∧ (σ1.length = σ.length) ∧ (∀ (q : Nat) (o : Ob), σ[q]? = some o → ∃ o' : Ob, σ1[q]? = some o' ∧ o.le o') ∧ (∀ e ∈ en, e.length = 4)) (us.length - 0) ⟨0, ds, es, _, rfl, (by first | rfl | simp), (by first | rfl | assumption | (simp (disch := omega) only [go_sem, ↓reduceIte, Nat.reduceEqDiff, reduceCtorEq, Nat.reduceAdd, Nat.reduceLeDiff, Nat.reduceMul, Int.reduceNeg, Int.reduceLT, Int.reduceAdd, Int.reduceSub])), (by first | rfl | assumption | (simp (disch := omega) only [go_sem, ↓reduceIte, Nat.reduceEqDiff, reduceCtorEq, Nat.reduceAdd, Nat.reduceLeDiff, Nat.reduceMul, Int.reduceNeg, Int.reduceLT, Int.reduceAdd, Int.reduceSub])), (by first | rfl | assumption | (simp (disch := omega) only [go_sem, ↓reduceIte, Nat.reduceEqDiff, reduceCtorEq, Nat.reduceAdd, Nat.reduceLeDiff, Nat.reduceMul, Int.reduceNeg, Int.reduceLT, Int.reduceAdd, Int.reduceSub])), (by first | rfl | omega | simp), (by exact hrow), (by first | rfl | omega | simp), (by exact hT), (by exact hrep), (by first | rfl | omega | simp), (by exact le_self σ), (by exact hz)⟩ ?_
  rintro m ⟨e, σ, h⟩ ⟨n, dn, en, σ1, hm, hσ, e0, e1, e5, hn, hrow1, hel, hT1, hrep1, hl1, hle1, hz1⟩ K4 hK4
  simp only at hσ e0 e1 e5
  subst hσ
  refine vc_seq fun K5 hK5 => ?_
  refine vc_seq fun K6 hK6 => ?_
  refine vc_reg ?_
  try simp (disch := omega) only [go_sem, ↓reduceIte, Nat.reduceEqDiff, reduceCtorEq, Nat.reduceAdd, Nat.reduceLeDiff, Nat.reduceMul, Int.reduceNeg, Int.reduceLT, Int.reduceAdd, Int.reduceSub, e0, e1, e5, hrow1, hlen]
  refine hK6 _ ?_
  refine vc_cond (t := _) (by first | rfl | (simp (disch := omega) only [go_sem, ↓reduceIte, Nat.reduceEqDiff, reduceCtorEq, Nat.reduceAdd, Nat.reduceLeDiff, Nat.reduceMul, Int.reduceNeg, Int.reduceLT, Int.reduceAdd, Int.reduceSub, e0, e1, e5]; rfl)) (fun hc1 => ?_) (fun hc1 => ?_)
  · (try simp only [go_sem] at hc1)
    refine vc_skip ?_
    refine hK5 _ ?_
    refine vc_seq fun K7 hK7 => ?_
    refine vc_block ?_
    refine vc_seq fun K8 hK8 => ?_
    have hlt : n < us.length := by omega
    have hln : n < es.length := by omega
    have hdl : dn.length = us.length := by have h1 := hT1.len; omega
    obtain ⟨cn, Sn, hgn, hSn, hTn, hfoc⟩ := hT1.focus (n := n) (by omega)
    have hrn := Rl.at_ hrep1 (B.mkL_at hlt) (D.erLL_get (l := dn) (n := n) (by omega))
    obtain ⟨d2, v2, g2, c2, hdn, rfl, hT2, hE2, hR2⟩ := B.own_cells hTn hrn
    have hrl := (List.getElem?_eq_some_iff.1 hrow1).1
    have hnl : n < en.length := by omega
    have hrS : r ∉ Sn := fun hx => hr (hSn r hx)
    have hKb := wl_le (f := B.pl) (l := us) (n + 1)
    have hKn : k + wl B.pl (us.take n) + 3 + 2 * E.szL us[n].va.args = k + wl B.pl (us.take (n + 1)) := by rw [wl_take hlt, B.pl, E.sz_args]; omega
    rw [wl_take hlt, B.pl, E.sz_args] at hKb
    have hvl := hT2.leaf
    refine vc_reg ?_
    try simp (disch := omega) only [go_sem, ↓reduceIte, Nat.reduceEqDiff, reduceCtorEq, Nat.reduceAdd, Nat.reduceLeDiff, Nat.reduceMul, Int.reduceNeg, Int.reduceLT, Int.reduceAdd, Int.reduceSub, e0, e1, e5, hln]
    refine vcX_call _ _ (laws_markText (k + wl B.pl (us.take n)) (by omega)) (by first | rfl | (simp (disch := omega) only [go_sem, ↓reduceIte, Nat.reduceEqDiff, reduceCtorEq, Nat.reduceAdd, Nat.reduceLeDiff, Nat.reduceMul, Int.reduceNeg, Int.reduceLT, Int.reduceAdd, Int.reduceSub, e0, e1, e5, hln])) (by first | rfl | (simp (disch := omega) only [go_sem, ↓reduceIte, Nat.reduceEqDiff, reduceCtorEq, Nat.reduceAdd, Nat.reduceLeDiff, Nat.reduceMul, Int.reduceNeg, Int.reduceLT, Int.reduceAdd, Int.reduceSub, e0, e1, e5, hln])) (by first | rfl | simp [V.pures, V.pure, V.pures_t]) ?_
    rintro r4_3 h4_3 hh4_3 rfl -
    try simp (disch := omega) only [go_sem, ↓reduceIte, Nat.reduceEqDiff, reduceCtorEq, Nat.reduceAdd, Nat.reduceLeDiff, Nat.reduceMul, Int.reduceNeg, Int.reduceLT, Int.reduceAdd, Int.reduceSub, e0, e1, e5, hrow1, hgn, hln, setV, hvl, List.all_cons, List.all_nil, Bool.and_true, Bool.and_self]
    refine hK8 _ ?_
    refine vc_seq fun K9 hK9 => ?_
    refine vc_reg ?_
    try simp (disch := omega) only [go_sem, ↓reduceIte, Nat.reduceEqDiff, reduceCtorEq, Nat.reduceAdd, Nat.reduceLeDiff, Nat.reduceMul, Int.reduceNeg, Int.reduceLT, Int.reduceAdd, Int.reduceSub, e0, e1, e5, w64 (show -9223372036854775808 ≤ (((k + wl B.pl (us.take n) : Nat) : Int)) + 1 ∧ (((k + wl B.pl (us.take n) : Nat) : Int)) + 1 ≤ 9223372036854775807 by omega), show (((k + wl B.pl (us.take n) : Nat) : Int)) + 1 = ((k + wl B.pl (us.take n) + 1 : Nat) : Int) by omega]
    refine hK9 _ ?_
    refine vc_seq fun K10 hK10 => ?_
    have hrow1_ : (σ.set r (.row g ver 4 mm (en.set n [V.t (.str (mtx (k + wl B.pl (us.take n)))), V.t (.int .i64 us[n].va.kind), V.t (.str us[n].va.name), v2])))[r]? = some (.row g ver 4 mm (en.set n [V.t (.str (mtx (k + wl B.pl (us.take n)))), V.t (.int .i64 us[n].va.kind), V.t (.str us[n].va.name), v2])) := List.getElem?_set_self hrl
    have hgn1_ : (en.set n [V.t (.str (mtx (k + wl B.pl (us.take n)))), V.t (.int .i64 us[n].va.kind), V.t (.str us[n].va.name), v2])[n]? = some [V.t (.str (mtx (k + wl B.pl (us.take n)))), V.t (.int .i64 us[n].va.kind), V.t (.str us[n].va.name), v2] := List.getElem?_set_self hnl
    have hrow2_ : (σ.set r (.row g ver 4 mm (en.set n [V.t (.str (mtx (k + wl B.pl (us.take n)))), V.t (.int .i64 ((k + wl B.pl (us.take n) + 1 : Nat) : Int)), V.t (.str us[n].va.name), v2])))[r]? = some (.row g ver 4 mm (en.set n [V.t (.str (mtx (k + wl B.pl (us.take n)))), V.t (.int .i64 ((k + wl B.pl (us.take n) + 1 : Nat) : Int)), V.t (.str us[n].va.name), v2])) := List.getElem?_set_self hrl
    have hgn2_ : (en.set n [V.t (.str (mtx (k + wl B.pl (us.take n)))), V.t (.int .i64 ((k + wl B.pl (us.take n) + 1 : Nat) : Int)), V.t (.str us[n].va.name), v2])[n]? = some [V.t (.str (mtx (k + wl B.pl (us.take n)))), V.t (.int .i64 ((k + wl B.pl (us.take n) + 1 : Nat) : Int)), V.t (.str us[n].va.name), v2] := List.getElem?_set_self hnl
    have hrow3_ : (σ.set r (.row g ver 4 mm (en.set n [V.t (.str (mtx (k + wl B.pl (us.take n)))), V.t (.int .i64 ((k + wl B.pl (us.take n) + 1 : Nat) : Int)), V.t (.str (mtx (k + wl B.pl (us.take n) + 2))), v2])))[r]? = some (.row g ver 4 mm (en.set n [V.t (.str (mtx (k + wl B.pl (us.take n)))), V.t (.int .i64 ((k + wl B.pl (us.take n) + 1 : Nat) : Int)), V.t (.str (mtx (k + wl B.pl (us.take n) + 2))), v2])) := List.getElem?_set_self hrl
    have hgn3_ : (en.set n [V.t (.str (mtx (k + wl B.pl (us.take n)))), V.t (.int .i64 ((k + wl B.pl (us.take n) + 1 : Nat) : Int)), V.t (.str (mtx (k + wl B.pl (us.take n) + 2))), v2])[n]? = some [V.t (.str (mtx (k + wl B.pl (us.take n)))), V.t (.int .i64 ((k + wl B.pl (us.take n) + 1 : Nat) : Int)), V.t (.str (mtx (k + wl B.pl (us.take n) + 2))), v2] := List.getElem?_set_self hnl
    refine vc_reg ?_
    try simp (disch := omega) only [go_sem, ↓reduceIte, Nat.reduceEqDiff, reduceCtorEq, Nat.reduceAdd, Nat.reduceLeDiff, Nat.reduceMul, Int.reduceNeg, Int.reduceLT, Int.reduceAdd, Int.reduceSub, e0, e1, e5, hrow1_, hgn1_, hln, List.set_set, setV, hvl, List.all_cons, List.all_nil, Bool.and_true, Bool.and_self]
    refine hK10 _ ?_
    refine vc_seq fun K11 hK11 => ?_
    refine vc_reg ?_
    try simp (disch := omega) only [go_sem, ↓reduceIte, Nat.reduceEqDiff, reduceCtorEq, Nat.reduceAdd, Nat.reduceLeDiff, Nat.reduceMul, Int.reduceNeg, Int.reduceLT, Int.reduceAdd, Int.reduceSub, e0, e1, e5, w64 (show -9223372036854775808 ≤ (((k + wl B.pl (us.take n) + 1 : Nat) : Int)) + 1 ∧ (((k + wl B.pl (us.take n) + 1 : Nat) : Int)) + 1 ≤ 9223372036854775807 by omega), show (((k + wl B.pl (us.take n) + 1 : Nat) : Int)) + 1 = ((k + wl B.pl (us.take n) + 2 : Nat) : Int) by omega]
    refine hK11 _ ?_
    refine vc_seq fun K12 hK12 => ?_
    refine vc_reg ?_
    try simp (disch := omega) only [go_sem, ↓reduceIte, Nat.reduceEqDiff, reduceCtorEq, Nat.reduceAdd, Nat.reduceLeDiff, Nat.reduceMul, Int.reduceNeg, Int.reduceLT, Int.reduceAdd, Int.reduceSub, e0, e1, e5, hln]
    refine vcX_call _ _ (laws_markText (k + wl B.pl (us.take n) + 2) (by omega)) (by first | rfl | (simp (disch := omega) only [go_sem, ↓reduceIte, Nat.reduceEqDiff, reduceCtorEq, Nat.reduceAdd, Nat.reduceLeDiff, Nat.reduceMul, Int.reduceNeg, Int.reduceLT, Int.reduceAdd, Int.reduceSub, e0, e1, e5, hln])) (by first | rfl | (simp (disch := omega) only [go_sem, ↓reduceIte, Nat.reduceEqDiff, reduceCtorEq, Nat.reduceAdd, Nat.reduceLeDiff, Nat.reduceMul, Int.reduceNeg, Int.reduceLT, Int.reduceAdd, Int.reduceSub, e0, e1, e5, hln])) (by first | rfl | simp [V.pures, V.pure, V.pures_t]) ?_
    rintro r8_3 h8_3 hh8_3 rfl -
    try simp (disch := omega) only [go_sem, ↓reduceIte, Nat.reduceEqDiff, reduceCtorEq, Nat.reduceAdd, Nat.reduceLeDiff, Nat.reduceMul, Int.reduceNeg, Int.reduceLT, Int.reduceAdd, Int.reduceSub, e0, e1, e5, hrow2_, hgn2_, hln, List.set_set, setV, hvl, List.all_cons, List.all_nil, Bool.and_true, Bool.and_self]
    refine hK12 _ ?_
    refine vc_seq fun K13 hK13 => ?_
    refine vc_reg ?_
    try simp (disch := omega) only [go_sem, ↓reduceIte, Nat.reduceEqDiff, reduceCtorEq, Nat.reduceAdd, Nat.reduceLeDiff, Nat.reduceMul, Int.reduceNeg, Int.reduceLT, Int.reduceAdd, Int.reduceSub, e0, e1, e5, w64 (show -9223372036854775808 ≤ (((k + wl B.pl (us.take n) + 2 : Nat) : Int)) + 1 ∧ (((k + wl B.pl (us.take n) + 2 : Nat) : Int)) + 1 ≤ 9223372036854775807 by omega), show (((k + wl B.pl (us.take n) + 2 : Nat) : Int)) + 1 = ((k + wl B.pl (us.take n) + 3 : Nat) : Int) by omega]
    refine hK13 _ ?_
    refine vc_reg ?_
    try simp (disch := omega) only [go_sem, ↓reduceIte, Nat.reduceEqDiff, reduceCtorEq, Nat.reduceAdd, Nat.reduceLeDiff, Nat.reduceMul, Int.reduceNeg, Int.reduceLT, Int.reduceAdd, Int.reduceSub, e0, e1, e5, hrow3_, hgn3_, hln]
    refine x_callM (laws_markExprS_M us[n].va.args d2 g2 c2 (k + wl B.pl (us.take n) + 3) hE2 hR2 (by omega)) (TrL_one (hT2.keep (fun q hq => List.getElem?_set_ne (fun he => hrS (by rw [he]; exact hq))))) (by first | rfl | simp (disch := omega) only [go_sem, ↓reduceIte, Nat.reduceEqDiff, reduceCtorEq, Nat.reduceAdd, Nat.reduceLeDiff, Nat.reduceMul, Int.reduceNeg, Int.reduceLT, Int.reduceAdd, Int.reduceSub, e0, e1, e5, hrow3_, hgn3_, hln]) (by first | rfl | simp (disch := omega) only [go_sem, ↓reduceIte, Nat.reduceEqDiff, reduceCtorEq, Nat.reduceAdd, Nat.reduceLeDiff, Nat.reduceMul, Int.reduceNeg, Int.reduceLT, Int.reduceAdd, Int.reduceSub, e0, e1, e5, hrow3_, hgn3_, hln]) ?_
    rintro ds3 σ3 h3 hT3 ⟨g3, c3, hE3, hR3⟩ hk3 hl3 hle3 hh3
    obtain ⟨d3, v3, rfl, hv3, hT3, hE3⟩ := hT3.er_one hE3
    obtain rfl : v2 = v3 := by simpa using hv3
    rw [hKn]
    try simp (disch := omega) only [go_sem, ↓reduceIte, Nat.reduceEqDiff, reduceCtorEq, Nat.reduceAdd, Nat.reduceLeDiff, Nat.reduceMul, Int.reduceNeg, Int.reduceLT, Int.reduceAdd, Int.reduceSub, e0, e1, e5, hrow3_, hgn3_, hln]
    refine hK7 _ ?_
    refine vc_reg ?_
    try simp (disch := omega) only [go_sem, ↓reduceIte, Nat.reduceEqDiff, reduceCtorEq, Nat.reduceAdd, Nat.reduceLeDiff, Nat.reduceMul, Int.reduceNeg, Int.reduceLT, Int.reduceAdd, Int.reduceSub, e0, e1, e5]
    refine hK4 _ _ ?_ ⟨n + 1, dn.set n [.t (.str (mtx (k + wl B.pl (us.take n)))), .t (.int .i64 ((k + wl B.pl (us.take n) + 1 : Nat) : Int)), .t (.str (mtx (k + wl B.pl (us.take n) + 2))), d3], en.set n [V.t (.str (mtx (k + wl B.pl (us.take n)))), V.t (.int .i64 ((k + wl B.pl (us.take n) + 1 : Nat) : Int)), V.t (.str (mtx (k + wl B.pl (us.take n) + 2))), v2], _, rfl, (by first | rfl | simp), (by first | rfl | assumption | (simp (disch := omega) only [go_sem, ↓reduceIte, Nat.reduceEqDiff, reduceCtorEq, Nat.reduceAdd, Nat.reduceLeDiff, Nat.reduceMul, Int.reduceNeg, Int.reduceLT, Int.reduceAdd, Int.reduceSub, e0, e1, e5])), (by first | rfl | assumption | (simp (disch := omega) only [go_sem, ↓reduceIte, Nat.reduceEqDiff, reduceCtorEq, Nat.reduceAdd, Nat.reduceLeDiff, Nat.reduceMul, Int.reduceNeg, Int.reduceLT, Int.reduceAdd, Int.reduceSub, e0, e1, e5])), (by first | rfl | assumption | (simp (disch := omega) only [go_sem, ↓reduceIte, Nat.reduceEqDiff, reduceCtorEq, Nat.reduceAdd, Nat.reduceLeDiff, Nat.reduceMul, Int.reduceNeg, Int.reduceLT, Int.reduceAdd, Int.reduceSub, e0, e1, e5])), ?_, ?_, ?_, ?_, ?_, ?_, ?_, ?_⟩
    · omega
    · first | omega | assumption | rfl | simp_all
    · exact (hk3 r hrS).trans hrow3_
    · rw [List.length_set]; exact hel
    · exact hfoc _ _ _ (fun q hq hqn => (hk3 q hqn).trans (List.getElem?_set_ne (fun he => hr (by rw [he]; exact hq)))) (TrL_leaf Tr_str (TrL_leaf Tr_int (TrL_leaf Tr_str (TrL_one hT3))))
    · rw [← B.mkL_set hlt, D.erLL_set]; exact Rl.set hrep1 (B.rep_own hE3 hR3)
    · rw [hl3, List.length_set, hl1]
    · exact le_comp hle1 (le_comp (set_le hrow1 (by rw [List.length_set])) hle3)
    · exact fun e he => (List.mem_or_eq_of_mem_set he).elim (hz1 e) (fun h => by rw [h]; rfl)
  · (try simp only [go_sem] at hc1)
    refine vc_exit ?_
    refine hK2 _ ?_
    refine vc_seq fun K14 hK14 => ?_
    refine vc_reg ?_
    try simp (disch := omega) only [go_sem, ↓reduceIte, Nat.reduceEqDiff, reduceCtorEq, Nat.reduceAdd, Nat.reduceLeDiff, Nat.reduceMul, Int.reduceNeg, Int.reduceLT, Int.reduceAdd, Int.reduceSub, e0, e1, e5]
    refine hK14 _ ?_
    refine vc_ret ?_
    obtain rfl : n = us.length := by omega
    rw [List.take_length, List.drop_length, List.append_nil] at hrep1
    refine retM (h0 := h0) (vs := [.own r ver 0 es.length]) (ds' := [.ow g 4 dn]) (Q' := (fun ts => ∃ g cs, ts = [.sl g cs] ∧ Rl B.rep (B.mkL us k) cs)) rfl ?_ hl1 (TrL_one ?_) ⟨g, D.erLL dn, by rw [D.erL, D.erL, D.er], hrep1⟩ hle1
    · show V.t _ = _
      rw [List.take_length]
    · rw [Tr]
      exact ⟨r, ver, mm, en, S', hS, hr, by rw [hel], hrow1, hT1, hz1⟩

/-- laws.markBindingS -/
theorem laws_markBindingS_n (k : Int) : FCtr Try.prog 43 [.nil0, .t (.int .i64 k)] (fun r => r = .t (.int .i64 k)) := by
  refine Ctr.of_vc (rs := [.tmp 4]) (fn := Try.f43) mixed Try.func43 rfl rfl (by kernel_rfl) (by kernel_rfl) (by simp [Try.ntmps43]) (fun h0 => ?_)
  refine vc_seq fun K1 hK1 => ?_
  refine vc_reg ?_
  try simp (disch := omega) only [go_sem, ↓reduceIte, Nat.reduceEqDiff, reduceCtorEq, Nat.reduceAdd, Nat.reduceLeDiff, Nat.reduceMul, Int.reduceNeg, Int.reduceLT, Int.reduceAdd, Int.reduceSub]
  refine hK1 _ ?_
  refine vc_seq fun K2 hK2 => ?_
  refine vc_seq fun K3 hK3 => ?_
  refine vc_reg ?_
  try simp (disch := omega) only [go_sem, ↓reduceIte, Nat.reduceEqDiff, reduceCtorEq, Nat.reduceAdd, Nat.reduceLeDiff, Nat.reduceMul, Int.reduceNeg, Int.reduceLT, Int.reduceAdd, Int.reduceSub]
  refine hK3 _ ?_
  refine vc_block ?_
  refine vc_loop (fun m s => (m = 0) ∧ (s.σ = []) ∧ (s.env 0 = .nil0) ∧ (s.env 1 = .t (.int .i64 k)) ∧ (s.env 5 = .t (.int .i64 0))) (0) ⟨rfl, rfl, (by first | rfl | assumption | (simp (disch := omega) only [go_sem, ↓reduceIte, Nat.reduceEqDiff, reduceCtorEq, Nat.reduceAdd, Nat.reduceLeDiff, Nat.reduceMul, Int.reduceNeg, Int.reduceLT, Int.reduceAdd, Int.reduceSub])), (by first | rfl | assumption | (simp (disch := omega) only [go_sem, ↓reduceIte, Nat.reduceEqDiff, reduceCtorEq, Nat.reduceAdd, Nat.reduceLeDiff, Nat.reduceMul, Int.reduceNeg, Int.reduceLT, Int.reduceAdd, Int.reduceSub])), (by first | rfl | assumption | (simp (disch := omega) only [go_sem, ↓reduceIte, Nat.reduceEqDiff, reduceCtorEq, Nat.reduceAdd, Nat.reduceLeDiff, Nat.reduceMul, Int.reduceNeg, Int.reduceLT, Int.reduceAdd, Int.reduceSub]))⟩ ?_
  rintro m ⟨e, σ, h⟩ ⟨hm, hσ, e0, e1, e5⟩ K4 hK4
  simp only at hσ e0 e1 e5
  subst hσ
  refine vc_seq fun K5 hK5 => ?_
  refine vc_seq fun K6 hK6 => ?_
  refine vc_reg ?_
  try simp (disch := omega) only [go_sem, ↓reduceIte, Nat.reduceEqDiff, reduceCtorEq, Nat.reduceAdd, Nat.reduceLeDiff, Nat.reduceMul, Int.reduceNeg, Int.reduceLT, Int.reduceAdd, Int.reduceSub, e0, e1, e5]
  refine hK6 _ ?_
  refine vc_cond (t := _) (by first | rfl | (simp (disch := omega) only [go_sem, ↓reduceIte, Nat.reduceEqDiff, reduceCtorEq, Nat.reduceAdd, Nat.reduceLeDiff, Nat.reduceMul, Int.reduceNeg, Int.reduceLT, Int.reduceAdd, Int.reduceSub, e0, e1, e5]; rfl)) (fun hc1 => ?_) (fun hc1 => ?_)
  · exact absurd hc1 (by simp)
  · (try simp only [go_sem] at hc1)
    refine vc_exit ?_
    refine hK2 _ ?_
    refine vc_seq fun K7 hK7 => ?_
    refine vc_reg ?_
    try simp (disch := omega) only [go_sem, ↓reduceIte, Nat.reduceEqDiff, reduceCtorEq, Nat.reduceAdd, Nat.reduceLeDiff, Nat.reduceMul, Int.reduceNeg, Int.reduceLT, Int.reduceAdd, Int.reduceSub, e0, e1, e5]
    refine hK7 _ ?_
    refine vc_ret ?_
    refine ⟨_, by first | rfl | (simp only [go_sem, resQ, List.mapM_cons, List.mapM_nil, ↓reduceIte, Nat.reduceEqDiff, Nat.reduceAdd, Nat.reduceLeDiff, reduceCtorEq]; rfl), [], [], .nil, by simp, by simp, fun hi_ h1_ => ⟨?_, rfl, rfl⟩, by simp⟩
    first | rfl | simp_all

/-- laws.markBindingS -/
theorem laws_markBindingS_0 (g ver sz mm : Nat) (k : Int) : Ctr Try.prog 43 [.own 0 ver 0 0, .t (.int .i64 k)] [.row g ver sz mm []] (fun _ _ r σ' => r = .t (.int .i64 k) ∧ σ' = [.row g ver sz mm []]) := by
  refine Ctr.of_vc (rs := [.tmp 4]) (fn := Try.f43) mixed Try.func43 rfl rfl (by kernel_rfl) (by kernel_rfl) (by simp [Try.ntmps43]) (fun h0 => ?_)
  refine vc_seq fun K1 hK1 => ?_
  refine vc_reg ?_
  try simp (disch := omega) only [go_sem, ↓reduceIte, Nat.reduceEqDiff, reduceCtorEq, Nat.reduceAdd, Nat.reduceLeDiff, Nat.reduceMul, Int.reduceNeg, Int.reduceLT, Int.reduceAdd, Int.reduceSub]
  refine hK1 _ ?_
  refine vc_seq fun K2 hK2 => ?_
  refine vc_seq fun K3 hK3 => ?_
  refine vc_reg ?_
  try simp (disch := omega) only [go_sem, ↓reduceIte, Nat.reduceEqDiff, reduceCtorEq, Nat.reduceAdd, Nat.reduceLeDiff, Nat.reduceMul, Int.reduceNeg, Int.reduceLT, Int.reduceAdd, Int.reduceSub]
  refine hK3 _ ?_
  refine vc_block ?_
  refine vc_loop (fun m s => (m = 0) ∧ (s.σ = [.row g ver sz mm []]) ∧ (s.env 0 = .own 0 ver 0 0) ∧ (s.env 1 = .t (.int .i64 k)) ∧ (s.env 5 = .t (.int .i64 0))) (0) ⟨rfl, (by first | rfl | simp), (by first | rfl | assumption | (simp (disch := omega) only [go_sem, ↓reduceIte, Nat.reduceEqDiff, reduceCtorEq, Nat.reduceAdd, Nat.reduceLeDiff, Nat.reduceMul, Int.reduceNeg, Int.reduceLT, Int.reduceAdd, Int.reduceSub])), (by first | rfl | assumption | (simp (disch := omega) only [go_sem, ↓reduceIte, Nat.reduceEqDiff, reduceCtorEq, Nat.reduceAdd, Nat.reduceLeDiff, Nat.reduceMul, Int.reduceNeg, Int.reduceLT, Int.reduceAdd, Int.reduceSub])), (by first | rfl | assumption | (simp (disch := omega) only [go_sem, ↓reduceIte, Nat.reduceEqDiff, reduceCtorEq, Nat.reduceAdd, Nat.reduceLeDiff, Nat.reduceMul, Int.reduceNeg, Int.reduceLT, Int.reduceAdd, Int.reduceSub]))⟩ ?_
  rintro m ⟨e, σ, h⟩ ⟨hm, hσ, e0, e1, e5⟩ K4 hK4
  simp only at hσ e0 e1 e5
  subst hσ
  refine vc_seq fun K5 hK5 => ?_
  refine vc_seq fun K6 hK6 => ?_
  refine vc_reg ?_
  try simp (disch := omega) only [go_sem, ↓reduceIte, Nat.reduceEqDiff, reduceCtorEq, Nat.reduceAdd, Nat.reduceLeDiff, Nat.reduceMul, Int.reduceNeg, Int.reduceLT, Int.reduceAdd, Int.reduceSub, e0, e1, e5]
  refine hK6 _ ?_
  refine vc_cond (t := _) (by first | rfl | (simp (disch := omega) only [go_sem, ↓reduceIte, Nat.reduceEqDiff, reduceCtorEq, Nat.reduceAdd, Nat.reduceLeDiff, Nat.reduceMul, Int.reduceNeg, Int.reduceLT, Int.reduceAdd, Int.reduceSub, e0, e1, e5]; rfl)) (fun hc1 => ?_) (fun hc1 => ?_)
  · exact absurd hc1 (by simp)
  · (try simp only [go_sem] at hc1)
    refine vc_exit ?_
    refine hK2 _ ?_
    refine vc_seq fun K7 hK7 => ?_
    refine vc_reg ?_
    try simp (disch := omega) only [go_sem, ↓reduceIte, Nat.reduceEqDiff, reduceCtorEq, Nat.reduceAdd, Nat.reduceLeDiff, Nat.reduceMul, Int.reduceNeg, Int.reduceLT, Int.reduceAdd, Int.reduceSub, e0, e1, e5]
    refine hK7 _ ?_
    refine vc_ret ?_
    refine ⟨_, rfl, [0], [], by simp, by simp, by simp, fun hi_ h1_ => ⟨rfl, rfl⟩, ?_⟩
    intro r o ho
    cases r with
    | zero => simp only [List.getElem?_cons_zero, Option.some.injEq] at ho; subst ho; exact ⟨_, rfl, by simp [Ob.loc, Ob.le]⟩
    | succ r => simp at ho

theorem laws_markBindingS_M (us : List B) (d : D) (g : Nat) (cs : List (List T)) (k : Nat) (hd : d.er = .sl g cs) (hrep : Rl B.rep us cs) (hk : 0 < k ∧ k + wl B.pl us ≤ 2^60) : MCtr Try.prog 43 .one [d] k ((k + wl B.pl us : Nat) : Int) (fun ts => ∃ g cs, ts = [.sl g cs] ∧ Rl B.rep (B.mkL us k) cs) := by
  intro σ vs hT
  obtain ⟨v, rfl, h1⟩ := hT.inv_one
  rcases h1.er_sl hd with ⟨rfl, h2, rfl, rfl⟩ | ⟨ds, r, ver, sz, m, es, S', rfl, h2, h3, rfl, h5, h6, hz, h7⟩
  · obtain rfl : us = [] := List.length_eq_zero_iff.1 (by have := hrep.len; simpa using this.symm)
    obtain rfl : σ = [] := List.length_eq_zero_iff.1 (range_nil h2)
    refine Ctr.weaken (laws_markBindingS_n k) (fun lo hi r σ' ⟨h3, _, h5⟩ => ?_)
    subst h5
    exact ⟨h3, ⟨[.nil], TrL_one Tr_nil, 0, [], rfl, Rl.nil⟩, rfl, fun r o h => by simp at h⟩
  · subst h7
    cases us with
    | nil =>
      have hds : D.erLL ds = [] := List.length_eq_zero_iff.1 (by have := hrep.len; simpa using this)
      obtain rfl : ds = [] := List.length_eq_zero_iff.1 (by rw [← D.erLL_len, hds]; rfl)
      obtain rfl : es = [] := List.length_eq_zero_iff.1 h6.len
      rw [TrLL] at h6
      obtain ⟨rfl, _⟩ := h6
      obtain ⟨h8, rfl⟩ := range_one h2
      obtain ⟨o, rfl⟩ := List.length_eq_one_iff.1 h8
      simp only [List.getElem?_cons_zero, Option.some.injEq] at h5
      subst h5
      refine Ctr.weaken (laws_markBindingS_0 g ver sz m k) (fun lo hi r σ' ⟨h3, h4⟩ => ?_)
      subst h4
      exact ⟨h3, ⟨[.ow g sz []], hT, g, [], rfl, Rl.nil⟩, rfl, fun r o h => ⟨o, h, o.le_refl⟩⟩
    | cons a l =>
      have h3' := h6.lens (Rl.all B.len4 hrep)
      obtain rfl : 4 = sz := by
        have hl := h6.len
        have hl2 := hrep.len
        rw [D.erLL_len] at hl2
        cases es with
        | nil => simp at hl hl2; omega
        | cons e0 es0 => rw [← hz e0 List.mem_cons_self, h3' e0 List.mem_cons_self]
      exact laws_markBindingS_r (a :: l) k g ds σ r ver m es S' h2 h3 h5 h6 h3' hrep hk
end Go.Proofs.Ytlooiifgbiedeaa
