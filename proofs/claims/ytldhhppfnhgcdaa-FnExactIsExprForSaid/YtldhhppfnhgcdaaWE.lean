/- Walks through the code: each function's contract. -/
import Derived.Test.YtldhhppfnhgcdaaWD
set_option linter.unusedVariables false
set_option linter.unusedSimpArgs false
set_option maxRecDepth 8000
namespace Go.Proofs.Ytldhhppfnhgcdaa
open Go Go.VL

end Go.Proofs.Ytldhhppfnhgcdaa
namespace Go.VL
mutual
/-- Every node in turn, a node before its arguments. -/
def E.fo (st : E → T → T) : E → T → T
  | .mk k n us, v => E.foL st us (st (.mk k n us) v)
def E.foL (st : E → T → T) : List E → T → T
  | [], v => v
  | e :: l, v => E.foL st l (E.fo st e v)
end
theorem E.foL_drop {st : E → T → T} {l : List E} {n : Nat} {v : T} (h : n < l.length) : E.foL st (l.drop n) v = E.foL st (l.drop (n + 1)) (E.fo st l[n] v) := by rw [drop_get h, E.foL]
theorem E.fo_ok {st : E → T → T} {ok : T → Prop} (h : ∀ x v, ok v → ok (st x v)) : ∀ (e : E) (v : T), ok v → ok (E.fo st e v) := by
  intro e
  induction e using E.ind with
  | h k n us ih =>
    intro v hv
    rw [E.fo]
    have : ∀ (l : List E), (∀ a ∈ l, ∀ v, ok v → ok (E.fo st a v)) → ∀ v, ok v → ok (E.foL st l v) := by
      intro l
      induction l with
      | nil => exact fun _ v hv => hv
      | cons a l ihl => exact fun h v hv => ihl (fun b hb => h b (List.mem_cons_of_mem _ hb)) _ (h a List.mem_cons_self v hv)
    exact this us ih _ (h _ _ hv)
end Go.VL
namespace Go.Proofs.Ytldhhppfnhgcdaa
open Go Go.VL

/-- impl.visit -/
theorem impl_visit1 (f g0 : Nat) (st : E → T → T) (ok : T → Prop) (hok : ∀ x v, ok v → ok (st x v)) (hf : ∀ (x : E) (c : List T) (v : T), x.rep c → ok v → Ctr Try.prog f [.agg (c.map .t), .ptr 0 0 0 0] [.row g0 0 1 1 [[.t v]]] (fun _ _ r σ' => r = .tup [] ∧ σ' = [.row g0 0 1 1 [[.t (st x v)]]])) (e : E) (c : List T) (v : T) (hc : e.rep c) (hv : ok v) (hw : e.wt ≤ 1048576) : Ctr Try.prog 69 [.agg (c.map .t), .fn f [.ptr 0 0 0 0]] [.row g0 0 1 1 [[.t v]]] (fun _ _ r σ' => r = .tup [] ∧ σ' = [.row g0 0 1 1 [[.t (E.fo st e v)]]]) := by
  induction e using E.ind generalizing c v
  rename_i k nm us ih
  obtain ⟨g, cs, rfl, ha⟩ := E.rep_mk hc
  have hc0 := hc
  have hcl := E.repL_len ha
  rw [E.wt] at hw
  have hwl := E.wtL_len us
  rw [E.fo]
  refine Ctr.of_vc (rs := []) (fn := Try.f69) mixed Try.func69 rfl rfl (by kernel_rfl) (by kernel_rfl) (by simp [Try.ntmps69]) (fun h0 => ?_)
  refine vc_seq fun K1 hK1 => ?_
  refine vc_reg ?_
  try simp (disch := omega) only [go_sem, ↓reduceIte, Nat.reduceEqDiff, reduceCtorEq, Nat.reduceAdd, Nat.reduceLeDiff, Nat.reduceMul, Int.reduceNeg, Int.reduceLT, Int.reduceAdd, Int.reduceSub, hcl]
  intro g0_0 hg0_0
  refine hK1 _ ?_
  refine vc_seq fun K2 hK2 => ?_
  refine vc_reg ?_
  try simp (disch := omega) only [go_sem, ↓reduceIte, Nat.reduceEqDiff, reduceCtorEq, Nat.reduceAdd, Nat.reduceLeDiff, Nat.reduceMul, Int.reduceNeg, Int.reduceLT, Int.reduceAdd, Int.reduceSub, hcl]
  refine vcX_callF [0] [] [.agg (List.map V.t [.int .i64 k, .str nm, .sl g cs]), .ptr 0 0 0 0] [.row g0 0 1 1 [[.t v]]] _ (hf _ _ v hc0 hv) (by first | rfl | simp (disch := omega) only [go_sem, ↓reduceIte, Nat.reduceEqDiff, reduceCtorEq, Nat.reduceAdd, Nat.reduceLeDiff, Nat.reduceMul, Int.reduceNeg, Int.reduceLT, Int.reduceAdd, Int.reduceSub, hcl]) (by simp) (by simp) (by simp) rfl (Subs.of_eq (by first | rfl | (simp (disch := omega) only [go_sem, ↓reduceIte, Nat.reduceEqDiff, reduceCtorEq, Nat.reduceAdd, Nat.reduceLeDiff, Nat.reduceMul, Int.reduceNeg, Int.reduceLT, Int.reduceAdd, Int.reduceSub, hcl]) | (simp only [go_sem, V.loc, V.locs, idx]; done))) ?_
  rintro r1_2 σ1_2 h1_2 hh1_2 ⟨rfl, rfl⟩
  refine ⟨by simp, ?_⟩
  try simp (disch := omega) only [go_sem, ↓reduceIte, Nat.reduceEqDiff, reduceCtorEq, Nat.reduceAdd, Nat.reduceLeDiff, Nat.reduceMul, Int.reduceNeg, Int.reduceLT, Int.reduceAdd, Int.reduceSub, hcl]
  refine hK2 _ ?_
  refine vc_seq fun K3 hK3 => ?_
  refine vc_reg ?_
  try simp (disch := omega) only [go_sem, ↓reduceIte, Nat.reduceEqDiff, reduceCtorEq, Nat.reduceAdd, Nat.reduceLeDiff, Nat.reduceMul, Int.reduceNeg, Int.reduceLT, Int.reduceAdd, Int.reduceSub, hcl]
  refine hK3 _ ?_
  refine vc_block ?_
  refine vc_loopG (fun m s => ∃ (n : Nat) (q : T), (m = us.length - n) ∧ (s.σ = [.row g0 0 1 1 [[.t q]], .row g0_0 0 3 3 [[V.t (.int .i64 k), V.t (.str nm), V.t (.sl g cs)]]]) ∧ (s.env 1 = .fn f [.ptr 0 0 0 0]) ∧ (s.env 2 = .ptr 1 0 0 0) ∧ (s.env 10 = .t (.sl g cs)) ∧ (s.env 11 = .t (.int .i64 us.length)) ∧ (s.env 12 = .t (.int .i64 n)) ∧ (n ≤ us.length) ∧ (ok q) ∧ (E.foL st (us.drop n) q = E.foL st us (st (.mk k nm us) v))) (us.length - 0) ⟨0, st (.mk k nm us) v, rfl, (by first | rfl | simp), (by first | rfl | assumption | (simp (disch := omega) only [go_sem, ↓reduceIte, Nat.reduceEqDiff, reduceCtorEq, Nat.reduceAdd, Nat.reduceLeDiff, Nat.reduceMul, Int.reduceNeg, Int.reduceLT, Int.reduceAdd, Int.reduceSub, hcl])), (by first | rfl | assumption | (simp (disch := omega) only [go_sem, ↓reduceIte, Nat.reduceEqDiff, reduceCtorEq, Nat.reduceAdd, Nat.reduceLeDiff, Nat.reduceMul, Int.reduceNeg, Int.reduceLT, Int.reduceAdd, Int.reduceSub, hcl])), (by first | rfl | assumption | (simp (disch := omega) only [go_sem, ↓reduceIte, Nat.reduceEqDiff, reduceCtorEq, Nat.reduceAdd, Nat.reduceLeDiff, Nat.reduceMul, Int.reduceNeg, Int.reduceLT, Int.reduceAdd, Int.reduceSub, hcl])), (by first | rfl | assumption | (simp (disch := omega) only [go_sem, ↓reduceIte, Nat.reduceEqDiff, reduceCtorEq, Nat.reduceAdd, Nat.reduceLeDiff, Nat.reduceMul, Int.reduceNeg, Int.reduceLT, Int.reduceAdd, Int.reduceSub, hcl])), (by first | rfl | assumption | (simp (disch := omega) only [go_sem, ↓reduceIte, Nat.reduceEqDiff, reduceCtorEq, Nat.reduceAdd, Nat.reduceLeDiff, Nat.reduceMul, Int.reduceNeg, Int.reduceLT, Int.reduceAdd, Int.reduceSub, hcl])), (by first | rfl | omega | simp), (by exact hok _ _ hv), (by rfl)⟩ ?_
  rintro m ⟨e, σ, h⟩ ⟨n, q, hm, hσ, e1, e2, e10, e11, e12, hn, hq, ho⟩ K4 hK4 hG4
  simp only at hσ e1 e2 e10 e11 e12
  subst hσ
  refine vc_seq fun K5 hK5 => ?_
  refine vc_reg ?_
  try simp (disch := omega) only [go_sem, ↓reduceIte, Nat.reduceEqDiff, reduceCtorEq, Nat.reduceAdd, Nat.reduceLeDiff, Nat.reduceMul, Int.reduceNeg, Int.reduceLT, Int.reduceAdd, Int.reduceSub, e1, e2, e10, e11, e12, hcl]
  refine hK5 _ ?_
  refine vc_seq fun K6 hK6 => ?_
  refine vc_cond (t := _) (by first | rfl | (simp (disch := omega) only [go_sem, ↓reduceIte, Nat.reduceEqDiff, reduceCtorEq, Nat.reduceAdd, Nat.reduceLeDiff, Nat.reduceMul, Int.reduceNeg, Int.reduceLT, Int.reduceAdd, Int.reduceSub, e1, e2, e10, e11, e12, hcl]; rfl)) (fun hc1 => ?_) (fun hc1 => ?_)
  · (try simp only [go_sem] at hc1)
    refine vc_skip ?_
    refine hK6 _ ?_
    refine vc_seq fun K7 hK7 => ?_
    refine vc_block ?_
    refine vc_seq fun K8 hK8 => ?_
    obtain ⟨c, hc, hrc⟩ := E.repL_get ha (n := n) (by omega)
    obtain ⟨gc, cc, rfl, hcc⟩ := E.rep_cells hrc
    refine vc_reg ?_
    try simp (disch := omega) only [go_sem, ↓reduceIte, Nat.reduceEqDiff, reduceCtorEq, Nat.reduceAdd, Nat.reduceLeDiff, Nat.reduceMul, Int.reduceNeg, Int.reduceLT, Int.reduceAdd, Int.reduceSub, e1, e2, e10, e11, e12, hcl, hc]
    intro g4_2 hg4_2
    refine hK8 _ ?_
    refine vc_reg ?_
    try simp (disch := omega) only [go_sem, ↓reduceIte, Nat.reduceEqDiff, reduceCtorEq, Nat.reduceAdd, Nat.reduceLeDiff, Nat.reduceMul, Int.reduceNeg, Int.reduceLT, Int.reduceAdd, Int.reduceSub, e1, e2, e10, e11, e12, hcl]
    refine vcX_callF [0] [] [.agg (List.map V.t [.int .i64 us[n].kind, .str us[n].name, .sl gc cc]), .fn f [.ptr 0 0 0 0]] [.row g0 0 1 1 [[.t q]]] _ (ih _ (List.getElem_mem (show n < us.length by omega)) _ q hrc hq (by have := E.wtL_mem (List.getElem_mem (show n < us.length by omega)); omega)) (by first | rfl | simp (disch := omega) only [go_sem, ↓reduceIte, Nat.reduceEqDiff, reduceCtorEq, Nat.reduceAdd, Nat.reduceLeDiff, Nat.reduceMul, Int.reduceNeg, Int.reduceLT, Int.reduceAdd, Int.reduceSub, e1, e2, e10, e11, e12, hcl]) (by simp) (by simp) (by simp) rfl (Subs.of_eq (by first | rfl | (simp (disch := omega) only [go_sem, ↓reduceIte, Nat.reduceEqDiff, reduceCtorEq, Nat.reduceAdd, Nat.reduceLeDiff, Nat.reduceMul, Int.reduceNeg, Int.reduceLT, Int.reduceAdd, Int.reduceSub, e1, e2, e10, e11, e12, hcl]) | (simp only [go_sem, V.loc, V.locs, idx]; done))) ?_
    rintro r5_2 σ5_2 h5_2 hh5_2 ⟨rfl, rfl⟩
    refine ⟨by simp, ?_⟩
    try simp (disch := omega) only [go_sem, ↓reduceIte, Nat.reduceEqDiff, reduceCtorEq, Nat.reduceAdd, Nat.reduceLeDiff, Nat.reduceMul, Int.reduceNeg, Int.reduceLT, Int.reduceAdd, Int.reduceSub, e1, e2, e10, e11, e12, hcl]
    refine hK7 _ ?_
    refine vc_reg ?_
    try simp (disch := omega) only [go_sem, ↓reduceIte, Nat.reduceEqDiff, reduceCtorEq, Nat.reduceAdd, Nat.reduceLeDiff, Nat.reduceMul, Int.reduceNeg, Int.reduceLT, Int.reduceAdd, Int.reduceSub, e1, e2, e10, e11, e12, hcl]
    refine hG4 _ _ [0, 1] [] ?_ (by simp) (by simp) (by simp) ⟨n + 1, E.fo st us[n] q, rfl, (by first | rfl | (simp (disch := omega) only [go_sem, ↓reduceIte, Nat.reduceEqDiff, reduceCtorEq, Nat.reduceAdd, Nat.reduceLeDiff, Nat.reduceMul, Int.reduceNeg, Int.reduceLT, Int.reduceAdd, Int.reduceSub, e1, e2, e10, e11, e12, hcl, gc_σ, locObs, Ob.loc, V.loc, V.locs, idx]; done) | (simp [gc_σ, locObs, Ob.loc, V.loc, Function.comp_def, List.take_of_length_le]; done)), (by first | rfl | (simp (disch := omega) only [go_sem, ↓reduceIte, Nat.reduceEqDiff, reduceCtorEq, Nat.reduceAdd, Nat.reduceLeDiff, Nat.reduceMul, Int.reduceNeg, Int.reduceLT, Int.reduceAdd, Int.reduceSub, e1, e2, e10, e11, e12, hcl, gc_env, V.loc, V.locs, idx]; done) | (simp (disch := omega) only [go_sem, ↓reduceIte, Nat.reduceEqDiff, reduceCtorEq, Nat.reduceAdd, Nat.reduceLeDiff, Nat.reduceMul, Int.reduceNeg, Int.reduceLT, Int.reduceAdd, Int.reduceSub, e1, e2, e10, e11, e12, hcl, gc_env, V.loc, V.locs, idx]; simp; done)), (by first | rfl | (simp (disch := omega) only [go_sem, ↓reduceIte, Nat.reduceEqDiff, reduceCtorEq, Nat.reduceAdd, Nat.reduceLeDiff, Nat.reduceMul, Int.reduceNeg, Int.reduceLT, Int.reduceAdd, Int.reduceSub, e1, e2, e10, e11, e12, hcl, gc_env, V.loc, V.locs, idx]; done) | (simp (disch := omega) only [go_sem, ↓reduceIte, Nat.reduceEqDiff, reduceCtorEq, Nat.reduceAdd, Nat.reduceLeDiff, Nat.reduceMul, Int.reduceNeg, Int.reduceLT, Int.reduceAdd, Int.reduceSub, e1, e2, e10, e11, e12, hcl, gc_env, V.loc, V.locs, idx]; simp; done)), (by first | rfl | (simp (disch := omega) only [go_sem, ↓reduceIte, Nat.reduceEqDiff, reduceCtorEq, Nat.reduceAdd, Nat.reduceLeDiff, Nat.reduceMul, Int.reduceNeg, Int.reduceLT, Int.reduceAdd, Int.reduceSub, e1, e2, e10, e11, e12, hcl, gc_env, V.loc, V.locs, idx]; done) | (simp (disch := omega) only [go_sem, ↓reduceIte, Nat.reduceEqDiff, reduceCtorEq, Nat.reduceAdd, Nat.reduceLeDiff, Nat.reduceMul, Int.reduceNeg, Int.reduceLT, Int.reduceAdd, Int.reduceSub, e1, e2, e10, e11, e12, hcl, gc_env, V.loc, V.locs, idx]; simp; done)), (by first | rfl | (simp (disch := omega) only [go_sem, ↓reduceIte, Nat.reduceEqDiff, reduceCtorEq, Nat.reduceAdd, Nat.reduceLeDiff, Nat.reduceMul, Int.reduceNeg, Int.reduceLT, Int.reduceAdd, Int.reduceSub, e1, e2, e10, e11, e12, hcl, gc_env, V.loc, V.locs, idx]; done) | (simp (disch := omega) only [go_sem, ↓reduceIte, Nat.reduceEqDiff, reduceCtorEq, Nat.reduceAdd, Nat.reduceLeDiff, Nat.reduceMul, Int.reduceNeg, Int.reduceLT, Int.reduceAdd, Int.reduceSub, e1, e2, e10, e11, e12, hcl, gc_env, V.loc, V.locs, idx]; simp; done)), (by first | rfl | (simp (disch := omega) only [go_sem, ↓reduceIte, Nat.reduceEqDiff, reduceCtorEq, Nat.reduceAdd, Nat.reduceLeDiff, Nat.reduceMul, Int.reduceNeg, Int.reduceLT, Int.reduceAdd, Int.reduceSub, e1, e2, e10, e11, e12, hcl, gc_env, V.loc, V.locs, idx]; done) | (simp (disch := omega) only [go_sem, ↓reduceIte, Nat.reduceEqDiff, reduceCtorEq, Nat.reduceAdd, Nat.reduceLeDiff, Nat.reduceMul, Int.reduceNeg, Int.reduceLT, Int.reduceAdd, Int.reduceSub, e1, e2, e10, e11, e12, hcl, gc_env, V.loc, V.locs, idx]; simp; done)), ?_, ?_, ?_⟩
    · omega
    · first | omega | assumption | rfl | simp_all
    · exact E.fo_ok hok _ _ hq
    · rw [← ho, E.foL_drop (n := n) (by omega)]
  · (try simp only [go_sem] at hc1)
    refine vc_exit ?_
    rw [List.drop_of_length_le (by omega), E.foL] at ho
    rw [← ho]
    refine ⟨_, rfl, [0], [], by simp, by simp, by simp, fun hi_ h1_ => ⟨rfl, ?_⟩, le_1 (y := .t q) ?_⟩
    · rfl
    · rfl

/-- spec.l1Bit -/
theorem spec_l1Bit (b : Bool) : FCtr Try.prog 92 [.t (.bool b)] (fun r => r = .t (.int .i64 (if b then 1 else 0))) := by
  refine Ctr.of_vc (rs := [.tmp 2]) (fn := Try.f92) mixed Try.func92 rfl rfl (by kernel_rfl) (by kernel_rfl) (by simp [Try.ntmps92]) (fun h0 => ?_)
  refine vc_seq fun K1 hK1 => ?_
  refine vc_reg ?_
  try simp (disch := omega) only [go_sem, ↓reduceIte, Nat.reduceEqDiff, reduceCtorEq, Nat.reduceAdd, Nat.reduceLeDiff, Nat.reduceMul, Int.reduceNeg, Int.reduceLT, Int.reduceAdd, Int.reduceSub]
  refine hK1 _ ?_
  refine vc_seq fun K2 hK2 => ?_
  refine vc_seq fun K3 hK3 => ?_
  refine vc_reg ?_
  try simp (disch := omega) only [go_sem, ↓reduceIte, Nat.reduceEqDiff, reduceCtorEq, Nat.reduceAdd, Nat.reduceLeDiff, Nat.reduceMul, Int.reduceNeg, Int.reduceLT, Int.reduceAdd, Int.reduceSub]
  refine hK3 _ ?_
  refine vc_cond (t := _) (by first | rfl | (simp (disch := omega) only [go_sem, ↓reduceIte, Nat.reduceEqDiff, reduceCtorEq, Nat.reduceAdd, Nat.reduceLeDiff, Nat.reduceMul, Int.reduceNeg, Int.reduceLT, Int.reduceAdd, Int.reduceSub]; rfl)) (fun hc1 => ?_) (fun hc1 => ?_)
  · (try simp only [go_sem] at hc1)
    refine vc_seq fun K4 hK4 => ?_
    refine vc_reg ?_
    try simp (disch := omega) only [go_sem, ↓reduceIte, Nat.reduceEqDiff, reduceCtorEq, Nat.reduceAdd, Nat.reduceLeDiff, Nat.reduceMul, Int.reduceNeg, Int.reduceLT, Int.reduceAdd, Int.reduceSub]
    refine hK4 _ ?_
    refine vc_ret ?_
    refine ⟨_, by first | rfl | (simp only [go_sem, resQ, List.mapM_cons, List.mapM_nil, ↓reduceIte, Nat.reduceEqDiff, Nat.reduceAdd, Nat.reduceLeDiff, reduceCtorEq]; rfl), [], [], .nil, by simp, by simp, fun hi_ h1_ => ⟨?_, rfl, rfl⟩, by simp⟩
    simp only [hc1]; rfl
  · (try simp only [go_sem] at hc1)
    refine vc_skip ?_
    refine hK2 _ ?_
    refine vc_seq fun K5 hK5 => ?_
    refine vc_reg ?_
    try simp (disch := omega) only [go_sem, ↓reduceIte, Nat.reduceEqDiff, reduceCtorEq, Nat.reduceAdd, Nat.reduceLeDiff, Nat.reduceMul, Int.reduceNeg, Int.reduceLT, Int.reduceAdd, Int.reduceSub]
    refine hK5 _ ?_
    refine vc_ret ?_
    refine ⟨_, by first | rfl | (simp only [go_sem, resQ, List.mapM_cons, List.mapM_nil, ↓reduceIte, Nat.reduceEqDiff, Nat.reduceAdd, Nat.reduceLeDiff, reduceCtorEq]; rfl), [], [], .nil, by simp, by simp, fun hi_ h1_ => ⟨?_, rfl, rfl⟩, by simp⟩
    simp only [hc1]; rfl

end Go.Proofs.Ytldhhppfnhgcdaa
namespace Go.VL
mutual
/-- How many calls a term holds. -/
def E.cl : E → Nat
  | .mk k _ us => (if k = 3 then 1 else 0) + E.clL us
def E.clL : List E → Nat
  | [] => 0
  | e :: l => E.cl e + E.clL l
end
theorem E.clL_drop {l : List E} {n : Nat} (h : n < l.length) : E.clL (l.drop n) = E.cl l[n] + E.clL (l.drop (n + 1)) := by rw [drop_get h, E.clL]
theorem E.cl_sz : ∀ e : E, e.cl ≤ e.sz := by
  intro e
  induction e using E.ind with
  | h k n us ih =>
    rw [E.sz, E.cl]
    have : ∀ l : List E, (∀ a ∈ l, a.cl ≤ a.sz) → E.clL l ≤ E.szL l := by
      intro l
      induction l with
      | nil => exact fun _ => Nat.le_refl _
      | cons a l ihl =>
        intro h
        rw [E.szL, E.clL]
        have h1 := h a List.mem_cons_self
        have h2 := ihl fun b hb => h b (List.mem_cons_of_mem _ hb)
        omega
    have := this us ih
    by_cases hk : k = 3
    · rw [if_pos hk]; omega
    · rw [if_neg hk]; omega
theorem E.clL_wtL (l : List E) : E.clL l ≤ E.wtL l + 1 := by
  have h := E.cl_sz (.mk 0 ⟨#[]⟩ l)
  have h2 := E.szL_wtL l
  rw [E.sz, E.cl] at h
  simp at h
  omega
/-- The counting step. -/
def clStep (x : E) : T → T
  | .int k n => if x.kind = 3 then .int k (IntKind.i64.wrap (n + 1)) else .int k n
  | v => v
theorem E.fo_cl : ∀ (e : E) (n : Nat), n + e.cl ≤ 1048577 → E.fo clStep e (.int .i64 n) = .int .i64 ((n + e.cl : Nat) : Int) := by
  intro e
  induction e using E.ind with
  | h k nm us ih =>
    intro n hn
    rw [E.cl] at hn ⊢
    rw [E.fo]
    have : ∀ (l : List E), (∀ a ∈ l, ∀ n : Nat, n + a.cl ≤ 1048577 → E.fo clStep a (.int .i64 n) = .int .i64 ((n + a.cl : Nat) : Int)) → ∀ n : Nat, n + E.clL l ≤ 1048577 → E.foL clStep l (.int .i64 n) = .int .i64 ((n + E.clL l : Nat) : Int) := by
      intro l
      induction l with
      | nil => exact fun _ n _ => rfl
      | cons a l ihl =>
        intro h n hn
        rw [E.clL] at hn ⊢
        rw [E.foL, h a List.mem_cons_self n (by omega), ihl (fun b hb => h b (List.mem_cons_of_mem _ hb)) _ (by omega), Nat.add_assoc]
    have hst : clStep (.mk k nm us) (.int .i64 n) = .int .i64 ((n + (if k = 3 then 1 else 0) : Nat) : Int) := by
      show (if k = 3 then T.int .i64 (IntKind.i64.wrap (n + 1)) else T.int .i64 n) = _
      split
      · rename_i hk
        rw [if_pos hk] at hn
        rw [w64 (by omega)]
        rfl
      · rfl
    rw [hst, this us ih _ (by omega), Nat.add_assoc]
end Go.VL
namespace Go.Proofs.Ytldhhppfnhgcdaa
open Go Go.VL
end Go.Proofs.Ytldhhppfnhgcdaa
