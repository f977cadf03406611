/- Walks through the code: each function's contract. -/
import Derived.Test.YtlnfbkalpdicmaaWA8
import Derived.Test.YtlnfbkalpdicmaaWK
set_option linter.unusedVariables false
set_option linter.unusedSimpArgs false
set_option maxRecDepth 8000
namespace Go.Proofs.Ytlnfbkalpdicmaa
open Go Go.VL

end Go.Proofs.Ytlnfbkalpdicmaa
namespace Go.VL
theorem Vs_ok1 (xs : List ByteArray) : ∀ e ∈ Vs xs, e.length = 1 ∧ ∀ c ∈ e, V.leaf c = true := by
  intro e he
  obtain ⟨x, _, rfl⟩ := List.mem_map.1 he
  exact ⟨rfl, fun c hc => by obtain rfl := List.mem_singleton.1 hc; rfl⟩
theorem Vs_of (xs : List ByteArray) : (xs.map fun s => [T.str s]).map (·.map V.t) = Vs xs := Ts_V xs
theorem x_appS {P : Program} {ops : Array Oper} {l : List (Oper × Bool)} {K : St → Prop} {e : Nat → V} {σ : List Ob} {h : Nat} {d : Tmp} {x y : Operand} {t t2 t' : TypeId} {ty : TypeId} {pos : String} {af : Array Edge} {bs : Nat} {z : List V} {xs : List ByteArray} {S : List Nat} {v : V} (ys : List ByteArray) (h1 : tElem P t = some t') (h2 : tSize P t' = some 1) (h3 : tZero P t' = some z) (h4 : tBytes P t' = some bs)
    (hx : St.eval ⟨e, σ, h⟩ x = v) (ho : Tb σ 1 (Ds xs) S v) (hy : appElems P ⟨e, σ, h⟩ 1 (some z) t2 (St.eval ⟨e, σ, h⟩ y) = some (Vs ys)) (hz : z.length = 1 ∧ 0 < 1 ∧ 0 < bs)
    (hb : 2 * (xs.length + ys.length) * bs ≤ 281474976710656)
    (hk : ∀ v' S' σ' h', Tb σ' 1 (Ds (xs ++ ys)) S' v' → (∀ r, r < σ.length → r ∉ S → σ'[r]? = σ[r]?) → (∀ r ∈ S', r ∈ S ∨ σ.length ≤ r) → h ≤ h' → vcX P ops l K ⟨upd e d v', σ', h'⟩) :
    vcX P ops ((⟨some d, .call ⟨.builtin .append, #[x, y], #[t, t2]⟩, ty, pos, af, none⟩, true) :: l) K ⟨e, σ, h⟩ := by
  rcases ho with ⟨hd, rfl, rfl⟩ | ⟨r, g, ver, m, es, S', rfl, k2, rfl, k4, k5, kz⟩
  · obtain rfl : xs = [] := List.length_eq_zero_iff.1 (by rw [← Ds_len, hd]; rfl)
    by_cases hne : ys = []
    · subst hne
      rw [vcX_append_nil h1 h2 h3 h4 hx hy]
      refine ⟨hz.1, hz.2.1, hz.2.2, Vs_ok1 _, by simp [Vs], ?_⟩
      rw [if_pos (by rfl)]
      exact hk _ [] _ _ Tb_nil (fun _ _ _ => rfl) (fun r hr => by cases hr) (Nat.le_refl _)
    · have hl0 : (Vs ys).length ≠ 0 := by rw [Vs_len]; exact fun h => hne (List.length_eq_zero_iff.1 h)
      refine x_app_nil (Vs ys) h1 h2 h3 h4 hx hy hz (Vs_ok1 _) (by rw [Vs_len]; simpa using hb) hl0 (fun g n hg => ?_)
      exact hk _ [σ.length] _ _ (.inr ⟨σ.length, g, 0, n, Vs ys, [], rfl, by simp, rfl, by simp, TrLL_Ds ys, Vs_1 ys⟩) (fun q hq _ => get_old hq) (fun q hq => by obtain rfl := List.mem_singleton.1 hq; exact .inr (Nat.le_refl _)) (by omega)
  · have hlen : es.length = xs.length := by have := k5.len; rw [Ds_len] at this; exact this
    refine x_app_own (r := r) (g := g) (v := ver) (m := m) (es0 := es) (Vs ys) h1 h2 h3 h4 hx k4 hy hz (Vs_ok1 _) ⟨rfl, rfl⟩ (by rw [hlen, Vs_len]; exact hb) (fun g' n' h' hh _ => ?_)
    have hrl := (List.getElem?_eq_some_iff.1 k4).1
    refine hk _ (r :: (S' ++ [])) _ _ (.inr ⟨r, g', ver + 1, n', es ++ Vs ys, S' ++ [], rfl, fun hm => k2 (by simpa using hm), by rw [List.length_append], ?_, ?_, fun e he => (List.mem_append.1 he).elim (kz e) (Vs_1 ys e)⟩) (fun q hq hn => ?_) (fun q hq => ?_) (by omega)
    · rw [List.getElem?_set_self hrl, List.take_length]
    · rw [Ds_app]
      refine (k5.app (TrLL_Ds ys) (Dj_nil _)).keep fun q hq => ?_
      refine List.getElem?_set_ne fun he => ?_
      subst he
      exact k2 (by simpa using hq)
    · exact List.getElem?_set_ne fun he => hn (by rw [← he]; exact List.mem_cons_self)
    · rw [List.append_nil] at hq
      exact .inl hq
end Go.VL
namespace Go.Proofs.Ytlnfbkalpdicmaa
open Go Go.VL

end Go.Proofs.Ytlnfbkalpdicmaa
namespace Go.VL
/-- The text of a constructor with its variables; of a rule. -/
def ptx (c : ByteArray) (vs : List ByteArray) : ByteArray := if vs.length = 0 then c else c ++ ⟨#[40]⟩ ++ jn vs ⟨#[44]⟩ ++ ⟨#[41]⟩
def rpt (c : ByteArray) (vs : List ByteArray) : List ByteArray := if c = ⟨#[]⟩ then [] else [ptx c vs]
def rtx (x : Ru) : ByteArray := x.nm ++ ⟨#[40]⟩ ++ jn (rpt x.cn x.vs ++ x.ps) ⟨#[44]⟩ ++ ⟨#[41, 32, 61, 32]⟩ ++ (if (decide ((x.bd.sz : Int) ≤ 80) && (decide ((x.bd.dp : Int) ≤ 24) && x.bd.af)) = true then x.bd.tx else ⟨#[]⟩)
theorem ptx_size (c : ByteArray) (vs : List ByteArray) : (ptx c vs).size ≤ c.size + 2 + (vs.length + sumB vs) := by
  have h := jn_size vs
  rw [ptx]
  split
  · omega
  · rw [ByteArray.size_append, ByteArray.size_append, ByteArray.size_append, show (⟨#[40]⟩ : ByteArray).size = 1 from rfl, show (⟨#[41]⟩ : ByteArray).size = 1 from rfl]
    omega
theorem rpt_size (c : ByteArray) (vs : List ByteArray) : (rpt c vs).length + sumB (rpt c vs) ≤ c.size + 3 + (vs.length + sumB vs) := by
  have h := ptx_size c vs
  rw [rpt]
  split
  · simp [sumB]
  · simp only [List.length_cons, List.length_nil, sumB]; omega
theorem fx_size {x : Ru} (h : x.bd.wt ≤ 1048576) : (if (decide ((x.bd.sz : Int) ≤ 80) && (decide ((x.bd.dp : Int) ≤ 24) && x.bd.af)) = true then x.bd.tx else ⟨#[]⟩).size ≤ 4194304 := by
  split
  · rename_i h1
    simp only [Bool.and_eq_true, decide_eq_true_eq] at h1
    have := x.bd.tx_size
    omega
  · exact Nat.zero_le _
end Go.VL
namespace Go.Proofs.Ytlnfbkalpdicmaa
open Go Go.VL

/-- impl.patternText -/
theorem impl_patternText (g : Nat) (c : ByteArray) (vs : List ByteArray) (hc : c.size ≤ 1048576) (hv : vs.length + sumB vs ≤ 1048576) : FCtr Try.prog 89 [.t (.str c), .t (.sl g (vs.map (fun x => [T.str x])))] (fun r => r = .t (.str (ptx c vs))) := by
  refine Ctr.of_vc (rs := [.tmp 4]) (fn := Try.f89) mixed Try.func89 rfl rfl (by kernel_rfl) (by kernel_rfl) (by simp [Try.ntmps89]) (fun h0 => ?_)
  refine vc_seq fun K1 hK1 => ?_
  refine vc_reg ?_
  try simp (disch := omega) only [go_sem, ↓reduceIte, Nat.reduceEqDiff, reduceCtorEq, Nat.reduceAdd, Nat.reduceLeDiff, Nat.reduceMul, Int.reduceNeg, Int.reduceLT, Int.reduceAdd, Int.reduceSub]
  refine hK1 _ ?_
  refine vc_seq fun K2 hK2 => ?_
  refine vc_seq fun K3 hK3 => ?_
  refine vc_reg ?_
  try simp (disch := omega) only [go_sem, ↓reduceIte, Nat.reduceEqDiff, reduceCtorEq, Nat.reduceAdd, Nat.reduceLeDiff, Nat.reduceMul, Int.reduceNeg, Int.reduceLT, Int.reduceAdd, Int.reduceSub]
  refine hK3 _ ?_
  refine vc_cond (t := _) (by first | rfl | (simp (disch := omega) only [go_sem, ↓reduceIte, Nat.reduceEqDiff, reduceCtorEq, Nat.reduceAdd, Nat.reduceLeDiff, Nat.reduceMul, Int.reduceNeg, Int.reduceLT, Int.reduceAdd, Int.reduceSub]; rfl)) (fun hc1 => ?_) (fun hc1 => ?_)
  · (try simp only [go_sem] at hc1)
    refine vc_seq fun K4 hK4 => ?_
    refine vc_reg ?_
    try simp (disch := omega) only [go_sem, ↓reduceIte, Nat.reduceEqDiff, reduceCtorEq, Nat.reduceAdd, Nat.reduceLeDiff, Nat.reduceMul, Int.reduceNeg, Int.reduceLT, Int.reduceAdd, Int.reduceSub]
    refine hK4 _ ?_
    refine vc_ret ?_
    refine ⟨_, by first | rfl | (simp only [go_sem, resQ, List.mapM_cons, List.mapM_nil, ↓reduceIte, Nat.reduceEqDiff, Nat.reduceAdd, Nat.reduceLeDiff, reduceCtorEq]; rfl), [], [], .nil, by simp, by simp, fun hi_ h1_ => ⟨?_, rfl, rfl⟩, by simp⟩
    rw [ptx, if_pos (by omega)]; rfl
  · (try simp only [go_sem] at hc1)
    refine vc_skip ?_
    refine hK2 _ ?_
    refine vc_seq fun K5 hK5 => ?_
    have hjz := jn_size vs
    have hs40 : (#[40] : Array UInt8).size = 1 := rfl
    have hs41 : (#[41] : Array UInt8).size = 1 := rfl
    have hz1 : ¬ (IntKind.i64.max < ((c.size + (#[40] : Array UInt8).size : Nat) : Int)) := by rw [i64max, hs40]; omega
    have hz2 : ¬ (IntKind.i64.max < ((c.size + (#[40] : Array UInt8).size + (jn vs ⟨#[44]⟩).size : Nat) : Int)) := by rw [i64max, hs40]; omega
    have hz3 : ¬ (IntKind.i64.max < ((c.size + (#[40] : Array UInt8).size + (jn vs ⟨#[44]⟩).size + (#[41] : Array UInt8).size : Nat) : Int)) := by rw [i64max, hs40, hs41]; omega
    refine vc_reg ?_
    try simp (disch := omega) only [go_sem, ↓reduceIte, Nat.reduceEqDiff, reduceCtorEq, Nat.reduceAdd, Nat.reduceLeDiff, Nat.reduceMul, Int.reduceNeg, Int.reduceLT, Int.reduceAdd, Int.reduceSub, hz1, hz2, hz3]
    refine vcX_call _ _ (strings_Join g vs ⟨#[44]⟩ (by omega) (by show 1 ≤ _; omega)) (by first | rfl | (simp (disch := omega) only [go_sem, ↓reduceIte, Nat.reduceEqDiff, reduceCtorEq, Nat.reduceAdd, Nat.reduceLeDiff, Nat.reduceMul, Int.reduceNeg, Int.reduceLT, Int.reduceAdd, Int.reduceSub, hz1, hz2, hz3])) (by first | rfl | (simp (disch := omega) only [go_sem, ↓reduceIte, Nat.reduceEqDiff, reduceCtorEq, Nat.reduceAdd, Nat.reduceLeDiff, Nat.reduceMul, Int.reduceNeg, Int.reduceLT, Int.reduceAdd, Int.reduceSub, hz1, hz2, hz3])) (by first | rfl | simp [V.pures, V.pure, V.pures_t]) ?_
    rintro r3_3 h3_3 hh3_3 rfl -
    try simp (disch := omega) only [go_sem, ↓reduceIte, Nat.reduceEqDiff, reduceCtorEq, Nat.reduceAdd, Nat.reduceLeDiff, Nat.reduceMul, Int.reduceNeg, Int.reduceLT, Int.reduceAdd, Int.reduceSub, hz1, hz2, hz3]
    refine hK5 _ ?_
    refine vc_ret ?_
    refine ⟨_, by first | rfl | (simp only [go_sem, resQ, List.mapM_cons, List.mapM_nil, ↓reduceIte, Nat.reduceEqDiff, Nat.reduceAdd, Nat.reduceLeDiff, reduceCtorEq]; rfl), [], [], .nil, by simp, by simp, fun hi_ h1_ => ⟨?_, rfl, rfl⟩, by simp⟩
    rw [ptx, if_neg (by omega)]; rfl

/-- impl.FormatRule -/
theorem impl_FormatRule (x : Ru) (c : List T) (hc : x.rep c) (hw : x.wt ≤ 1048576) : FCtr Try.prog 45 [.agg (c.map .t)] (fun r => r = .t (.str (rtx x))) := by
  obtain ⟨gax_, gbx_, kx_, nx_, gx_, csx_, rfl, hvx_⟩ := Ru.cells hc
  rw [Ru.wt] at hw
  refine Ctr.of_vc (rs := [.tmp 2]) (fn := Try.f45) mixed Try.func45 rfl rfl (by kernel_rfl) (by kernel_rfl) (by simp [Try.ntmps45]) (fun h0 => ?_)
  refine vc_seq fun K1 hK1 => ?_
  refine vc_reg ?_
  try simp (disch := omega) only [go_sem, ↓reduceIte, Nat.reduceEqDiff, reduceCtorEq, Nat.reduceAdd, Nat.reduceLeDiff, Nat.reduceMul, Int.reduceNeg, Int.reduceLT, Int.reduceAdd, Int.reduceSub]
  intro g0_0 hg0_0
  refine hK1 _ ?_
  refine vc_seq fun K2 hK2 => ?_
  refine vc_reg ?_
  try simp (disch := omega) only [go_sem, ↓reduceIte, Nat.reduceEqDiff, reduceCtorEq, Nat.reduceAdd, Nat.reduceLeDiff, Nat.reduceMul, Int.reduceNeg, Int.reduceLT, Int.reduceAdd, Int.reduceSub]
  refine hK2 _ ?_
  refine vc_seqK (fun s => ∃ (acc : List ByteArray) (S1 : List Nat) (v1 : V) (σ1 : List Ob), (s.σ = σ1) ∧ (s.env 1 = .ptr 0 0 0 0) ∧ (s.env 3 = v1) ∧ (σ1[0]? = some (.row g0_0 0 7 7 [[V.t (.str x.nm), V.t (.str x.cn), V.t (.sl gax_ (x.vs.map fun s => [T.str s])), V.t (.sl gbx_ (x.ps.map fun s => [T.str s])), V.t (.int .i64 kx_), V.t (.str nx_), V.t (.sl gx_ csx_)]])) ∧ (Tb σ1 1 (Ds acc) S1 v1) ∧ (∀ r ∈ S1, 1 ≤ r) ∧ (acc = rpt x.cn x.vs)) (fun KJ3 hKJ3 => ?_) ?_
  · skip
    refine vc_seq fun K4 hK4 => ?_
    refine vc_reg ?_
    try simp (disch := omega) only [go_sem, ↓reduceIte, Nat.reduceEqDiff, reduceCtorEq, Nat.reduceAdd, Nat.reduceLeDiff, Nat.reduceMul, Int.reduceNeg, Int.reduceLT, Int.reduceAdd, Int.reduceSub, List.getElem?_cons_zero]
    refine hK4 _ ?_
    refine vc_cond (t := _) (by first | rfl | (simp (disch := omega) only [go_sem, ↓reduceIte, Nat.reduceEqDiff, reduceCtorEq, Nat.reduceAdd, Nat.reduceLeDiff, Nat.reduceMul, Int.reduceNeg, Int.reduceLT, Int.reduceAdd, Int.reduceSub]; rfl)) (fun hc1 => ?_) (fun hc1 => ?_)
    · (try simp only [go_sem] at hc1)
      refine vc_reg ?_
      try simp (disch := omega) only [go_sem, ↓reduceIte, Nat.reduceEqDiff, reduceCtorEq, Nat.reduceAdd, Nat.reduceLeDiff, Nat.reduceMul, Int.reduceNeg, Int.reduceLT, Int.reduceAdd, Int.reduceSub, List.getElem?_cons_zero]
      refine vcX_call _ _ (impl_patternText gax_ x.cn x.vs (by omega) (by omega)) (by first | rfl | (simp (disch := omega) only [go_sem, ↓reduceIte, Nat.reduceEqDiff, reduceCtorEq, Nat.reduceAdd, Nat.reduceLeDiff, Nat.reduceMul, Int.reduceNeg, Int.reduceLT, Int.reduceAdd, Int.reduceSub, List.getElem?_cons_zero])) (by first | rfl | (simp (disch := omega) only [go_sem, ↓reduceIte, Nat.reduceEqDiff, reduceCtorEq, Nat.reduceAdd, Nat.reduceLeDiff, Nat.reduceMul, Int.reduceNeg, Int.reduceLT, Int.reduceAdd, Int.reduceSub, List.getElem?_cons_zero])) (by first | rfl | simp [V.pures, V.pure, V.pures_t]) ?_
      rintro r3_5 h3_5 hh3_5 rfl -
      try simp (disch := omega) only [go_sem, ↓reduceIte, Nat.reduceEqDiff, reduceCtorEq, Nat.reduceAdd, Nat.reduceLeDiff, Nat.reduceMul, Int.reduceNeg, Int.reduceLT, Int.reduceAdd, Int.reduceSub, List.getElem?_cons_zero]
      refine ⟨by simp [bsOk], fun g3_6 hg3_6 => ?_⟩
      try simp (disch := omega) only [go_sem, ↓reduceIte, Nat.reduceEqDiff, reduceCtorEq, Nat.reduceAdd, Nat.reduceLeDiff, Nat.reduceMul, Int.reduceNeg, Int.reduceLT, Int.reduceAdd, Int.reduceSub, List.getElem?_cons_zero]
      refine x_appT [V.t (.str (ptx x.cn x.vs))] (show tElem Try.prog 63 = some 9 by kernel_rfl) (show tSize Try.prog 9 = some 1 by kernel_rfl) (show tZero Try.prog 9 = some [.t (.str ⟨#[]⟩)] by kernel_rfl) (show tBytes Try.prog 9 = some 16 by kernel_rfl) (by first | rfl | (simp (disch := omega) only [go_sem, ↓reduceIte, Nat.reduceEqDiff, reduceCtorEq, Nat.reduceAdd, Nat.reduceLeDiff, Nat.reduceMul, Int.reduceNeg, Int.reduceLT, Int.reduceAdd, Int.reduceSub, List.getElem?_cons_zero])) (show Tb _ 1 [] [] .nil0 from Tb_nil) (by first | rfl | (simp (disch := omega) only [go_sem, ↓reduceIte, Nat.reduceEqDiff, reduceCtorEq, Nat.reduceAdd, Nat.reduceLeDiff, Nat.reduceMul, Int.reduceNeg, Int.reduceLT, Int.reduceAdd, Int.reduceSub, List.getElem?_cons_zero, appElems, St.elems])) (by simp) (TrL_one Tr_str) rfl (Dj_nil _) (by decide) ?_
      rintro v3_7 S3_7 σ3_7 h3_7 hT3_7 hk3_7 hS3_7 hl3_7 hle3_7 hh3_7
      try simp (disch := omega) only [go_sem, ↓reduceIte, Nat.reduceEqDiff, reduceCtorEq, Nat.reduceAdd, Nat.reduceLeDiff, Nat.reduceMul, Int.reduceNeg, Int.reduceLT, Int.reduceAdd, Int.reduceSub, List.getElem?_cons_zero]
      refine hKJ3 _ ⟨[ptx x.cn x.vs], S3_7, v3_7, _, (by first | rfl | simp), (by first | rfl | assumption | (simp (disch := omega) only [go_sem, ↓reduceIte, Nat.reduceEqDiff, reduceCtorEq, Nat.reduceAdd, Nat.reduceLeDiff, Nat.reduceMul, Int.reduceNeg, Int.reduceLT, Int.reduceAdd, Int.reduceSub])), (by first | rfl | assumption | (simp (disch := omega) only [go_sem, ↓reduceIte, Nat.reduceEqDiff, reduceCtorEq, Nat.reduceAdd, Nat.reduceLeDiff, Nat.reduceMul, Int.reduceNeg, Int.reduceLT, Int.reduceAdd, Int.reduceSub])), ?_, ?_, ?_, ?_⟩
      · exact (hk3_7 0 (by simp) (by simp)).trans rfl
      · exact hT3_7
      · exact fun r hr => (hS3_7 r hr).elim (fun h => by cases h) (fun h => h.elim (fun h => by cases h) (fun h => by simp at h; omega))
      · rw [rpt, if_neg (by assumption)]
    · (try simp only [go_sem] at hc1)
      refine vc_skip ?_
      refine hKJ3 _ ⟨[], [], .nil0, _, (by first | rfl | simp), (by first | rfl | assumption | (simp (disch := omega) only [go_sem, ↓reduceIte, Nat.reduceEqDiff, reduceCtorEq, Nat.reduceAdd, Nat.reduceLeDiff, Nat.reduceMul, Int.reduceNeg, Int.reduceLT, Int.reduceAdd, Int.reduceSub])), (by first | rfl | assumption | (simp (disch := omega) only [go_sem, ↓reduceIte, Nat.reduceEqDiff, reduceCtorEq, Nat.reduceAdd, Nat.reduceLeDiff, Nat.reduceMul, Int.reduceNeg, Int.reduceLT, Int.reduceAdd, Int.reduceSub])), ?_, ?_, ?_, ?_⟩
      · rfl
      · exact Tb_nil
      · exact fun r hr => by cases hr
      · rw [rpt, if_pos (by first | assumption | simp_all)]
  · skip
    rintro ⟨e, σ, h⟩ ⟨acc, S1, v1, σ1, hσ, e1, e3, h0_, hT1, hS1, hacc⟩
    simp only at hσ e1 e3
    subst hσ
    refine vc_seq fun K5 hK5 => ?_
    refine vc_reg ?_
    try simp (disch := omega) only [go_sem, ↓reduceIte, Nat.reduceEqDiff, reduceCtorEq, Nat.reduceAdd, Nat.reduceLeDiff, Nat.reduceMul, Int.reduceNeg, Int.reduceLT, Int.reduceAdd, Int.reduceSub, e1, e3, h0_, Vs_of]
    refine x_appS x.ps (show tElem Try.prog 63 = some 9 by kernel_rfl) (show tSize Try.prog 9 = some 1 by kernel_rfl) (show tZero Try.prog 9 = some [.t (.str ⟨#[]⟩)] by kernel_rfl) (show tBytes Try.prog 9 = some 16 by kernel_rfl) (by first | rfl | (simp (disch := omega) only [go_sem, ↓reduceIte, Nat.reduceEqDiff, reduceCtorEq, Nat.reduceAdd, Nat.reduceLeDiff, Nat.reduceMul, Int.reduceNeg, Int.reduceLT, Int.reduceAdd, Int.reduceSub, e1, e3, h0_, Vs_of])) hT1 (by first | rfl | (simp (disch := omega) only [go_sem, ↓reduceIte, Nat.reduceEqDiff, reduceCtorEq, Nat.reduceAdd, Nat.reduceLeDiff, Nat.reduceMul, Int.reduceNeg, Int.reduceLT, Int.reduceAdd, Int.reduceSub, e1, e3, h0_, Vs_of, appElems, St.elems])) (by simp) (by have hrz := rpt_size x.cn x.vs; rw [← hacc] at hrz; omega) ?_
    rintro v4_3 S4_3 σ4_3 h4_3 hT4_3 hk4_3 hS4_3 hh4_3
    try simp (disch := omega) only [go_sem, ↓reduceIte, Nat.reduceEqDiff, reduceCtorEq, Nat.reduceAdd, Nat.reduceLeDiff, Nat.reduceMul, Int.reduceNeg, Int.reduceLT, Int.reduceAdd, Int.reduceSub, e1, e3, h0_, Vs_of]
    refine hK5 _ ?_
    refine vc_seq fun K6 hK6 => ?_
    obtain ⟨gl, hlend⟩ := hT4_3.lend
    rw [Ds_er] at hlend
    have hrz := rpt_size x.cn x.vs
    rw [← hacc] at hrz
    have hfz := fx_size (x := x) (by omega)
    have hpz : (acc ++ x.ps).length + sumB (acc ++ x.ps) ≤ 4194304 := by rw [List.length_append, sumB_app]; omega
    have hjz := jn_size (acc ++ x.ps)
    have h0n := (hk4_3 0 (List.getElem?_eq_some_iff.1 h0_).1 (fun hx => by have := hS1 0 hx; omega)).trans h0_
    have hs40 : (#[40] : Array UInt8).size = 1 := rfl
    have hs4 : (#[41, 32, 61, 32] : Array UInt8).size = 4 := rfl
    have hz1 : ¬ (IntKind.i64.max < ((x.nm.size + (#[40] : Array UInt8).size : Nat) : Int)) := by rw [i64max, hs40]; omega
    have hz2 : ¬ (IntKind.i64.max < ((x.nm.size + (#[40] : Array UInt8).size + (jn (acc ++ x.ps) ⟨#[44]⟩).size : Nat) : Int)) := by rw [i64max, hs40]; omega
    have hz3 : ¬ (IntKind.i64.max < ((x.nm.size + (#[40] : Array UInt8).size + (jn (acc ++ x.ps) ⟨#[44]⟩).size + (#[41, 32, 61, 32] : Array UInt8).size : Nat) : Int)) := by rw [i64max, hs40, hs4]; omega
    have hz4 : ¬ (IntKind.i64.max < ((x.nm.size + (#[40] : Array UInt8).size + (jn (acc ++ x.ps) ⟨#[44]⟩).size + (#[41, 32, 61, 32] : Array UInt8).size + ((if (decide ((x.bd.sz : Int) ≤ 80) && (decide ((x.bd.dp : Int) ≤ 24) && x.bd.af)) = true then x.bd.tx else ⟨#[]⟩)).size : Nat) : Int)) := by rw [i64max, hs40, hs4]; omega
    refine vc_regD [(0, false), (1, false), (2, false), (3, false), (7, false), (8, false), (4, false), (5, false), (6, false), (9, false), (10, false), (11, false)] (by kernel_rfl) ?_
    try simp (disch := omega) only [go_sem, ↓reduceIte, Nat.reduceEqDiff, reduceCtorEq, Nat.reduceAdd, Nat.reduceLeDiff, Nat.reduceMul, Int.reduceNeg, Int.reduceLT, Int.reduceAdd, Int.reduceSub, e1, e3, List.getElem_cons_zero, List.getElem_cons_succ, h0n, hz1, hz2, hz3, hz4]
    refine vcX_callS (caps := []) S4_3 [.t (.sl gl (Ts (acc ++ x.ps))), .t (.str ⟨#[44]⟩)] _ (strings_Join gl (acc ++ x.ps) ⟨#[44]⟩ (by omega) (by show 1 ≤ _; omega)) (by first | rfl | simp (disch := omega) only [go_sem, ↓reduceIte, Nat.reduceEqDiff, reduceCtorEq, Nat.reduceAdd, Nat.reduceLeDiff, Nat.reduceMul, Int.reduceNeg, Int.reduceLT, Int.reduceAdd, Int.reduceSub, e1, e3, List.getElem_cons_zero, List.getElem_cons_succ, h0n, hz1, hz2, hz3, hz4]) ?_ ?_
    · show Subs [V.loc _ [] S4_3 v4_3, V.t (.str ⟨#[44]⟩)] _
      exact Subs.cons hlend (Subs.cons (.refl _) (Subs.nil))
    rintro r5_4 h5_4 hh5_4 rfl -
    refine ⟨fun q hq o ho hm => by simp [V.ids, T.ids] at hm, ?_⟩
    try simp (disch := omega) only [go_sem, ↓reduceIte, Nat.reduceEqDiff, reduceCtorEq, Nat.reduceAdd, Nat.reduceLeDiff, Nat.reduceMul, Int.reduceNeg, Int.reduceLT, Int.reduceAdd, Int.reduceSub, e1, e3, List.getElem_cons_zero, List.getElem_cons_succ, h0n, hz1, hz2, hz3, hz4]
    refine vcX_call _ _ (impl_FormatExpr x.bd _ hvx_ (by omega)) (by first | rfl | (simp (disch := omega) only [go_sem, ↓reduceIte, Nat.reduceEqDiff, reduceCtorEq, Nat.reduceAdd, Nat.reduceLeDiff, Nat.reduceMul, Int.reduceNeg, Int.reduceLT, Int.reduceAdd, Int.reduceSub, e1, e3, List.getElem_cons_zero, List.getElem_cons_succ, h0n, hz1, hz2, hz3, hz4])) (by first | rfl | (simp (disch := omega) only [go_sem, ↓reduceIte, Nat.reduceEqDiff, reduceCtorEq, Nat.reduceAdd, Nat.reduceLeDiff, Nat.reduceMul, Int.reduceNeg, Int.reduceLT, Int.reduceAdd, Int.reduceSub, e1, e3, List.getElem_cons_zero, List.getElem_cons_succ, h0n, hz1, hz2, hz3, hz4])) (by first | rfl | simp [V.pures, V.pure, V.pures_t]) ?_
    rintro r5_9 h5_9 hh5_9 rfl -
    try simp (disch := omega) only [go_sem, ↓reduceIte, Nat.reduceEqDiff, reduceCtorEq, Nat.reduceAdd, Nat.reduceLeDiff, Nat.reduceMul, Int.reduceNeg, Int.reduceLT, Int.reduceAdd, Int.reduceSub, e1, e3, List.getElem_cons_zero, List.getElem_cons_succ, h0n, hz1, hz2, hz3, hz4]
    refine hK6 _ ?_
    refine vc_ret ?_
    refine ⟨_, by first | rfl | (simp only [go_sem, resQ, List.mapM_cons, List.mapM_nil, ↓reduceIte, Nat.reduceEqDiff, Nat.reduceAdd, Nat.reduceLeDiff, reduceCtorEq]; rfl), [], [], .nil, by simp, by simp, fun hi_ h1_ => ⟨?_, rfl, rfl⟩, by simp⟩
    rw [rtx, ← hacc]; rfl

/-- spec.FormatRule -/
theorem spec_FormatRule (x : Ru) (c : List T) (hc : x.rep c) (hw : x.wt ≤ 1048576) : FCtr Try.prog 43 [.agg (c.map .t)] (fun r => r = .t (.str (rtx x))) := by
  obtain ⟨gax_, gbx_, kx_, nx_, gx_, csx_, rfl, hvx_⟩ := Ru.cells hc
  rw [Ru.wt] at hw
  refine Ctr.of_vc (rs := [.tmp 2]) (fn := Try.f43) mixed Try.func43 rfl rfl (by kernel_rfl) (by kernel_rfl) (by simp [Try.ntmps43]) (fun h0 => ?_)
  refine vc_seq fun K1 hK1 => ?_
  refine vc_reg ?_
  try simp (disch := omega) only [go_sem, ↓reduceIte, Nat.reduceEqDiff, reduceCtorEq, Nat.reduceAdd, Nat.reduceLeDiff, Nat.reduceMul, Int.reduceNeg, Int.reduceLT, Int.reduceAdd, Int.reduceSub]
  intro g0_0 hg0_0
  refine hK1 _ ?_
  refine vc_seq fun K2 hK2 => ?_
  refine vc_reg ?_
  try simp (disch := omega) only [go_sem, ↓reduceIte, Nat.reduceEqDiff, reduceCtorEq, Nat.reduceAdd, Nat.reduceLeDiff, Nat.reduceMul, Int.reduceNeg, Int.reduceLT, Int.reduceAdd, Int.reduceSub]
  refine ⟨by simp [bsOk], fun g1_0 hg1_0 => ?_⟩
  try simp (disch := omega) only [go_sem, ↓reduceIte, Nat.reduceEqDiff, reduceCtorEq, Nat.reduceAdd, Nat.reduceLeDiff, Nat.reduceMul, Int.reduceNeg, Int.reduceLT, Int.reduceAdd, Int.reduceSub]
  refine hK2 _ ?_
  refine vc_seqK (fun s => ∃ (acc : List ByteArray) (S1 : List Nat) (v1 : V) (σ1 : List Ob), (s.σ = σ1) ∧ (s.env 1 = .ptr 0 0 0 0) ∧ (s.env 3 = v1) ∧ (σ1[0]? = some (.row g0_0 0 7 7 [[V.t (.str x.nm), V.t (.str x.cn), V.t (.sl gax_ (x.vs.map fun s => [T.str s])), V.t (.sl gbx_ (x.ps.map fun s => [T.str s])), V.t (.int .i64 kx_), V.t (.str nx_), V.t (.sl gx_ csx_)]])) ∧ (Tb σ1 1 (Ds acc) S1 v1) ∧ (∀ r ∈ S1, 1 ≤ r) ∧ (acc = rpt x.cn x.vs)) (fun KJ3 hKJ3 => ?_) ?_
  · skip
    refine vc_seq fun K4 hK4 => ?_
    refine vc_reg ?_
    refine vcX_cut 4 fun K5 hK5 => ?_
    try simp (disch := omega) only [go_sem, ↓reduceIte, Nat.reduceEqDiff, reduceCtorEq, Nat.reduceAdd, Nat.reduceLeDiff, Nat.reduceMul, Int.reduceNeg, Int.reduceLT, Int.reduceAdd, Int.reduceSub, List.getElem?_cons_zero]
    refine hK5 _ ?_
    refine vcX_bool (fun hb2_3 => ?_) (fun hb2_3 => ?_)
    · (try simp only [go_sem] at hb2_3)
      try simp (disch := omega) only [go_sem, ↓reduceIte, Nat.reduceEqDiff, reduceCtorEq, Nat.reduceAdd, Nat.reduceLeDiff, Nat.reduceMul, Int.reduceNeg, Int.reduceLT, Int.reduceAdd, Int.reduceSub, List.getElem?_cons_zero]
      refine hK4 _ ?_
      refine vc_cond (t := _) (by first | rfl | (simp (disch := omega) only [go_sem, ↓reduceIte, Nat.reduceEqDiff, reduceCtorEq, Nat.reduceAdd, Nat.reduceLeDiff, Nat.reduceMul, Int.reduceNeg, Int.reduceLT, Int.reduceAdd, Int.reduceSub]; rfl)) (fun hc1 => ?_) (fun hc1 => ?_)
      · (try simp only [go_sem] at hc1)
        have hjz := jn_size x.vs
        have hs40 : (#[40] : Array UInt8).size = 1 := rfl
        have hs41 : (#[41] : Array UInt8).size = 1 := rfl
        have hz1 : ¬ (IntKind.i64.max < ((x.cn.size + (#[40] : Array UInt8).size : Nat) : Int)) := by rw [i64max, hs40]; omega
        have hz2 : ¬ (IntKind.i64.max < ((x.cn.size + (#[40] : Array UInt8).size + (jn x.vs ⟨#[44]⟩).size : Nat) : Int)) := by rw [i64max, hs40]; omega
        have hz3 : ¬ (IntKind.i64.max < ((x.cn.size + (#[40] : Array UInt8).size + (jn x.vs ⟨#[44]⟩).size + (#[41] : Array UInt8).size : Nat) : Int)) := by rw [i64max, hs40, hs41]; omega
        refine vc_regD [(0, false), (1, false), (2, false), (3, false), (4, false), (5, false), (6, false), (7, false), (8, false), (9, false), (10, true), (11, false)] (by kernel_rfl) ?_
        try simp (disch := omega) only [go_sem, ↓reduceIte, Nat.reduceEqDiff, reduceCtorEq, Nat.reduceAdd, Nat.reduceLeDiff, Nat.reduceMul, Int.reduceNeg, Int.reduceLT, Int.reduceAdd, Int.reduceSub, List.getElem_cons_zero, List.getElem_cons_succ, hz1, hz2, hz3]
        refine vcX_call _ _ (spec_Join gax_ x.vs ⟨#[44]⟩ (by omega) (by show 1 ≤ _; omega)) (by first | rfl | (simp (disch := omega) only [go_sem, ↓reduceIte, Nat.reduceEqDiff, reduceCtorEq, Nat.reduceAdd, Nat.reduceLeDiff, Nat.reduceMul, Int.reduceNeg, Int.reduceLT, Int.reduceAdd, Int.reduceSub, List.getElem_cons_zero, List.getElem_cons_succ, hz1, hz2, hz3])) (by first | rfl | (simp (disch := omega) only [go_sem, ↓reduceIte, Nat.reduceEqDiff, reduceCtorEq, Nat.reduceAdd, Nat.reduceLeDiff, Nat.reduceMul, Int.reduceNeg, Int.reduceLT, Int.reduceAdd, Int.reduceSub, List.getElem_cons_zero, List.getElem_cons_succ, hz1, hz2, hz3])) (by first | rfl | simp [V.pures, V.pure, V.pures_t]) ?_
        rintro r3_6 h3_6 hh3_6 rfl -
        try simp (disch := omega) only [go_sem, ↓reduceIte, Nat.reduceEqDiff, reduceCtorEq, Nat.reduceAdd, Nat.reduceLeDiff, Nat.reduceMul, Int.reduceNeg, Int.reduceLT, Int.reduceAdd, Int.reduceSub, List.getElem_cons_zero, List.getElem_cons_succ, hz1, hz2, hz3]
        refine ⟨by simp [bsOk], fun g3_9 hg3_9 => ?_⟩
        try simp (disch := omega) only [go_sem, ↓reduceIte, Nat.reduceEqDiff, reduceCtorEq, Nat.reduceAdd, Nat.reduceLeDiff, Nat.reduceMul, Int.reduceNeg, Int.reduceLT, Int.reduceAdd, Int.reduceSub, List.getElem_cons_zero, List.getElem_cons_succ, hz1, hz2, hz3]
        refine x_appT [V.t (.str (x.cn ++ ⟨#[40]⟩ ++ jn x.vs ⟨#[44]⟩ ++ ⟨#[41]⟩))] (show tElem Try.prog 63 = some 9 by kernel_rfl) (show tSize Try.prog 9 = some 1 by kernel_rfl) (show tZero Try.prog 9 = some [.t (.str ⟨#[]⟩)] by kernel_rfl) (show tBytes Try.prog 9 = some 16 by kernel_rfl) (by first | rfl | (simp (disch := omega) only [go_sem, ↓reduceIte, Nat.reduceEqDiff, reduceCtorEq, Nat.reduceAdd, Nat.reduceLeDiff, Nat.reduceMul, Int.reduceNeg, Int.reduceLT, Int.reduceAdd, Int.reduceSub, List.getElem_cons_zero, List.getElem_cons_succ, hz1, hz2, hz3])) (show Tb _ 1 [] [1] (.own 1 0 0 0) from .inr ⟨1, g1_0, 0, 0, [], [], rfl, by simp, rfl, rfl, TrLL_nil, fun e he => by cases he⟩) (by first | rfl | (simp (disch := omega) only [go_sem, ↓reduceIte, Nat.reduceEqDiff, reduceCtorEq, Nat.reduceAdd, Nat.reduceLeDiff, Nat.reduceMul, Int.reduceNeg, Int.reduceLT, Int.reduceAdd, Int.reduceSub, List.getElem_cons_zero, List.getElem_cons_succ, hz1, hz2, hz3, appElems, St.elems])) (by simp) (TrL_one Tr_str) rfl (Dj_nil _) (by decide) ?_
        rintro v3_10 S3_10 σ3_10 h3_10 hT3_10 hk3_10 hS3_10 hl3_10 hle3_10 hh3_10
        try simp (disch := omega) only [go_sem, ↓reduceIte, Nat.reduceEqDiff, reduceCtorEq, Nat.reduceAdd, Nat.reduceLeDiff, Nat.reduceMul, Int.reduceNeg, Int.reduceLT, Int.reduceAdd, Int.reduceSub, List.getElem_cons_zero, List.getElem_cons_succ, hz1, hz2, hz3]
        refine hKJ3 _ ⟨[x.cn ++ ⟨#[40]⟩ ++ jn x.vs ⟨#[44]⟩ ++ ⟨#[41]⟩], S3_10, v3_10, _, (by first | rfl | simp), (by first | rfl | assumption | (simp (disch := omega) only [go_sem, ↓reduceIte, Nat.reduceEqDiff, reduceCtorEq, Nat.reduceAdd, Nat.reduceLeDiff, Nat.reduceMul, Int.reduceNeg, Int.reduceLT, Int.reduceAdd, Int.reduceSub])), (by first | rfl | assumption | (simp (disch := omega) only [go_sem, ↓reduceIte, Nat.reduceEqDiff, reduceCtorEq, Nat.reduceAdd, Nat.reduceLeDiff, Nat.reduceMul, Int.reduceNeg, Int.reduceLT, Int.reduceAdd, Int.reduceSub])), ?_, ?_, ?_, ?_⟩
        · exact (hk3_10 0 (by simp) (by simp)).trans rfl
        · exact hT3_10
        · exact fun r hr => (hS3_10 r hr).elim (fun h => by simp at h; omega) (fun h => h.elim (fun h => by cases h) (fun h => by simp at h; omega))
        · rw [rpt, if_neg hb2_3, ptx, if_neg (by omega)]
      · (try simp only [go_sem] at hc1)
        refine vc_seq fun K7 hK7 => ?_
        refine vc_reg ?_
        try simp (disch := omega) only [go_sem, ↓reduceIte, Nat.reduceEqDiff, reduceCtorEq, Nat.reduceAdd, Nat.reduceLeDiff, Nat.reduceMul, Int.reduceNeg, Int.reduceLT, Int.reduceAdd, Int.reduceSub]
        refine hK7 _ ?_
        refine vc_cond (t := _) (by first | rfl | (simp (disch := omega) only [go_sem, ↓reduceIte, Nat.reduceEqDiff, reduceCtorEq, Nat.reduceAdd, Nat.reduceLeDiff, Nat.reduceMul, Int.reduceNeg, Int.reduceLT, Int.reduceAdd, Int.reduceSub]; rfl)) (fun hc2 => ?_) (fun hc2 => ?_)
        · (try simp only [go_sem] at hc2)
          refine vc_reg ?_
          try simp (disch := omega) only [go_sem, ↓reduceIte, Nat.reduceEqDiff, reduceCtorEq, Nat.reduceAdd, Nat.reduceLeDiff, Nat.reduceMul, Int.reduceNeg, Int.reduceLT, Int.reduceAdd, Int.reduceSub]
          refine ⟨by simp [bsOk], fun g5_3 hg5_3 => ?_⟩
          try simp (disch := omega) only [go_sem, ↓reduceIte, Nat.reduceEqDiff, reduceCtorEq, Nat.reduceAdd, Nat.reduceLeDiff, Nat.reduceMul, Int.reduceNeg, Int.reduceLT, Int.reduceAdd, Int.reduceSub]
          refine x_appT [V.t (.str x.cn)] (show tElem Try.prog 63 = some 9 by kernel_rfl) (show tSize Try.prog 9 = some 1 by kernel_rfl) (show tZero Try.prog 9 = some [.t (.str ⟨#[]⟩)] by kernel_rfl) (show tBytes Try.prog 9 = some 16 by kernel_rfl) (by first | rfl | (simp (disch := omega) only [go_sem, ↓reduceIte, Nat.reduceEqDiff, reduceCtorEq, Nat.reduceAdd, Nat.reduceLeDiff, Nat.reduceMul, Int.reduceNeg, Int.reduceLT, Int.reduceAdd, Int.reduceSub])) (show Tb _ 1 [] [1] (.own 1 0 0 0) from .inr ⟨1, g1_0, 0, 0, [], [], rfl, by simp, rfl, rfl, TrLL_nil, fun e he => by cases he⟩) (by first | rfl | (simp (disch := omega) only [go_sem, ↓reduceIte, Nat.reduceEqDiff, reduceCtorEq, Nat.reduceAdd, Nat.reduceLeDiff, Nat.reduceMul, Int.reduceNeg, Int.reduceLT, Int.reduceAdd, Int.reduceSub, appElems, St.elems])) (by simp) (TrL_one Tr_str) rfl (Dj_nil _) (by decide) ?_
          rintro v5_4 S5_4 σ5_4 h5_4 hT5_4 hk5_4 hS5_4 hl5_4 hle5_4 hh5_4
          try simp (disch := omega) only [go_sem, ↓reduceIte, Nat.reduceEqDiff, reduceCtorEq, Nat.reduceAdd, Nat.reduceLeDiff, Nat.reduceMul, Int.reduceNeg, Int.reduceLT, Int.reduceAdd, Int.reduceSub]
          refine hKJ3 _ ⟨[x.cn], S5_4, v5_4, _, (by first | rfl | simp), (by first | rfl | assumption | (simp (disch := omega) only [go_sem, ↓reduceIte, Nat.reduceEqDiff, reduceCtorEq, Nat.reduceAdd, Nat.reduceLeDiff, Nat.reduceMul, Int.reduceNeg, Int.reduceLT, Int.reduceAdd, Int.reduceSub])), (by first | rfl | assumption | (simp (disch := omega) only [go_sem, ↓reduceIte, Nat.reduceEqDiff, reduceCtorEq, Nat.reduceAdd, Nat.reduceLeDiff, Nat.reduceMul, Int.reduceNeg, Int.reduceLT, Int.reduceAdd, Int.reduceSub])), ?_, ?_, ?_, ?_⟩
          · exact (hk5_4 0 (by simp) (by simp)).trans rfl
          · exact hT5_4
          · exact fun r hr => (hS5_4 r hr).elim (fun h => by simp at h; omega) (fun h => h.elim (fun h => by cases h) (fun h => by simp at h; omega))
          · rw [rpt, if_neg hb2_3, ptx, if_pos (by omega)]
        · (try simp only [go_sem] at hc2)
          refine vc_skip ?_
          refine hKJ3 _ ⟨[], [1], .own 1 0 0 0, _, (by first | rfl | simp), (by first | rfl | assumption | (simp (disch := omega) only [go_sem, ↓reduceIte, Nat.reduceEqDiff, reduceCtorEq, Nat.reduceAdd, Nat.reduceLeDiff, Nat.reduceMul, Int.reduceNeg, Int.reduceLT, Int.reduceAdd, Int.reduceSub])), (by first | rfl | assumption | (simp (disch := omega) only [go_sem, ↓reduceIte, Nat.reduceEqDiff, reduceCtorEq, Nat.reduceAdd, Nat.reduceLeDiff, Nat.reduceMul, Int.reduceNeg, Int.reduceLT, Int.reduceAdd, Int.reduceSub])), ?_, ?_, ?_, ?_⟩
          · rfl
          · exact .inr ⟨1, g1_0, 0, 0, [], [], rfl, by simp, rfl, rfl, TrLL_nil, fun e he => by cases he⟩
          · exact fun r hr => by simp at hr; omega
          · rw [rpt, if_pos (by assumption)]
    · (try simp only [go_sem] at hb2_3)
      try simp (disch := omega) only [go_sem, ↓reduceIte, Nat.reduceEqDiff, reduceCtorEq, Nat.reduceAdd, Nat.reduceLeDiff, Nat.reduceMul, Int.reduceNeg, Int.reduceLT, Int.reduceAdd, Int.reduceSub, List.getElem?_cons_zero]
      refine hK4 _ ?_
      refine vc_cond (t := _) (by first | rfl | (simp (disch := omega) only [go_sem, ↓reduceIte, Nat.reduceEqDiff, reduceCtorEq, Nat.reduceAdd, Nat.reduceLeDiff, Nat.reduceMul, Int.reduceNeg, Int.reduceLT, Int.reduceAdd, Int.reduceSub]; rfl)) (fun hc3 => ?_) (fun hc3 => ?_)
      · exact absurd hc3 (by simp)
      · (try simp only [go_sem] at hc3)
        refine vc_seq fun K8 hK8 => ?_
        refine vc_reg ?_
        try simp (disch := omega) only [go_sem, ↓reduceIte, Nat.reduceEqDiff, reduceCtorEq, Nat.reduceAdd, Nat.reduceLeDiff, Nat.reduceMul, Int.reduceNeg, Int.reduceLT, Int.reduceAdd, Int.reduceSub]
        refine hK8 _ ?_
        refine vc_cond (t := _) (by first | rfl | (simp (disch := omega) only [go_sem, ↓reduceIte, Nat.reduceEqDiff, reduceCtorEq, Nat.reduceAdd, Nat.reduceLeDiff, Nat.reduceMul, Int.reduceNeg, Int.reduceLT, Int.reduceAdd, Int.reduceSub]; rfl)) (fun hc4 => ?_) (fun hc4 => ?_)
        · (try simp only [go_sem] at hc4)
          refine vc_reg ?_
          try simp (disch := omega) only [go_sem, ↓reduceIte, Nat.reduceEqDiff, reduceCtorEq, Nat.reduceAdd, Nat.reduceLeDiff, Nat.reduceMul, Int.reduceNeg, Int.reduceLT, Int.reduceAdd, Int.reduceSub]
          refine ⟨by simp [bsOk], fun g5_3 hg5_3 => ?_⟩
          try simp (disch := omega) only [go_sem, ↓reduceIte, Nat.reduceEqDiff, reduceCtorEq, Nat.reduceAdd, Nat.reduceLeDiff, Nat.reduceMul, Int.reduceNeg, Int.reduceLT, Int.reduceAdd, Int.reduceSub]
          refine x_appT [V.t (.str x.cn)] (show tElem Try.prog 63 = some 9 by kernel_rfl) (show tSize Try.prog 9 = some 1 by kernel_rfl) (show tZero Try.prog 9 = some [.t (.str ⟨#[]⟩)] by kernel_rfl) (show tBytes Try.prog 9 = some 16 by kernel_rfl) (by first | rfl | (simp (disch := omega) only [go_sem, ↓reduceIte, Nat.reduceEqDiff, reduceCtorEq, Nat.reduceAdd, Nat.reduceLeDiff, Nat.reduceMul, Int.reduceNeg, Int.reduceLT, Int.reduceAdd, Int.reduceSub])) (show Tb _ 1 [] [1] (.own 1 0 0 0) from .inr ⟨1, g1_0, 0, 0, [], [], rfl, by simp, rfl, rfl, TrLL_nil, fun e he => by cases he⟩) (by first | rfl | (simp (disch := omega) only [go_sem, ↓reduceIte, Nat.reduceEqDiff, reduceCtorEq, Nat.reduceAdd, Nat.reduceLeDiff, Nat.reduceMul, Int.reduceNeg, Int.reduceLT, Int.reduceAdd, Int.reduceSub, appElems, St.elems])) (by simp) (TrL_one Tr_str) rfl (Dj_nil _) (by decide) ?_
          rintro v5_4 S5_4 σ5_4 h5_4 hT5_4 hk5_4 hS5_4 hl5_4 hle5_4 hh5_4
          try simp (disch := omega) only [go_sem, ↓reduceIte, Nat.reduceEqDiff, reduceCtorEq, Nat.reduceAdd, Nat.reduceLeDiff, Nat.reduceMul, Int.reduceNeg, Int.reduceLT, Int.reduceAdd, Int.reduceSub]
          refine hKJ3 _ ⟨[x.cn], S5_4, v5_4, _, (by first | rfl | simp), (by first | rfl | assumption | (simp (disch := omega) only [go_sem, ↓reduceIte, Nat.reduceEqDiff, reduceCtorEq, Nat.reduceAdd, Nat.reduceLeDiff, Nat.reduceMul, Int.reduceNeg, Int.reduceLT, Int.reduceAdd, Int.reduceSub])), (by first | rfl | assumption | (simp (disch := omega) only [go_sem, ↓reduceIte, Nat.reduceEqDiff, reduceCtorEq, Nat.reduceAdd, Nat.reduceLeDiff, Nat.reduceMul, Int.reduceNeg, Int.reduceLT, Int.reduceAdd, Int.reduceSub])), ?_, ?_, ?_, ?_⟩
          · exact (hk5_4 0 (by simp) (by simp)).trans rfl
          · exact hT5_4
          · exact fun r hr => (hS5_4 r hr).elim (fun h => by simp at h; omega) (fun h => h.elim (fun h => by cases h) (fun h => by simp at h; omega))
          · exfalso; simp_all
        · (try simp only [go_sem] at hc4)
          refine vc_skip ?_
          refine hKJ3 _ ⟨[], [1], .own 1 0 0 0, _, (by first | rfl | simp), (by first | rfl | assumption | (simp (disch := omega) only [go_sem, ↓reduceIte, Nat.reduceEqDiff, reduceCtorEq, Nat.reduceAdd, Nat.reduceLeDiff, Nat.reduceMul, Int.reduceNeg, Int.reduceLT, Int.reduceAdd, Int.reduceSub])), (by first | rfl | assumption | (simp (disch := omega) only [go_sem, ↓reduceIte, Nat.reduceEqDiff, reduceCtorEq, Nat.reduceAdd, Nat.reduceLeDiff, Nat.reduceMul, Int.reduceNeg, Int.reduceLT, Int.reduceAdd, Int.reduceSub])), ?_, ?_, ?_, ?_⟩
          · rfl
          · exact .inr ⟨1, g1_0, 0, 0, [], [], rfl, by simp, rfl, rfl, TrLL_nil, fun e he => by cases he⟩
          · exact fun r hr => by simp at hr; omega
          · rw [rpt, if_pos (by assumption)]
  · skip
    rintro ⟨e, σ, h⟩ ⟨acc, S1, v1, σ1, hσ, e1, e3, h0_, hT1, hS1, hacc⟩
    simp only at hσ e1 e3
    subst hσ
    refine vc_seq fun K9 hK9 => ?_
    refine vc_reg ?_
    try simp (disch := omega) only [go_sem, ↓reduceIte, Nat.reduceEqDiff, reduceCtorEq, Nat.reduceAdd, Nat.reduceLeDiff, Nat.reduceMul, Int.reduceNeg, Int.reduceLT, Int.reduceAdd, Int.reduceSub, e1, e3, h0_, Vs_of]
    refine x_appS x.ps (show tElem Try.prog 63 = some 9 by kernel_rfl) (show tSize Try.prog 9 = some 1 by kernel_rfl) (show tZero Try.prog 9 = some [.t (.str ⟨#[]⟩)] by kernel_rfl) (show tBytes Try.prog 9 = some 16 by kernel_rfl) (by first | rfl | (simp (disch := omega) only [go_sem, ↓reduceIte, Nat.reduceEqDiff, reduceCtorEq, Nat.reduceAdd, Nat.reduceLeDiff, Nat.reduceMul, Int.reduceNeg, Int.reduceLT, Int.reduceAdd, Int.reduceSub, e1, e3, h0_, Vs_of])) hT1 (by first | rfl | (simp (disch := omega) only [go_sem, ↓reduceIte, Nat.reduceEqDiff, reduceCtorEq, Nat.reduceAdd, Nat.reduceLeDiff, Nat.reduceMul, Int.reduceNeg, Int.reduceLT, Int.reduceAdd, Int.reduceSub, e1, e3, h0_, Vs_of, appElems, St.elems])) (by simp) (by have hrz := rpt_size x.cn x.vs; rw [← hacc] at hrz; omega) ?_
    rintro v6_3 S6_3 σ6_3 h6_3 hT6_3 hk6_3 hS6_3 hh6_3
    try simp (disch := omega) only [go_sem, ↓reduceIte, Nat.reduceEqDiff, reduceCtorEq, Nat.reduceAdd, Nat.reduceLeDiff, Nat.reduceMul, Int.reduceNeg, Int.reduceLT, Int.reduceAdd, Int.reduceSub, e1, e3, h0_, Vs_of]
    refine hK9 _ ?_
    refine vc_seq fun K10 hK10 => ?_
    obtain ⟨gl, hlend⟩ := hT6_3.lend
    rw [Ds_er] at hlend
    have hrz := rpt_size x.cn x.vs
    rw [← hacc] at hrz
    have hfz := fx_size (x := x) (by omega)
    have hpz : (acc ++ x.ps).length + sumB (acc ++ x.ps) ≤ 4194304 := by rw [List.length_append, sumB_app]; omega
    have hjz := jn_size (acc ++ x.ps)
    have h0n := (hk6_3 0 (List.getElem?_eq_some_iff.1 h0_).1 (fun hx => by have := hS1 0 hx; omega)).trans h0_
    have hs40 : (#[40] : Array UInt8).size = 1 := rfl
    have hs4 : (#[41, 32, 61, 32] : Array UInt8).size = 4 := rfl
    have hz1 : ¬ (IntKind.i64.max < ((x.nm.size + (#[40] : Array UInt8).size : Nat) : Int)) := by rw [i64max, hs40]; omega
    have hz2 : ¬ (IntKind.i64.max < ((x.nm.size + (#[40] : Array UInt8).size + (jn (acc ++ x.ps) ⟨#[44]⟩).size : Nat) : Int)) := by rw [i64max, hs40]; omega
    have hz3 : ¬ (IntKind.i64.max < ((x.nm.size + (#[40] : Array UInt8).size + (jn (acc ++ x.ps) ⟨#[44]⟩).size + (#[41, 32, 61, 32] : Array UInt8).size : Nat) : Int)) := by rw [i64max, hs40, hs4]; omega
    have hz4 : ¬ (IntKind.i64.max < ((x.nm.size + (#[40] : Array UInt8).size + (jn (acc ++ x.ps) ⟨#[44]⟩).size + (#[41, 32, 61, 32] : Array UInt8).size + ((if (decide ((x.bd.sz : Int) ≤ 80) && (decide ((x.bd.dp : Int) ≤ 24) && x.bd.af)) = true then x.bd.tx else ⟨#[]⟩)).size : Nat) : Int)) := by rw [i64max, hs40, hs4]; omega
    refine vc_regD [(0, false), (1, false), (2, false), (3, false), (7, false), (8, false), (4, false), (5, false), (6, false), (9, false), (10, false), (11, false)] (by kernel_rfl) ?_
    try simp (disch := omega) only [go_sem, ↓reduceIte, Nat.reduceEqDiff, reduceCtorEq, Nat.reduceAdd, Nat.reduceLeDiff, Nat.reduceMul, Int.reduceNeg, Int.reduceLT, Int.reduceAdd, Int.reduceSub, e1, e3, List.getElem_cons_zero, List.getElem_cons_succ, h0n, hz1, hz2, hz3, hz4]
    refine vcX_callS (caps := []) S6_3 [.t (.sl gl (Ts (acc ++ x.ps))), .t (.str ⟨#[44]⟩)] _ (spec_Join gl (acc ++ x.ps) ⟨#[44]⟩ (by omega) (by show 1 ≤ _; omega)) (by first | rfl | simp (disch := omega) only [go_sem, ↓reduceIte, Nat.reduceEqDiff, reduceCtorEq, Nat.reduceAdd, Nat.reduceLeDiff, Nat.reduceMul, Int.reduceNeg, Int.reduceLT, Int.reduceAdd, Int.reduceSub, e1, e3, List.getElem_cons_zero, List.getElem_cons_succ, h0n, hz1, hz2, hz3, hz4]) ?_ ?_
    · show Subs [V.loc _ [] S6_3 v6_3, V.t (.str ⟨#[44]⟩)] _
      exact Subs.cons hlend (Subs.cons (.refl _) (Subs.nil))
    rintro r7_4 h7_4 hh7_4 rfl -
    refine ⟨fun q hq o ho hm => by simp [V.ids, T.ids] at hm, ?_⟩
    try simp (disch := omega) only [go_sem, ↓reduceIte, Nat.reduceEqDiff, reduceCtorEq, Nat.reduceAdd, Nat.reduceLeDiff, Nat.reduceMul, Int.reduceNeg, Int.reduceLT, Int.reduceAdd, Int.reduceSub, e1, e3, List.getElem_cons_zero, List.getElem_cons_succ, h0n, hz1, hz2, hz3, hz4]
    refine vcX_call _ _ (spec_FormatExpr x.bd _ hvx_ (by omega)) (by first | rfl | (simp (disch := omega) only [go_sem, ↓reduceIte, Nat.reduceEqDiff, reduceCtorEq, Nat.reduceAdd, Nat.reduceLeDiff, Nat.reduceMul, Int.reduceNeg, Int.reduceLT, Int.reduceAdd, Int.reduceSub, e1, e3, List.getElem_cons_zero, List.getElem_cons_succ, h0n, hz1, hz2, hz3, hz4])) (by first | rfl | (simp (disch := omega) only [go_sem, ↓reduceIte, Nat.reduceEqDiff, reduceCtorEq, Nat.reduceAdd, Nat.reduceLeDiff, Nat.reduceMul, Int.reduceNeg, Int.reduceLT, Int.reduceAdd, Int.reduceSub, e1, e3, List.getElem_cons_zero, List.getElem_cons_succ, h0n, hz1, hz2, hz3, hz4])) (by first | rfl | simp [V.pures, V.pure, V.pures_t]) ?_
    rintro r7_9 h7_9 hh7_9 rfl -
    try simp (disch := omega) only [go_sem, ↓reduceIte, Nat.reduceEqDiff, reduceCtorEq, Nat.reduceAdd, Nat.reduceLeDiff, Nat.reduceMul, Int.reduceNeg, Int.reduceLT, Int.reduceAdd, Int.reduceSub, e1, e3, List.getElem_cons_zero, List.getElem_cons_succ, h0n, hz1, hz2, hz3, hz4]
    refine hK10 _ ?_
    refine vc_ret ?_
    refine ⟨_, by first | rfl | (simp only [go_sem, resQ, List.mapM_cons, List.mapM_nil, ↓reduceIte, Nat.reduceEqDiff, Nat.reduceAdd, Nat.reduceLeDiff, reduceCtorEq]; rfl), [], [], .nil, by simp, by simp, fun hi_ h1_ => ⟨?_, rfl, rfl⟩, by simp⟩
    rw [rtx, ← hacc]; rfl

/-- laws.FnExactFormatRule -/
theorem laws_FnExactFormatRule (x : Ru) (c : List T) (hc : x.rep c) (hs : x.small) : FCtr Try.prog 10 [.agg (c.map .t)] (fun r => r = .t (.bool true)) := by
  obtain ⟨gax_, gbx_, kx_, nx_, gx_, csx_, rfl, hvx_⟩ := Ru.cells hc
  have reach := reach47
  refine Ctr.of_vc (rs := [.tmp 2]) (fn := Try.f10) mixed Try.func10 rfl rfl (by kernel_rfl) (by kernel_rfl) (by simp [Try.ntmps10]) (fun h0 => ?_)
  refine vc_seq fun K1 hK1 => ?_
  refine vc_reg ?_
  try simp (disch := omega) only [go_sem, ↓reduceIte, Nat.reduceEqDiff, reduceCtorEq, Nat.reduceAdd, Nat.reduceLeDiff, Nat.reduceMul, Int.reduceNeg, Int.reduceLT, Int.reduceAdd, Int.reduceSub]
  intro g0_0 hg0_0
  refine hK1 _ ?_
  refine vc_seq fun K2 hK2 => ?_
  refine vc_reg ?_
  try simp (disch := omega) only [go_sem, ↓reduceIte, Nat.reduceEqDiff, reduceCtorEq, Nat.reduceAdd, Nat.reduceLeDiff, Nat.reduceMul, Int.reduceNeg, Int.reduceLT, Int.reduceAdd, Int.reduceSub]
  refine hK2 _ ?_
  refine vc_seq fun K3 hK3 => ?_
  refine vc_reg ?_
  try simp (disch := omega) only [go_sem, ↓reduceIte, Nat.reduceEqDiff, reduceCtorEq, Nat.reduceAdd, Nat.reduceLeDiff, Nat.reduceMul, Int.reduceNeg, Int.reduceLT, Int.reduceAdd, Int.reduceSub]
  refine vcX_call _ _ (laws_szRule x _ 1048576 hc hs (by omega)) (by first | rfl | (simp (disch := omega) only [go_sem, ↓reduceIte, Nat.reduceEqDiff, reduceCtorEq, Nat.reduceAdd, Nat.reduceLeDiff, Nat.reduceMul, Int.reduceNeg, Int.reduceLT, Int.reduceAdd, Int.reduceSub])) (by first | rfl | (simp (disch := omega) only [go_sem, ↓reduceIte, Nat.reduceEqDiff, reduceCtorEq, Nat.reduceAdd, Nat.reduceLeDiff, Nat.reduceMul, Int.reduceNeg, Int.reduceLT, Int.reduceAdd, Int.reduceSub])) (by first | rfl | simp [V.pures, V.pure, V.pures_t]) ?_
  rintro r2_2 h2_2 hh2_2 ⟨m, rfl, hm⟩ -
  try simp (disch := omega) only [go_sem, ↓reduceIte, Nat.reduceEqDiff, reduceCtorEq, Nat.reduceAdd, Nat.reduceLeDiff, Nat.reduceMul, Int.reduceNeg, Int.reduceLT, Int.reduceAdd, Int.reduceSub]
  refine hK3 _ ?_
  refine vc_seq fun K4 hK4 => ?_
  refine vc_seq fun K5 hK5 => ?_
  refine vc_reg ?_
  try simp (disch := omega) only [go_sem, ↓reduceIte, Nat.reduceEqDiff, reduceCtorEq, Nat.reduceAdd, Nat.reduceLeDiff, Nat.reduceMul, Int.reduceNeg, Int.reduceLT, Int.reduceAdd, Int.reduceSub]
  refine hK5 _ ?_
  refine vc_cond (t := _) (by first | rfl | (simp (disch := omega) only [go_sem, ↓reduceIte, Nat.reduceEqDiff, reduceCtorEq, Nat.reduceAdd, Nat.reduceLeDiff, Nat.reduceMul, Int.reduceNeg, Int.reduceLT, Int.reduceAdd, Int.reduceSub]; rfl)) (fun hc1 => ?_) (fun hc1 => ?_)
  · (try simp only [go_sem] at hc1)
    refine vc_seq fun K6 hK6 => ?_
    refine vc_reg ?_
    try simp (disch := omega) only [go_sem, ↓reduceIte, Nat.reduceEqDiff, reduceCtorEq, Nat.reduceAdd, Nat.reduceLeDiff, Nat.reduceMul, Int.reduceNeg, Int.reduceLT, Int.reduceAdd, Int.reduceSub]
    refine hK6 _ ?_
    refine vc_ret ?_
    refine ⟨_, by first | rfl | (simp only [go_sem, resQ, List.mapM_cons, List.mapM_nil, ↓reduceIte, Nat.reduceEqDiff, Nat.reduceAdd, Nat.reduceLeDiff, reduceCtorEq]; rfl), [], [], .nil, by simp, by simp, fun hi_ h1_ => ⟨?_, rfl, rfl⟩, by simp⟩
    first | rfl | simp_all
  · (try simp only [go_sem] at hc1)
    have hw : x.wt ≤ 1048576 := by omega
    refine vc_skip ?_
    refine hK4 _ ?_
    refine vc_seq fun K7 hK7 => ?_
    refine vc_reg ?_
    try simp (disch := omega) only [go_sem, ↓reduceIte, Nat.reduceEqDiff, reduceCtorEq, Nat.reduceAdd, Nat.reduceLeDiff, Nat.reduceMul, Int.reduceNeg, Int.reduceLT, Int.reduceAdd, Int.reduceSub]
    refine vcX_call _ _ (laws_toRule x _ hc (by omega)) (by first | rfl | (simp (disch := omega) only [go_sem, ↓reduceIte, Nat.reduceEqDiff, reduceCtorEq, Nat.reduceAdd, Nat.reduceLeDiff, Nat.reduceMul, Int.reduceNeg, Int.reduceLT, Int.reduceAdd, Int.reduceSub])) (by first | rfl | (simp (disch := omega) only [go_sem, ↓reduceIte, Nat.reduceEqDiff, reduceCtorEq, Nat.reduceAdd, Nat.reduceLeDiff, Nat.reduceMul, Int.reduceNeg, Int.reduceLT, Int.reduceAdd, Int.reduceSub])) (by first | rfl | simp [V.pures, V.pure, V.pures_t]) ?_
    rintro r5_1 h5_1 hh5_1 ⟨c5, rfl, hc5⟩ -
    try simp (disch := omega) only [go_sem, ↓reduceIte, Nat.reduceEqDiff, reduceCtorEq, Nat.reduceAdd, Nat.reduceLeDiff, Nat.reduceMul, Int.reduceNeg, Int.reduceLT, Int.reduceAdd, Int.reduceSub]
    refine vcX_call _ _ (spec_FormatRule x _ hc5 hw) (by first | rfl | (simp (disch := omega) only [go_sem, ↓reduceIte, Nat.reduceEqDiff, reduceCtorEq, Nat.reduceAdd, Nat.reduceLeDiff, Nat.reduceMul, Int.reduceNeg, Int.reduceLT, Int.reduceAdd, Int.reduceSub])) (by first | rfl | (simp (disch := omega) only [go_sem, ↓reduceIte, Nat.reduceEqDiff, reduceCtorEq, Nat.reduceAdd, Nat.reduceLeDiff, Nat.reduceMul, Int.reduceNeg, Int.reduceLT, Int.reduceAdd, Int.reduceSub])) (by first | rfl | simp [V.pures, V.pure, V.pures_t]) ?_
    rintro r5_2 h5_2 hh5_2 rfl -
    try simp (disch := omega) only [go_sem, ↓reduceIte, Nat.reduceEqDiff, reduceCtorEq, Nat.reduceAdd, Nat.reduceLeDiff, Nat.reduceMul, Int.reduceNeg, Int.reduceLT, Int.reduceAdd, Int.reduceSub]
    refine hK7 _ ?_
    refine vc_seq fun K8 hK8 => ?_
    refine vc_reg ?_
    try simp (disch := omega) only [go_sem, ↓reduceIte, Nat.reduceEqDiff, reduceCtorEq, Nat.reduceAdd, Nat.reduceLeDiff, Nat.reduceMul, Int.reduceNeg, Int.reduceLT, Int.reduceAdd, Int.reduceSub]
    refine vcX_call _ _ (laws_toRule x _ hc (by omega)) (by first | rfl | (simp (disch := omega) only [go_sem, ↓reduceIte, Nat.reduceEqDiff, reduceCtorEq, Nat.reduceAdd, Nat.reduceLeDiff, Nat.reduceMul, Int.reduceNeg, Int.reduceLT, Int.reduceAdd, Int.reduceSub])) (by first | rfl | (simp (disch := omega) only [go_sem, ↓reduceIte, Nat.reduceEqDiff, reduceCtorEq, Nat.reduceAdd, Nat.reduceLeDiff, Nat.reduceMul, Int.reduceNeg, Int.reduceLT, Int.reduceAdd, Int.reduceSub])) (by first | rfl | simp [V.pures, V.pure, V.pures_t]) ?_
    rintro r6_1 h6_1 hh6_1 ⟨c6, rfl, hc6⟩ -
    obtain ⟨ga6_, gb6_, k6_, n6_, g6_, cs6_, rfl, hv6_⟩ := Ru.cells hc6
    try simp (disch := omega) only [go_sem, ↓reduceIte, Nat.reduceEqDiff, reduceCtorEq, Nat.reduceAdd, Nat.reduceLeDiff, Nat.reduceMul, Int.reduceNeg, Int.reduceLT, Int.reduceAdd, Int.reduceSub]
    intro g6_2 hg6_2
    refine hK8 _ ?_
    refine vc_seq fun K9 hK9 => ?_
    refine vc_reg ?_
    try simp (disch := omega) only [go_sem, ↓reduceIte, Nat.reduceEqDiff, reduceCtorEq, Nat.reduceAdd, Nat.reduceLeDiff, Nat.reduceMul, Int.reduceNeg, Int.reduceLT, Int.reduceAdd, Int.reduceSub]
    refine vcX_call _ _ (impl_FormatRule x _ hc6 hw) (by first | rfl | (simp (disch := omega) only [go_sem, ↓reduceIte, Nat.reduceEqDiff, reduceCtorEq, Nat.reduceAdd, Nat.reduceLeDiff, Nat.reduceMul, Int.reduceNeg, Int.reduceLT, Int.reduceAdd, Int.reduceSub])) (by first | rfl | (simp (disch := omega) only [go_sem, ↓reduceIte, Nat.reduceEqDiff, reduceCtorEq, Nat.reduceAdd, Nat.reduceLeDiff, Nat.reduceMul, Int.reduceNeg, Int.reduceLT, Int.reduceAdd, Int.reduceSub])) (by first | rfl | simp [V.pures, V.pure, V.pures_t]) ?_
    rintro r7_1 h7_1 hh7_1 rfl -
    try simp (disch := omega) only [go_sem, ↓reduceIte, Nat.reduceEqDiff, reduceCtorEq, Nat.reduceAdd, Nat.reduceLeDiff, Nat.reduceMul, Int.reduceNeg, Int.reduceLT, Int.reduceAdd, Int.reduceSub]
    refine hK9 _ ?_
    refine vc_seq fun K10 hK10 => ?_
    refine vc_seq fun K11 hK11 => ?_
    refine vc_reg ?_
    try simp (disch := omega) only [go_sem, ↓reduceIte, Nat.reduceEqDiff, reduceCtorEq, Nat.reduceAdd, Nat.reduceLeDiff, Nat.reduceMul, Int.reduceNeg, Int.reduceLT, Int.reduceAdd, Int.reduceSub]
    refine hK11 _ ?_
    refine vc_cond (t := _) (by first | rfl | (simp (disch := omega) only [go_sem, ↓reduceIte, Nat.reduceEqDiff, reduceCtorEq, Nat.reduceAdd, Nat.reduceLeDiff, Nat.reduceMul, Int.reduceNeg, Int.reduceLT, Int.reduceAdd, Int.reduceSub]; rfl)) (fun hc2 => ?_) (fun hc2 => ?_)
    · exact absurd hc2 (by simp)
    · (try simp only [go_sem] at hc2)
      refine vc_skip ?_
      refine hK10 _ ?_
      refine vc_seq fun K12 hK12 => ?_
      refine vc_seq fun K13 hK13 => ?_
      refine vc_regD [(0, false), (1, false), (2, false), (3, false), (4, false)] (by kernel_rfl) ?_
      try simp (disch := omega) only [go_sem, ↓reduceIte, Nat.reduceEqDiff, reduceCtorEq, Nat.reduceAdd, Nat.reduceLeDiff, Nat.reduceMul, Int.reduceNeg, Int.reduceLT, Int.reduceAdd, Int.reduceSub]
      refine vcX_call _ _ (laws_toRule x _ hc (by omega)) (by first | rfl | (simp (disch := omega) only [go_sem, ↓reduceIte, Nat.reduceEqDiff, reduceCtorEq, Nat.reduceAdd, Nat.reduceLeDiff, Nat.reduceMul, Int.reduceNeg, Int.reduceLT, Int.reduceAdd, Int.reduceSub])) (by first | rfl | (simp (disch := omega) only [go_sem, ↓reduceIte, Nat.reduceEqDiff, reduceCtorEq, Nat.reduceAdd, Nat.reduceLeDiff, Nat.reduceMul, Int.reduceNeg, Int.reduceLT, Int.reduceAdd, Int.reduceSub])) (by first | rfl | simp [V.pures, V.pure, V.pures_t]) ?_
      rintro r10_2 h10_2 hh10_2 ⟨c10, rfl, hc10⟩ -
      try simp (disch := omega) only [go_sem, ↓reduceIte, Nat.reduceEqDiff, reduceCtorEq, Nat.reduceAdd, Nat.reduceLeDiff, Nat.reduceMul, Int.reduceNeg, Int.reduceLT, Int.reduceAdd, Int.reduceSub]
      refine vcX_call _ _ (laws_eqRule x x _ _ hc6 hc10 (by omega) (by omega)) (by first | rfl | (simp (disch := omega) only [go_sem, ↓reduceIte, Nat.reduceEqDiff, reduceCtorEq, Nat.reduceAdd, Nat.reduceLeDiff, Nat.reduceMul, Int.reduceNeg, Int.reduceLT, Int.reduceAdd, Int.reduceSub])) (by first | rfl | (simp (disch := omega) only [go_sem, ↓reduceIte, Nat.reduceEqDiff, reduceCtorEq, Nat.reduceAdd, Nat.reduceLeDiff, Nat.reduceMul, Int.reduceNeg, Int.reduceLT, Int.reduceAdd, Int.reduceSub])) (by first | rfl | simp [V.pures, V.pure, V.pures_t]) ?_
      rintro r10_3 h10_3 hh10_3 rfl -
      try simp (disch := omega) only [go_sem, ↓reduceIte, Nat.reduceEqDiff, reduceCtorEq, Nat.reduceAdd, Nat.reduceLeDiff, Nat.reduceMul, Int.reduceNeg, Int.reduceLT, Int.reduceAdd, Int.reduceSub, Ru.eqb_self]
      refine hK13 _ ?_
      refine vc_cond (t := _) (by first | rfl | (simp (disch := omega) only [go_sem, ↓reduceIte, Nat.reduceEqDiff, reduceCtorEq, Nat.reduceAdd, Nat.reduceLeDiff, Nat.reduceMul, Int.reduceNeg, Int.reduceLT, Int.reduceAdd, Int.reduceSub]; rfl)) (fun hc3 => ?_) (fun hc3 => ?_)
      · exact absurd hc3 (by simp)
      · (try simp only [go_sem] at hc3)
        refine vc_skip ?_
        refine hK12 _ ?_
        refine vc_seq fun K14 hK14 => ?_
        refine vc_reg ?_
        try simp (disch := omega) only [go_sem, ↓reduceIte, Nat.reduceEqDiff, reduceCtorEq, Nat.reduceAdd, Nat.reduceLeDiff, Nat.reduceMul, Int.reduceNeg, Int.reduceLT, Int.reduceAdd, Int.reduceSub]
        refine hK14 _ ?_
        refine vc_ret ?_
        refine ⟨_, by first | rfl | (simp only [go_sem, resQ, List.mapM_cons, List.mapM_nil, ↓reduceIte, Nat.reduceEqDiff, Nat.reduceAdd, Nat.reduceLeDiff, reduceCtorEq]; rfl), [], [], .nil, by simp, by simp, fun hi_ h1_ => ⟨?_, rfl, rfl⟩, by simp⟩
        first | rfl | simp_all
end Go.Proofs.Ytlnfbkalpdicmaa
