/- Walks through the code: each function's contract. -/
import Derived.Test.YtlnfbkalpdicmaaWA5
set_option linter.unusedVariables false
set_option linter.unusedSimpArgs false
set_option maxRecDepth 8000
namespace Go.Proofs.Ytlnfbkalpdicmaa
open Go Go.VL

end Go.Proofs.Ytlnfbkalpdicmaa
namespace Go.VL
/-- The values by name, the names by what they hold. -/
theorem vcX_gen {P : Program} {ops : Array Oper} {l : List (Oper × Bool)} {K : St → Prop} {e : Nat → V} {σ : List Ob} {h : Nat} (hk : ∀ e' : Nat → V, (∀ t, e' t = e t) → vcX P ops l K ⟨e', σ, h⟩) : vcX P ops l K ⟨e, σ, h⟩ := hk e fun _ => rfl
/-- As 'closL', no place named twice. -/
def ins1 (x : Nat) : List Nat → List Nat
  | [] => [x]
  | y :: l => if x = y then y :: l else y :: ins1 x l
def uni1 : List Nat → List Nat → List Nat
  | [], r => r
  | x :: l, r => uni1 l (ins1 x r)
def closD (ops : Array Oper) : List (List Nat) := ops.toList.foldl (fun acc o => acc ++ [uni1 ((edges o).flatMap fun j => j :: acc.getD j []) []]) []
def dOkD (ops : Array Oper) (ord : List (Nat × Bool)) : Bool := drOk ops (closD ops) (ord.map (·.1)) && marksOk ops (closD ops) ord []
theorem ins1_mem {x y : Nat} : ∀ {l : List Nat}, y ∈ ins1 x l ↔ y = x ∨ y ∈ l
  | [] => by rw [ins1]; simp
  | z :: l => by
    rw [ins1]
    split
    · rename_i h
      subst h
      simp
    · rw [List.mem_cons, ins1_mem, List.mem_cons]
      constructor
      · rintro (h | h | h)
        · exact .inr (.inl h)
        · exact .inl h
        · exact .inr (.inr h)
      · rintro (h | h | h)
        · exact .inr (.inl h)
        · exact .inl h
        · exact .inr (.inr h)
theorem uni1_mem {y : Nat} : ∀ {l r : List Nat}, y ∈ uni1 l r ↔ y ∈ l ∨ y ∈ r
  | [], r => by rw [uni1]; simp
  | x :: l, r => by
    rw [uni1, uni1_mem, ins1_mem, List.mem_cons]
    constructor
    · rintro (h | h | h)
      · exact .inl (.inr h)
      · exact .inl (.inl h)
      · exact .inr h
    · rintro ((h | h) | h)
      · exact .inr (.inl h)
      · exact .inl h
      · exact .inr (.inr h)
def Sm (C C' : List (List Nat)) : Prop := C.length = C'.length ∧ ∀ i y, y ∈ C.getD i [] ↔ y ∈ C'.getD i []
theorem getD_snoc (C : List (List Nat)) (x : List Nat) (i : Nat) : (C ++ [x]).getD i [] = if i < C.length then C.getD i [] else if i = C.length then x else [] := by
  simp only [List.getD_eq_getElem?_getD, List.getElem?_append]
  split
  · rfl
  · split
    · rename_i h; subst h; simp
    · rename_i h1 h2
      rw [List.getElem?_eq_none (by simp; omega)]; rfl
theorem Sm.step {C C' : List (List Nat)} (h : Sm C C') (o : Oper) : Sm (C ++ [(edges o).flatMap fun j => j :: C.getD j []]) (C' ++ [uni1 ((edges o).flatMap fun j => j :: C'.getD j []) []]) := by
  refine ⟨by simp [h.1], fun i y => ?_⟩
  rw [getD_snoc, getD_snoc, h.1]
  split
  · exact h.2 i y
  · split
    · rw [uni1_mem, List.mem_flatMap, List.mem_flatMap]
      constructor
      · rintro ⟨j, hj, hy⟩
        refine .inl ⟨j, hj, ?_⟩
        rcases List.mem_cons.1 hy with rfl | hy
        · exact List.mem_cons_self
        · exact List.mem_cons_of_mem _ ((h.2 j y).1 hy)
      · rintro (⟨j, hj, hy⟩ | hy)
        · refine ⟨j, hj, ?_⟩
          rcases List.mem_cons.1 hy with rfl | hy
          · exact List.mem_cons_self
          · exact List.mem_cons_of_mem _ ((h.2 j y).2 hy)
        · cases hy
    · exact Iff.rfl
theorem Sm.fold : ∀ (l : List Oper) {C C' : List (List Nat)}, Sm C C' → Sm (l.foldl (fun acc o => acc ++ [(edges o).flatMap fun j => j :: acc.getD j []]) C) (l.foldl (fun acc o => acc ++ [uni1 ((edges o).flatMap fun j => j :: acc.getD j []) []]) C')
  | [], C, C', h => h
  | o :: l, C, C', h => by
    rw [List.foldl_cons, List.foldl_cons]
    exact Sm.fold l (h.step o)
theorem Sm_clos (ops : Array Oper) : Sm (closL ops) (closD ops) := Sm.fold ops.toList ⟨rfl, fun _ _ => Iff.rfl⟩
theorem Sm.cont {C C' : List (List Nat)} (h : Sm C C') (i y : Nat) : (C.getD i []).contains y = (C'.getD i []).contains y := by
  rw [Bool.eq_iff_iff, List.contains_iff_mem, List.contains_iff_mem]
  exact h.2 i y
theorem Sm.marks {C C' : List (List Nat)} (h : Sm C C') (ops : Array Oper) : ∀ (ord : List (Nat × Bool)) (L : List Nat), marksOk ops C ord L = marksOk ops C' ord L
  | [], L => rfl
  | (i, b) :: l, L => by
    rw [marksOk, marksOk, h.marks ops l]
    simp only [h.cont]
theorem Sm.dr {C C' : List (List Nat)} (h : Sm C C') {ops : Array Oper} {ord : List Nat} (hd : drOk ops C' ord = true) : drOk ops C ord = true := by
  have hr : rOk ops C = rOk ops C' := by
    funext y i
    unfold rOk
    rw [h.cont]
  unfold drOk at hd ⊢
  rw [hr]
  simp only [Bool.and_eq_true] at hd ⊢
  refine ⟨⟨⟨⟨⟨?_, hd.1.1.1.1.2⟩, hd.1.1.1.2⟩, hd.1.1.2⟩, hd.1.2⟩, hd.2⟩
  have h1 := hd.1.1.1.1.1
  unfold cOk at h1 ⊢
  rw [List.all_eq_true] at h1 ⊢
  intro i hi
  have h2 := h1 i (by rw [← h.1]; exact hi)
  rw [List.all_eq_true] at h2 ⊢
  intro z hz
  have h3 := h2 z ((h.2 i z).1 hz)
  simpa only [h.cont] using h3
theorem vc_regE {P : Program} {K : Exit → St → Prop} {s : St} {id : Nat} {l : List Oper} (ord : List (Nat × Bool)) (hd : dOkD l.toArray ord = true) (hp : pk l.toArray ord = l.map fun o => (o, false)) (G : List (Nat × Tmp)) (hG : (G.all fun p => decide ((l.toArray[p.1]?).bind (·.dst) = some p.2)) = true)
    (h : ∀ ops' : Array Oper, (∀ p ∈ G, (ops'[p.1]?).bind (·.dst) = some p.2) → vcX P ops' (l.map fun o => (o, false)) (K .normal) s) : vcC P (.region id l.toArray true) K s := by
  unfold vcC
  rw [if_pos rfl]
  simp only [dOkD, Bool.and_eq_true] at hd
  exact ⟨_, (Sm_clos _).dr hd.1, vcX_R _ _ _ s (by rw [(Sm_clos _).marks]; exact hd.2) (fun p hp => by cases hp) (by rw [hp]; exact h _ fun p hp => of_decide_eq_true (List.all_eq_true.1 hG p hp))⟩
end Go.VL
namespace Go.Proofs.Ytlnfbkalpdicmaa
open Go Go.VL

end Go.Proofs.Ytlnfbkalpdicmaa
namespace Go.VL
/-- A branch. -/
structure Br where
  bd : E
  nm : ByteArray
  cn : ByteArray
  ps : List ByteArray
def Br.rep (x : Br) (c : List T) : Prop := ∃ (g1 : Nat) (ce : List T), c = ce ++ [.str x.nm, .str x.cn, .sl g1 (x.ps.map fun s => [T.str s])] ∧ x.bd.rep ce
def Br.wt (x : Br) : Nat := x.bd.wt + x.nm.size + x.cn.size + (x.ps.length + sumB x.ps)
def Br.small (x : Br) : Prop := x.nm.size ≤ reachBytes ∧ x.cn.size ≤ reachBytes ∧ (x.ps.length ≤ reachBytes ∧ ∀ s ∈ x.ps, s.size ≤ reachBytes) ∧ x.bd.small
def Br.eqb (a b : Br) : Bool := E.eqb a.bd b.bd && (decide (a.nm = b.nm) && (decide (a.cn = b.cn) && decide (a.ps = b.ps)))
theorem Br.eqb_self (a : Br) : Br.eqb a a = true := by rw [Br.eqb, E.eqb_self, decide_eq_true rfl, decide_eq_true rfl, decide_eq_true rfl]; rfl
theorem Br.cells {x : Br} {c : List T} (h : x.rep c) : ∃ (g1 : Nat) (k : Int) (n : ByteArray) (g : Nat) (cs : List (List T)), c = [.int .i64 k, .str n, .sl g cs, .str x.nm, .str x.cn, .sl g1 (x.ps.map fun s => [T.str s])] ∧ x.bd.rep [.int .i64 k, .str n, .sl g cs] := by
  obtain ⟨g1, ce, rfl, h1⟩ := h
  obtain ⟨g, cs, rfl, _⟩ := E.rep_cells h1
  exact ⟨g1, _, _, g, cs, rfl, h1⟩
theorem four_of {l : List Field} {a b c d : TypeId} (h : l.map (·.type) = [a, b, c, d]) : ∃ f1 f2 f3 f4 : Field, l = [f1, f2, f3, f4] ∧ f1.type = a ∧ f2.type = b ∧ f3.type = c ∧ f4.type = d := by
  rcases l with _ | ⟨f1, _ | ⟨f2, _ | ⟨f3, _ | ⟨f4, _ | ⟨f5, l⟩⟩⟩⟩⟩
  · simp at h
  · simp at h
  · simp at h
  · simp at h
  · simp only [List.map_cons, List.map_nil, List.cons.injEq, and_true] at h
    exact ⟨f1, f2, f3, f4, rfl, h.1, h.2.1, h.2.2.1, h.2.2.2⟩
  · simp at h
theorem Br_of_Ty {P : Program} {tr tsl tn t ti tl : TypeId} {fr fs : Array Field} (hr0 : P.underlying tr = some (.struct fr)) (hfr : fr.toList.map (·.type) = [t, tn, tn, tsl]) (hsl : P.underlying tsl = some (.slice tn)) (hbn : 0 < P.bytesOf tn) (hu : P.underlying t = some (.struct fs)) (hf : fs.toList.map (·.type) = [ti, tn, tl]) (h1 : P.underlying ti = some (.int .i64)) (h2 : P.underlying tn = some .string) (h3 : P.underlying tl = some (.slice t))
    (hb : 0 < P.bytesOf t) {ts : List T} (h : Ty P tr ts) : ∃ x : Br, x.rep ts ∧ x.small := by
  have hF := h.inv_struct hr0
  obtain ⟨f1, f2, f3, f4, hfs, e1, e2, e3, e4⟩ := four_of hfr
  rw [hfs] at hF
  obtain ⟨x1, y1, rfl, k1, k2⟩ := hF.inv_cons
  obtain ⟨x2, y2, rfl, k3, k4⟩ := k2.inv_cons
  obtain ⟨x3, y3, rfl, k5, k6⟩ := k4.inv_cons
  obtain ⟨x4, y4, rfl, k7, k8⟩ := k6.inv_cons
  obtain rfl := k8.inv_nil
  rw [e1] at k1
  obtain ⟨s1, rfl, q1⟩ := k3.inv_str (e2 ▸ h2)
  obtain ⟨s2, rfl, q2⟩ := k5.inv_str (e3 ▸ h2)
  rw [e4] at k7
  obtain ⟨g2, l2, rfl, q5, q6⟩ := k7.strs hsl h2 hbn
  obtain ⟨v, r1, r2⟩ := E_of_Ty hu hf h1 h2 h3 hb k1
  exact ⟨⟨v, s1, s2, l2⟩, ⟨g2, x1, by simp, r1⟩, q1, q2, ⟨q5, q6⟩, r2⟩
theorem Brs_of_Ty {P : Program} {trl tr tsl tn t ti tl : TypeId} {fr fs : Array Field} (hrl : P.underlying trl = some (.slice tr)) (hbr : 0 < P.bytesOf tr) (hr0 : P.underlying tr = some (.struct fr)) (hfr : fr.toList.map (·.type) = [t, tn, tn, tsl]) (hsl : P.underlying tsl = some (.slice tn)) (hbn : 0 < P.bytesOf tn) (hu : P.underlying t = some (.struct fs)) (hf : fs.toList.map (·.type) = [ti, tn, tl]) (h1 : P.underlying ti = some (.int .i64)) (h2 : P.underlying tn = some .string) (h3 : P.underlying tl = some (.slice t))
    (hb : 0 < P.bytesOf t) {ts : List T} (h : Ty P trl ts) : ∃ (g : Nat) (cs : List (List T)) (l : List Br), ts = [.sl g cs] ∧ Rl Br.rep l cs ∧ l.length ≤ reachBytes ∧ ∀ b ∈ l, b.small := by
  obtain ⟨g, es, rfl, hes, hsz⟩ := h.inv_sl hrl
  obtain ⟨l, q1, q2⟩ := Rl.of_all (fun x hx => Br_of_Ty hr0 hfr hsl hbn hu hf h1 h2 h3 hb (hes x hx))
  exact ⟨g, es, l, rfl, q1, by rw [← q1.len]; exact Nat.le_trans (Nat.le_mul_of_pos_right _ hbr) hsz, q2⟩
end Go.VL
namespace Go.Proofs.Ytlnfbkalpdicmaa
open Go Go.VL

/-- laws.szBranch -/
theorem laws_szBranch (x : Br) (c : List T) (N : Int) (hc : x.rep c) (hs : x.small) (hN : 0 ≤ N ∧ N ≤ 1048576) : FCtr Try.prog 49 [.agg (c.map .t), .t (.int .i64 N)] (fun r => ∃ m : Int, r = .t (.int .i64 m) ∧ (m < 0 ∨ (0 ≤ m ∧ m + x.wt = N))) := by
  obtain ⟨gax_, kx_, nx_, gx_, csx_, rfl, hvx_⟩ := Br.cells hc
  obtain ⟨hs1, hs2, ⟨hl2, hs4⟩, hs5⟩ := hs
  have reach := reach47
  rw [Br.wt]
  refine Ctr.of_vc (rs := [.tmp 4]) (fn := Try.f49) mixed Try.func49 rfl rfl (by kernel_rfl) (by kernel_rfl) (by simp [Try.ntmps49]) (fun h0 => ?_)
  refine vc_seq fun K1 hK1 => ?_
  refine vc_reg ?_
  try simp (disch := omega) only [go_sem, ↓reduceIte, Nat.reduceEqDiff, reduceCtorEq, Nat.reduceAdd, Nat.reduceLeDiff, Nat.reduceMul, Int.reduceNeg, Int.reduceLT, Int.reduceAdd, Int.reduceSub]
  intro g0_0 hg0_0
  refine hK1 _ ?_
  refine vc_seq fun K2 hK2 => ?_
  refine vc_reg ?_
  try simp (disch := omega) only [go_sem, ↓reduceIte, Nat.reduceEqDiff, reduceCtorEq, Nat.reduceAdd, Nat.reduceLeDiff, Nat.reduceMul, Int.reduceNeg, Int.reduceLT, Int.reduceAdd, Int.reduceSub]
  refine vcX_call _ _ (laws_szExpr x.bd _ N hvx_ hs5 (by omega)) (by first | rfl | (simp (disch := omega) only [go_sem, ↓reduceIte, Nat.reduceEqDiff, reduceCtorEq, Nat.reduceAdd, Nat.reduceLeDiff, Nat.reduceMul, Int.reduceNeg, Int.reduceLT, Int.reduceAdd, Int.reduceSub])) (by first | rfl | (simp (disch := omega) only [go_sem, ↓reduceIte, Nat.reduceEqDiff, reduceCtorEq, Nat.reduceAdd, Nat.reduceLeDiff, Nat.reduceMul, Int.reduceNeg, Int.reduceLT, Int.reduceAdd, Int.reduceSub])) (by first | rfl | simp [V.pures, V.pure, V.pures_t]) ?_
  rintro r1_3 h1_3 hh1_3 ⟨m1, rfl, hm1⟩ -
  try simp (disch := omega) only [go_sem, ↓reduceIte, Nat.reduceEqDiff, reduceCtorEq, Nat.reduceAdd, Nat.reduceLeDiff, Nat.reduceMul, Int.reduceNeg, Int.reduceLT, Int.reduceAdd, Int.reduceSub]
  refine hK2 _ ?_
  refine vc_seq fun K3 hK3 => ?_
  refine vc_seq fun K4 hK4 => ?_
  refine vc_reg ?_
  try simp (disch := omega) only [go_sem, ↓reduceIte, Nat.reduceEqDiff, reduceCtorEq, Nat.reduceAdd, Nat.reduceLeDiff, Nat.reduceMul, Int.reduceNeg, Int.reduceLT, Int.reduceAdd, Int.reduceSub]
  refine hK4 _ ?_
  refine vc_cond (t := _) (by first | rfl | (simp (disch := omega) only [go_sem, ↓reduceIte, Nat.reduceEqDiff, reduceCtorEq, Nat.reduceAdd, Nat.reduceLeDiff, Nat.reduceMul, Int.reduceNeg, Int.reduceLT, Int.reduceAdd, Int.reduceSub]; rfl)) (fun hc1 => ?_) (fun hc1 => ?_)
  · (try simp only [go_sem] at hc1)
    refine vc_seq fun K5 hK5 => ?_
    refine vc_reg ?_
    try simp (disch := omega) only [go_sem, ↓reduceIte, Nat.reduceEqDiff, reduceCtorEq, Nat.reduceAdd, Nat.reduceLeDiff, Nat.reduceMul, Int.reduceNeg, Int.reduceLT, Int.reduceAdd, Int.reduceSub]
    refine hK5 _ ?_
    refine vc_ret ?_
    refine ⟨_, by first | rfl | (simp only [go_sem, resQ, List.mapM_cons, List.mapM_nil, ↓reduceIte, Nat.reduceEqDiff, Nat.reduceAdd, Nat.reduceLeDiff, reduceCtorEq]; rfl), [], [], .nil, by simp, by simp, fun hi_ h1_ => ⟨?_, rfl, rfl⟩, by simp⟩
    first | exact ⟨_, rfl, .inr (by omega)⟩ | exact ⟨_, rfl, .inl (by omega)⟩
  · (try simp only [go_sem] at hc1)
    refine vc_skip ?_
    refine hK3 _ ?_
    refine vc_seq fun K6 hK6 => ?_
    refine vc_reg ?_
    try simp (disch := omega) only [go_sem, ↓reduceIte, Nat.reduceEqDiff, reduceCtorEq, Nat.reduceAdd, Nat.reduceLeDiff, Nat.reduceMul, Int.reduceNeg, Int.reduceLT, Int.reduceAdd, Int.reduceSub]
    refine hK6 _ ?_
    refine vc_seq fun K7 hK7 => ?_
    refine vc_seq fun K8 hK8 => ?_
    refine vc_reg ?_
    try simp (disch := omega) only [go_sem, ↓reduceIte, Nat.reduceEqDiff, reduceCtorEq, Nat.reduceAdd, Nat.reduceLeDiff, Nat.reduceMul, Int.reduceNeg, Int.reduceLT, Int.reduceAdd, Int.reduceSub]
    refine hK8 _ ?_
    refine vc_cond (t := _) (by first | rfl | (simp (disch := omega) only [go_sem, ↓reduceIte, Nat.reduceEqDiff, reduceCtorEq, Nat.reduceAdd, Nat.reduceLeDiff, Nat.reduceMul, Int.reduceNeg, Int.reduceLT, Int.reduceAdd, Int.reduceSub]; rfl)) (fun hc2 => ?_) (fun hc2 => ?_)
    · (try simp only [go_sem] at hc2)
      refine vc_seq fun K9 hK9 => ?_
      refine vc_reg ?_
      try simp (disch := omega) only [go_sem, ↓reduceIte, Nat.reduceEqDiff, reduceCtorEq, Nat.reduceAdd, Nat.reduceLeDiff, Nat.reduceMul, Int.reduceNeg, Int.reduceLT, Int.reduceAdd, Int.reduceSub]
      refine hK9 _ ?_
      refine vc_ret ?_
      refine ⟨_, by first | rfl | (simp only [go_sem, resQ, List.mapM_cons, List.mapM_nil, ↓reduceIte, Nat.reduceEqDiff, Nat.reduceAdd, Nat.reduceLeDiff, reduceCtorEq]; rfl), [], [], .nil, by simp, by simp, fun hi_ h1_ => ⟨?_, rfl, rfl⟩, by simp⟩
      first | exact ⟨_, rfl, .inr (by omega)⟩ | exact ⟨_, rfl, .inl (by omega)⟩
    · (try simp only [go_sem] at hc2)
      refine vc_skip ?_
      refine hK7 _ ?_
      refine vc_seq fun K10 hK10 => ?_
      refine vc_reg ?_
      try simp (disch := omega) only [go_sem, ↓reduceIte, Nat.reduceEqDiff, reduceCtorEq, Nat.reduceAdd, Nat.reduceLeDiff, Nat.reduceMul, Int.reduceNeg, Int.reduceLT, Int.reduceAdd, Int.reduceSub]
      refine hK10 _ ?_
      refine vc_seq fun K11 hK11 => ?_
      refine vc_seq fun K12 hK12 => ?_
      refine vc_reg ?_
      try simp (disch := omega) only [go_sem, ↓reduceIte, Nat.reduceEqDiff, reduceCtorEq, Nat.reduceAdd, Nat.reduceLeDiff, Nat.reduceMul, Int.reduceNeg, Int.reduceLT, Int.reduceAdd, Int.reduceSub]
      refine hK12 _ ?_
      refine vc_cond (t := _) (by first | rfl | (simp (disch := omega) only [go_sem, ↓reduceIte, Nat.reduceEqDiff, reduceCtorEq, Nat.reduceAdd, Nat.reduceLeDiff, Nat.reduceMul, Int.reduceNeg, Int.reduceLT, Int.reduceAdd, Int.reduceSub]; rfl)) (fun hc3 => ?_) (fun hc3 => ?_)
      · (try simp only [go_sem] at hc3)
        refine vc_seq fun K13 hK13 => ?_
        refine vc_reg ?_
        try simp (disch := omega) only [go_sem, ↓reduceIte, Nat.reduceEqDiff, reduceCtorEq, Nat.reduceAdd, Nat.reduceLeDiff, Nat.reduceMul, Int.reduceNeg, Int.reduceLT, Int.reduceAdd, Int.reduceSub]
        refine hK13 _ ?_
        refine vc_ret ?_
        refine ⟨_, by first | rfl | (simp only [go_sem, resQ, List.mapM_cons, List.mapM_nil, ↓reduceIte, Nat.reduceEqDiff, Nat.reduceAdd, Nat.reduceLeDiff, reduceCtorEq]; rfl), [], [], .nil, by simp, by simp, fun hi_ h1_ => ⟨?_, rfl, rfl⟩, by simp⟩
        first | exact ⟨_, rfl, .inr (by omega)⟩ | exact ⟨_, rfl, .inl (by omega)⟩
      · (try simp only [go_sem] at hc3)
        refine vc_skip ?_
        refine hK11 _ ?_
        refine vc_seq fun K14 hK14 => ?_
        refine vc_reg ?_
        try simp (disch := omega) only [go_sem, ↓reduceIte, Nat.reduceEqDiff, reduceCtorEq, Nat.reduceAdd, Nat.reduceLeDiff, Nat.reduceMul, Int.reduceNeg, Int.reduceLT, Int.reduceAdd, Int.reduceSub]
        refine vcX_call _ _ (laws_szStringS _ x.ps (m1 - x.nm.size - x.cn.size) (by omega) (fun s h => by have := hs4 s h; omega) (by omega)) (by first | rfl | (simp (disch := omega) only [go_sem, ↓reduceIte, Nat.reduceEqDiff, reduceCtorEq, Nat.reduceAdd, Nat.reduceLeDiff, Nat.reduceMul, Int.reduceNeg, Int.reduceLT, Int.reduceAdd, Int.reduceSub])) (by first | rfl | (simp (disch := omega) only [go_sem, ↓reduceIte, Nat.reduceEqDiff, reduceCtorEq, Nat.reduceAdd, Nat.reduceLeDiff, Nat.reduceMul, Int.reduceNeg, Int.reduceLT, Int.reduceAdd, Int.reduceSub])) (by first | rfl | simp [V.pures, V.pure, V.pures_t]) ?_
        rintro r10_3 h10_3 hh10_3 ⟨m2, rfl, hm2⟩ -
        try simp (disch := omega) only [go_sem, ↓reduceIte, Nat.reduceEqDiff, reduceCtorEq, Nat.reduceAdd, Nat.reduceLeDiff, Nat.reduceMul, Int.reduceNeg, Int.reduceLT, Int.reduceAdd, Int.reduceSub]
        refine hK14 _ ?_
        refine vc_seq fun K15 hK15 => ?_
        refine vc_seq fun K16 hK16 => ?_
        refine vc_reg ?_
        try simp (disch := omega) only [go_sem, ↓reduceIte, Nat.reduceEqDiff, reduceCtorEq, Nat.reduceAdd, Nat.reduceLeDiff, Nat.reduceMul, Int.reduceNeg, Int.reduceLT, Int.reduceAdd, Int.reduceSub]
        refine hK16 _ ?_
        refine vc_cond (t := _) (by first | rfl | (simp (disch := omega) only [go_sem, ↓reduceIte, Nat.reduceEqDiff, reduceCtorEq, Nat.reduceAdd, Nat.reduceLeDiff, Nat.reduceMul, Int.reduceNeg, Int.reduceLT, Int.reduceAdd, Int.reduceSub]; rfl)) (fun hc4 => ?_) (fun hc4 => ?_)
        · (try simp only [go_sem] at hc4)
          refine vc_seq fun K17 hK17 => ?_
          refine vc_reg ?_
          try simp (disch := omega) only [go_sem, ↓reduceIte, Nat.reduceEqDiff, reduceCtorEq, Nat.reduceAdd, Nat.reduceLeDiff, Nat.reduceMul, Int.reduceNeg, Int.reduceLT, Int.reduceAdd, Int.reduceSub]
          refine hK17 _ ?_
          refine vc_ret ?_
          refine ⟨_, by first | rfl | (simp only [go_sem, resQ, List.mapM_cons, List.mapM_nil, ↓reduceIte, Nat.reduceEqDiff, Nat.reduceAdd, Nat.reduceLeDiff, reduceCtorEq]; rfl), [], [], .nil, by simp, by simp, fun hi_ h1_ => ⟨?_, rfl, rfl⟩, by simp⟩
          first | exact ⟨_, rfl, .inr (by omega)⟩ | exact ⟨_, rfl, .inl (by omega)⟩
        · (try simp only [go_sem] at hc4)
          refine vc_skip ?_
          refine hK15 _ ?_
          refine vc_seq fun K18 hK18 => ?_
          refine vc_reg ?_
          try simp (disch := omega) only [go_sem, ↓reduceIte, Nat.reduceEqDiff, reduceCtorEq, Nat.reduceAdd, Nat.reduceLeDiff, Nat.reduceMul, Int.reduceNeg, Int.reduceLT, Int.reduceAdd, Int.reduceSub]
          refine hK18 _ ?_
          refine vc_ret ?_
          refine ⟨_, by first | rfl | (simp only [go_sem, resQ, List.mapM_cons, List.mapM_nil, ↓reduceIte, Nat.reduceEqDiff, Nat.reduceAdd, Nat.reduceLeDiff, reduceCtorEq]; rfl), [], [], .nil, by simp, by simp, fun hi_ h1_ => ⟨?_, rfl, rfl⟩, by simp⟩
          first | exact ⟨_, rfl, .inr (by omega)⟩ | exact ⟨_, rfl, .inl (by omega)⟩

/-- laws.szBranchS -/
theorem laws_szBranchS (g : Nat) (us : List Br) (cs : List (List T)) (N : Int) (ha : Rl Br.rep us cs) (hl : us.length ≤ reachBytes) (hN : 0 ≤ N ∧ N ≤ 1048576) (ih : ∀ a ∈ us, ∀ (c : List T) (N : Int), Br.rep a c → 0 ≤ N ∧ N ≤ 1048576 → FCtr Try.prog 49 [.agg (c.map .t), .t (.int .i64 N)] (fun r => ∃ m : Int, r = .t (.int .i64 m) ∧ (m < 0 ∨ (0 ≤ m ∧ m + Br.wt a = N)))) : FCtr Try.prog 12 [.t (.sl g cs), .t (.int .i64 N)] (fun r => ∃ m : Int, r = .t (.int .i64 m) ∧ (m < 0 ∨ (0 ≤ m ∧ m + wl Br.wt us = N))) := by
  have hcl := ha.len
  have reach := reach47
  refine Ctr.of_vc (rs := [.tmp 4]) (fn := Try.f12) mixed Try.func12 rfl rfl (by kernel_rfl) (by kernel_rfl) (by simp [Try.ntmps12]) (fun h0 => ?_)
  refine vc_seq fun K1 hK1 => ?_
  refine vc_reg ?_
  try simp (disch := omega) only [go_sem, ↓reduceIte, Nat.reduceEqDiff, reduceCtorEq, Nat.reduceAdd, Nat.reduceLeDiff, Nat.reduceMul, Int.reduceNeg, Int.reduceLT, Int.reduceAdd, Int.reduceSub, hcl]
  refine hK1 _ ?_
  refine vc_seq fun K2 hK2 => ?_
  refine vc_reg ?_
  try simp (disch := omega) only [go_sem, ↓reduceIte, Nat.reduceEqDiff, reduceCtorEq, Nat.reduceAdd, Nat.reduceLeDiff, Nat.reduceMul, Int.reduceNeg, Int.reduceLT, Int.reduceAdd, Int.reduceSub, hcl]
  refine hK2 _ ?_
  refine vc_seq fun K3 hK3 => ?_
  refine vc_seq fun K4 hK4 => ?_
  refine vc_reg ?_
  try simp (disch := omega) only [go_sem, ↓reduceIte, Nat.reduceEqDiff, reduceCtorEq, Nat.reduceAdd, Nat.reduceLeDiff, Nat.reduceMul, Int.reduceNeg, Int.reduceLT, Int.reduceAdd, Int.reduceSub, hcl]
  refine hK4 _ ?_
  refine vc_cond (t := _) (by first | rfl | (simp (disch := omega) only [go_sem, ↓reduceIte, Nat.reduceEqDiff, reduceCtorEq, Nat.reduceAdd, Nat.reduceLeDiff, Nat.reduceMul, Int.reduceNeg, Int.reduceLT, Int.reduceAdd, Int.reduceSub, hcl]; rfl)) (fun hc1 => ?_) (fun hc1 => ?_)
  · (try simp only [go_sem] at hc1)
    refine vc_seq fun K5 hK5 => ?_
    refine vc_reg ?_
    try simp (disch := omega) only [go_sem, ↓reduceIte, Nat.reduceEqDiff, reduceCtorEq, Nat.reduceAdd, Nat.reduceLeDiff, Nat.reduceMul, Int.reduceNeg, Int.reduceLT, Int.reduceAdd, Int.reduceSub, hcl]
    refine hK5 _ ?_
    refine vc_ret ?_
    refine ⟨_, by first | rfl | (simp only [go_sem, resQ, List.mapM_cons, List.mapM_nil, ↓reduceIte, Nat.reduceEqDiff, Nat.reduceAdd, Nat.reduceLeDiff, reduceCtorEq]; rfl), [], [], .nil, by simp, by simp, fun hi_ h1_ => ⟨?_, rfl, rfl⟩, by simp⟩
    exact ⟨_, rfl, .inl (by omega)⟩
  · (try simp only [go_sem] at hc1)
    refine vc_skip ?_
    refine hK3 _ ?_
    refine vc_seq fun K6 hK6 => ?_
    refine vc_seq fun K7 hK7 => ?_
    refine vc_reg ?_
    try simp (disch := omega) only [go_sem, ↓reduceIte, Nat.reduceEqDiff, reduceCtorEq, Nat.reduceAdd, Nat.reduceLeDiff, Nat.reduceMul, Int.reduceNeg, Int.reduceLT, Int.reduceAdd, Int.reduceSub, hcl]
    refine hK7 _ ?_
    refine vc_block ?_
    refine vc_loop (fun m s => ∃ (n : Nat) (q : Int), (m = us.length - n) ∧ (s.σ = []) ∧ (s.env 0 = .t (.sl g cs)) ∧ (s.env 1 = .t (.int .i64 q)) ∧ (s.env 5 = .t (.int .i64 n)) ∧ (n ≤ us.length) ∧ (0 ≤ q ∧ q ≤ N) ∧ (q + us.length - n - wl Br.wt (us.drop n) = N - wl Br.wt us)) (us.length - 0) ⟨0, N - us.length, rfl, rfl, (by first | rfl | assumption | (simp (disch := omega) only [go_sem, ↓reduceIte, Nat.reduceEqDiff, reduceCtorEq, Nat.reduceAdd, Nat.reduceLeDiff, Nat.reduceMul, Int.reduceNeg, Int.reduceLT, Int.reduceAdd, Int.reduceSub, hcl])), (by first | rfl | assumption | (simp (disch := omega) only [go_sem, ↓reduceIte, Nat.reduceEqDiff, reduceCtorEq, Nat.reduceAdd, Nat.reduceLeDiff, Nat.reduceMul, Int.reduceNeg, Int.reduceLT, Int.reduceAdd, Int.reduceSub, hcl])), (by first | rfl | assumption | (simp (disch := omega) only [go_sem, ↓reduceIte, Nat.reduceEqDiff, reduceCtorEq, Nat.reduceAdd, Nat.reduceLeDiff, Nat.reduceMul, Int.reduceNeg, Int.reduceLT, Int.reduceAdd, Int.reduceSub, hcl])), (by first | rfl | omega | simp), (by first | rfl | omega | simp), (by first | rfl | omega | simp)⟩ ?_
    rintro m ⟨e, σ, h⟩ ⟨n, q, hm, hσ, e0, e1, e5, hn, hq, hs⟩ K8 hK8
    simp only at hσ e0 e1 e5
    subst hσ
    refine vc_seq fun K9 hK9 => ?_
    refine vc_seq fun K10 hK10 => ?_
    refine vc_reg ?_
    try simp (disch := omega) only [go_sem, ↓reduceIte, Nat.reduceEqDiff, reduceCtorEq, Nat.reduceAdd, Nat.reduceLeDiff, Nat.reduceMul, Int.reduceNeg, Int.reduceLT, Int.reduceAdd, Int.reduceSub, e0, e1, e5, hcl]
    refine hK10 _ ?_
    refine vc_cond (t := _) (by first | rfl | (simp (disch := omega) only [go_sem, ↓reduceIte, Nat.reduceEqDiff, reduceCtorEq, Nat.reduceAdd, Nat.reduceLeDiff, Nat.reduceMul, Int.reduceNeg, Int.reduceLT, Int.reduceAdd, Int.reduceSub, e0, e1, e5, hcl]; rfl)) (fun hc2 => ?_) (fun hc2 => ?_)
    · (try simp only [go_sem] at hc2)
      refine vc_skip ?_
      refine hK9 _ ?_
      refine vc_seq fun K11 hK11 => ?_
      refine vc_block ?_
      refine vc_seq fun K12 hK12 => ?_
      obtain ⟨cc, hcc, hrc⟩ := Rl.get ha (n := n) (by omega)
      obtain ⟨gac_, kc_, nc_, gc_, csc_, rfl, hvc_⟩ := Br.cells hrc
      refine vc_reg ?_
      try simp (disch := omega) only [go_sem, ↓reduceIte, Nat.reduceEqDiff, reduceCtorEq, Nat.reduceAdd, Nat.reduceLeDiff, Nat.reduceMul, Int.reduceNeg, Int.reduceLT, Int.reduceAdd, Int.reduceSub, e0, e1, e5, hcl, hcc]
      refine vcX_call _ _ (ih _ (List.getElem_mem (show n < us.length by omega)) _ q hrc (by omega)) (by first | rfl | (simp (disch := omega) only [go_sem, ↓reduceIte, Nat.reduceEqDiff, reduceCtorEq, Nat.reduceAdd, Nat.reduceLeDiff, Nat.reduceMul, Int.reduceNeg, Int.reduceLT, Int.reduceAdd, Int.reduceSub, e0, e1, e5, hcl, hcc])) (by first | rfl | (simp (disch := omega) only [go_sem, ↓reduceIte, Nat.reduceEqDiff, reduceCtorEq, Nat.reduceAdd, Nat.reduceLeDiff, Nat.reduceMul, Int.reduceNeg, Int.reduceLT, Int.reduceAdd, Int.reduceSub, e0, e1, e5, hcl, hcc])) (by first | rfl | simp [V.pures, V.pure, V.pures_t]) ?_
      rintro r7_5 h7_5 hh7_5 ⟨m', rfl, hm'⟩ -
      try simp (disch := omega) only [go_sem, ↓reduceIte, Nat.reduceEqDiff, reduceCtorEq, Nat.reduceAdd, Nat.reduceLeDiff, Nat.reduceMul, Int.reduceNeg, Int.reduceLT, Int.reduceAdd, Int.reduceSub, e0, e1, e5, hcl, hcc]
      refine hK12 _ ?_
      refine vc_seq fun K13 hK13 => ?_
      refine vc_reg ?_
      try simp (disch := omega) only [go_sem, ↓reduceIte, Nat.reduceEqDiff, reduceCtorEq, Nat.reduceAdd, Nat.reduceLeDiff, Nat.reduceMul, Int.reduceNeg, Int.reduceLT, Int.reduceAdd, Int.reduceSub, e0, e1, e5, hcl]
      refine hK13 _ ?_
      refine vc_cond (t := _) (by first | rfl | (simp (disch := omega) only [go_sem, ↓reduceIte, Nat.reduceEqDiff, reduceCtorEq, Nat.reduceAdd, Nat.reduceLeDiff, Nat.reduceMul, Int.reduceNeg, Int.reduceLT, Int.reduceAdd, Int.reduceSub, e0, e1, e5, hcl]; rfl)) (fun hc3 => ?_) (fun hc3 => ?_)
      · (try simp only [go_sem] at hc3)
        refine vc_seq fun K14 hK14 => ?_
        refine vc_reg ?_
        try simp (disch := omega) only [go_sem, ↓reduceIte, Nat.reduceEqDiff, reduceCtorEq, Nat.reduceAdd, Nat.reduceLeDiff, Nat.reduceMul, Int.reduceNeg, Int.reduceLT, Int.reduceAdd, Int.reduceSub, e0, e1, e5, hcl]
        refine hK14 _ ?_
        refine vc_ret ?_
        refine ⟨_, by first | rfl | (simp only [go_sem, resQ, List.mapM_cons, List.mapM_nil, ↓reduceIte, Nat.reduceEqDiff, Nat.reduceAdd, Nat.reduceLeDiff, reduceCtorEq]; rfl), [], [], .nil, by simp, by simp, fun hi_ h1_ => ⟨?_, rfl, rfl⟩, by simp⟩
        exact ⟨_, rfl, .inl (by omega)⟩
      · (try simp only [go_sem] at hc3)
        refine vc_skip ?_
        refine hK11 _ ?_
        refine vc_reg ?_
        try simp (disch := omega) only [go_sem, ↓reduceIte, Nat.reduceEqDiff, reduceCtorEq, Nat.reduceAdd, Nat.reduceLeDiff, Nat.reduceMul, Int.reduceNeg, Int.reduceLT, Int.reduceAdd, Int.reduceSub, e0, e1, e5, hcl]
        have hd := wl_drop (f := Br.wt) (l := us) (n := n) (by omega)
        refine hK8 _ _ ?_ ⟨n + 1, m', rfl, rfl, (by first | rfl | assumption | (simp (disch := omega) only [go_sem, ↓reduceIte, Nat.reduceEqDiff, reduceCtorEq, Nat.reduceAdd, Nat.reduceLeDiff, Nat.reduceMul, Int.reduceNeg, Int.reduceLT, Int.reduceAdd, Int.reduceSub, e0, e1, e5, hcl])), (by first | rfl | assumption | (simp (disch := omega) only [go_sem, ↓reduceIte, Nat.reduceEqDiff, reduceCtorEq, Nat.reduceAdd, Nat.reduceLeDiff, Nat.reduceMul, Int.reduceNeg, Int.reduceLT, Int.reduceAdd, Int.reduceSub, e0, e1, e5, hcl])), (by first | rfl | assumption | (simp (disch := omega) only [go_sem, ↓reduceIte, Nat.reduceEqDiff, reduceCtorEq, Nat.reduceAdd, Nat.reduceLeDiff, Nat.reduceMul, Int.reduceNeg, Int.reduceLT, Int.reduceAdd, Int.reduceSub, e0, e1, e5, hcl])), ?_, ?_, ?_⟩
        · omega
        · first | omega | assumption | rfl | simp_all
        · first | omega | assumption | rfl | simp_all
        · first | omega | assumption | rfl | simp_all
    · (try simp only [go_sem] at hc2)
      refine vc_exit ?_
      refine hK6 _ ?_
      refine vc_seq fun K15 hK15 => ?_
      refine vc_reg ?_
      try simp (disch := omega) only [go_sem, ↓reduceIte, Nat.reduceEqDiff, reduceCtorEq, Nat.reduceAdd, Nat.reduceLeDiff, Nat.reduceMul, Int.reduceNeg, Int.reduceLT, Int.reduceAdd, Int.reduceSub, e0, e1, e5, hcl]
      refine hK15 _ ?_
      refine vc_ret ?_
      refine ⟨_, by first | rfl | (simp only [go_sem, resQ, List.mapM_cons, List.mapM_nil, ↓reduceIte, Nat.reduceEqDiff, Nat.reduceAdd, Nat.reduceLeDiff, reduceCtorEq]; rfl), [], [], .nil, by simp, by simp, fun hi_ h1_ => ⟨?_, rfl, rfl⟩, by simp⟩
      rw [List.drop_of_length_le (by omega), wl] at hs
      exact ⟨_, rfl, .inr (by omega)⟩

/-- laws.toBranch -/
theorem laws_toBranch (x : Br) (c : List T) (hc : x.rep c) (hw : x.wt < 2^40) : FCtr Try.prog 52 [.agg (c.map .t)] (fun r => ∃ c' : List T, r = .agg (c'.map .t) ∧ x.rep c') := by
  obtain ⟨gax_, kx_, nx_, gx_, csx_, rfl, hvx_⟩ := Br.cells hc
  rw [Br.wt] at hw
  refine Ctr.of_vc (rs := [.cell 2 77]) (fn := Try.f52) mixed Try.func52 rfl rfl (by kernel_rfl) (by kernel_rfl) (by simp [Try.ntmps52]) (fun h0 => ?_)
  refine vc_seq fun K1 hK1 => ?_
  refine vc_reg ?_
  try simp (disch := omega) only [go_sem, ↓reduceIte, Nat.reduceEqDiff, reduceCtorEq, Nat.reduceAdd, Nat.reduceLeDiff, Nat.reduceMul, Int.reduceNeg, Int.reduceLT, Int.reduceAdd, Int.reduceSub]
  intro g0_0 hg0_0
  intro g0_1 hg0_1
  refine hK1 _ ?_
  refine vc_seq fun K2 hK2 => ?_
  refine vc_reg ?_
  try simp (disch := omega) only [go_sem, ↓reduceIte, Nat.reduceEqDiff, reduceCtorEq, Nat.reduceAdd, Nat.reduceLeDiff, Nat.reduceMul, Int.reduceNeg, Int.reduceLT, Int.reduceAdd, Int.reduceSub]
  intro g1_0 hg1_0
  refine hK2 _ ?_
  refine vc_seq fun K3 hK3 => ?_
  refine vc_reg ?_
  try simp (disch := omega) only [go_sem, ↓reduceIte, Nat.reduceEqDiff, reduceCtorEq, Nat.reduceAdd, Nat.reduceLeDiff, Nat.reduceMul, Int.reduceNeg, Int.reduceLT, Int.reduceAdd, Int.reduceSub]
  refine vcX_call _ _ (laws_toExpr x.bd _ hvx_ (by omega)) (by first | rfl | (simp (disch := omega) only [go_sem, ↓reduceIte, Nat.reduceEqDiff, reduceCtorEq, Nat.reduceAdd, Nat.reduceLeDiff, Nat.reduceMul, Int.reduceNeg, Int.reduceLT, Int.reduceAdd, Int.reduceSub])) (by first | rfl | (simp (disch := omega) only [go_sem, ↓reduceIte, Nat.reduceEqDiff, reduceCtorEq, Nat.reduceAdd, Nat.reduceLeDiff, Nat.reduceMul, Int.reduceNeg, Int.reduceLT, Int.reduceAdd, Int.reduceSub])) (by first | rfl | simp [V.pures, V.pure, V.pures_t]) ?_
  rintro r2_2 h2_2 hh2_2 ⟨c', rfl, hc'⟩ -
  obtain ⟨g', cs', rfl, hcs'⟩ := E.rep_cells hc'
  try simp (disch := omega) only [go_sem, ↓reduceIte, Nat.reduceEqDiff, reduceCtorEq, Nat.reduceAdd, Nat.reduceLeDiff, Nat.reduceMul, Int.reduceNeg, Int.reduceLT, Int.reduceAdd, Int.reduceSub]
  refine hK3 _ ?_
  refine vc_seq fun K4 hK4 => ?_
  refine vc_reg ?_
  try simp (disch := omega) only [go_sem, ↓reduceIte, Nat.reduceEqDiff, reduceCtorEq, Nat.reduceAdd, Nat.reduceLeDiff, Nat.reduceMul, Int.reduceNeg, Int.reduceLT, Int.reduceAdd, Int.reduceSub]
  refine hK4 _ ?_
  refine vc_seq fun K5 hK5 => ?_
  refine vc_reg ?_
  try simp (disch := omega) only [go_sem, ↓reduceIte, Nat.reduceEqDiff, reduceCtorEq, Nat.reduceAdd, Nat.reduceLeDiff, Nat.reduceMul, Int.reduceNeg, Int.reduceLT, Int.reduceAdd, Int.reduceSub]
  refine hK5 _ ?_
  refine vc_seq fun K6 hK6 => ?_
  refine vc_reg ?_
  try simp (disch := omega) only [go_sem, ↓reduceIte, Nat.reduceEqDiff, reduceCtorEq, Nat.reduceAdd, Nat.reduceLeDiff, Nat.reduceMul, Int.reduceNeg, Int.reduceLT, Int.reduceAdd, Int.reduceSub]
  refine vcX_call _ _ (laws_toStringS _ x.ps (by omega)) (by first | rfl | (simp (disch := omega) only [go_sem, ↓reduceIte, Nat.reduceEqDiff, reduceCtorEq, Nat.reduceAdd, Nat.reduceLeDiff, Nat.reduceMul, Int.reduceNeg, Int.reduceLT, Int.reduceAdd, Int.reduceSub])) (by first | rfl | (simp (disch := omega) only [go_sem, ↓reduceIte, Nat.reduceEqDiff, reduceCtorEq, Nat.reduceAdd, Nat.reduceLeDiff, Nat.reduceMul, Int.reduceNeg, Int.reduceLT, Int.reduceAdd, Int.reduceSub])) (by first | rfl | simp [V.pures, V.pure, V.pures_t]) ?_
  rintro r5_2 h5_2 hh5_2 ⟨g51, rfl⟩ -
  try simp (disch := omega) only [go_sem, ↓reduceIte, Nat.reduceEqDiff, reduceCtorEq, Nat.reduceAdd, Nat.reduceLeDiff, Nat.reduceMul, Int.reduceNeg, Int.reduceLT, Int.reduceAdd, Int.reduceSub]
  refine hK6 _ ?_
  refine vc_seq fun K7 hK7 => ?_
  refine vc_reg ?_
  try simp (disch := omega) only [go_sem, ↓reduceIte, Nat.reduceEqDiff, reduceCtorEq, Nat.reduceAdd, Nat.reduceLeDiff, Nat.reduceMul, Int.reduceNeg, Int.reduceLT, Int.reduceAdd, Int.reduceSub]
  refine hK7 _ ?_
  refine vc_ret ?_
  refine ⟨_, (by first | rfl | (simp only [go_sem, resQ, List.mapM_cons, List.mapM_nil, ↓reduceIte, Nat.reduceEqDiff, Nat.reduceAdd, Nat.reduceLeDiff, reduceCtorEq]; rfl)), [], [], .nil, by simp, by simp, fun hi_ h1_ => ⟨⟨[.int .i64 x.bd.kind, .str x.bd.name, .sl g' cs', .str x.nm, .str x.cn, .sl g51 (x.ps.map fun s => [T.str s])], rfl, ⟨g51, _, rfl, hc'⟩⟩, rfl, rfl⟩, by simp⟩

/-- laws.toBranchS -/
theorem laws_toBranchS (g : Nat) (us : List Br) (cs : List (List T)) (ha : Rl Br.rep us cs) (hl : us.length < 2^40) (ih : ∀ a ∈ us, ∀ (c : List T), Br.rep a c → FCtr Try.prog 52 [.agg (c.map .t)] (fun r => ∃ c' : List T, r = .agg (c'.map .t) ∧ Br.rep a c')) : FCtr Try.prog 14 [.t (.sl g cs)] (fun r => ∃ (g' : Nat) (cs' : List (List T)), r = .t (.sl g' cs') ∧ Rl Br.rep us cs') := by
  have hcl := ha.len
  refine Ctr.of_vc (rs := [.tmp 2]) (fn := Try.f14) mixed Try.func14 rfl rfl (by kernel_rfl) (by kernel_rfl) (by simp [Try.ntmps14]) (fun h0 => ?_)
  refine vc_seq fun K1 hK1 => ?_
  refine vc_reg ?_
  try simp (disch := omega) only [go_sem, ↓reduceIte, Nat.reduceEqDiff, reduceCtorEq, Nat.reduceAdd, Nat.reduceLeDiff, Nat.reduceMul, Int.reduceNeg, Int.reduceLT, Int.reduceAdd, Int.reduceSub, hcl, Int.toNat_natCast]
  refine hK1 _ ?_
  refine vc_seq fun K2 hK2 => ?_
  refine vc_reg ?_
  try simp (disch := omega) only [go_sem, ↓reduceIte, Nat.reduceEqDiff, reduceCtorEq, Nat.reduceAdd, Nat.reduceLeDiff, Nat.reduceMul, Int.reduceNeg, Int.reduceLT, Int.reduceAdd, Int.reduceSub, hcl, Int.toNat_natCast]
  refine ⟨by simp [mkOk]; omega, fun g1_2 hg1_2 => ?_⟩
  try simp (disch := omega) only [go_sem, ↓reduceIte, Nat.reduceEqDiff, reduceCtorEq, Nat.reduceAdd, Nat.reduceLeDiff, Nat.reduceMul, Int.reduceNeg, Int.reduceLT, Int.reduceAdd, Int.reduceSub, hcl, Int.toNat_natCast]
  refine hK2 _ ?_
  refine vc_seq fun K3 hK3 => ?_
  refine vc_seq fun K4 hK4 => ?_
  refine vc_reg ?_
  try simp (disch := omega) only [go_sem, ↓reduceIte, Nat.reduceEqDiff, reduceCtorEq, Nat.reduceAdd, Nat.reduceLeDiff, Nat.reduceMul, Int.reduceNeg, Int.reduceLT, Int.reduceAdd, Int.reduceSub, hcl, Int.toNat_natCast]
  refine hK4 _ ?_
  refine vc_block ?_
  refine vc_loop (fun m s => ∃ (n g' : Nat) (acc : List (List T)), (m = us.length - n) ∧ (s.σ = [.row g' 0 6 (us.length * 6) (acc.map (·.map V.t) ++ List.replicate (us.length - n) [V.t (.int .i64 0), V.t (.str ⟨#[]⟩), V.nil0, V.t (.str ⟨#[]⟩), V.t (.str ⟨#[]⟩), V.nil0])]) ∧ (s.env 0 = .t (.sl g cs)) ∧ (s.env 3 = .own 0 0 0 us.length) ∧ (s.env 4 = .t (.int .i64 n)) ∧ (n ≤ us.length) ∧ (Rl Br.rep (us.take n) acc)) (us.length - 0) ⟨0, g1_2, [], rfl, (by first | rfl | simp), (by first | rfl | assumption | (simp (disch := omega) only [go_sem, ↓reduceIte, Nat.reduceEqDiff, reduceCtorEq, Nat.reduceAdd, Nat.reduceLeDiff, Nat.reduceMul, Int.reduceNeg, Int.reduceLT, Int.reduceAdd, Int.reduceSub, hcl, Int.toNat_natCast])), (by first | rfl | assumption | (simp (disch := omega) only [go_sem, ↓reduceIte, Nat.reduceEqDiff, reduceCtorEq, Nat.reduceAdd, Nat.reduceLeDiff, Nat.reduceMul, Int.reduceNeg, Int.reduceLT, Int.reduceAdd, Int.reduceSub, hcl, Int.toNat_natCast])), (by first | rfl | assumption | (simp (disch := omega) only [go_sem, ↓reduceIte, Nat.reduceEqDiff, reduceCtorEq, Nat.reduceAdd, Nat.reduceLeDiff, Nat.reduceMul, Int.reduceNeg, Int.reduceLT, Int.reduceAdd, Int.reduceSub, hcl, Int.toNat_natCast])), (by first | rfl | omega | simp), (by simpa using Rl.nil)⟩ ?_
  rintro m ⟨e, σ, h⟩ ⟨n, g', acc, hm, hσ, e0, e3, e4, hn, hacc⟩ K5 hK5
  simp only at hσ e0 e3 e4
  subst hσ
  refine vc_seq fun K6 hK6 => ?_
  refine vc_seq fun K7 hK7 => ?_
  refine vc_reg ?_
  try simp (disch := omega) only [go_sem, ↓reduceIte, Nat.reduceEqDiff, reduceCtorEq, Nat.reduceAdd, Nat.reduceLeDiff, Nat.reduceMul, Int.reduceNeg, Int.reduceLT, Int.reduceAdd, Int.reduceSub, e0, e3, e4, hcl, Int.toNat_natCast]
  refine hK7 _ ?_
  refine vc_cond (t := _) (by first | rfl | (simp (disch := omega) only [go_sem, ↓reduceIte, Nat.reduceEqDiff, reduceCtorEq, Nat.reduceAdd, Nat.reduceLeDiff, Nat.reduceMul, Int.reduceNeg, Int.reduceLT, Int.reduceAdd, Int.reduceSub, e0, e3, e4, hcl, Int.toNat_natCast]; rfl)) (fun hc1 => ?_) (fun hc1 => ?_)
  · (try simp only [go_sem] at hc1)
    refine vc_skip ?_
    refine hK6 _ ?_
    refine vc_seq fun K8 hK8 => ?_
    refine vc_block ?_
    obtain ⟨cc, hcc, hrc⟩ := Rl.get ha (n := n) (by omega)
    obtain ⟨gac_, kc_, nc_, gc_, csc_, rfl, hvc_⟩ := Br.cells hrc
    have hal : (acc.map (·.map V.t)).length = n := by have := hacc.len; simp at this ⊢; omega
    have hget := fill_get (acc.map (·.map V.t)) (us.length - n) [V.t (.int .i64 0), V.t (.str ⟨#[]⟩), V.nil0, V.t (.str ⟨#[]⟩), V.t (.str ⟨#[]⟩), V.nil0] (by omega)
    have hset := fun v => fill_set (acc.map (·.map V.t)) (us.length - n) [V.t (.int .i64 0), V.t (.str ⟨#[]⟩), V.nil0, V.t (.str ⟨#[]⟩), V.t (.str ⟨#[]⟩), V.nil0] v (by omega)
    rw [hal] at hget
    simp only [hal] at hset
    have hsub : us.length - n - 1 = us.length - (n + 1) := by omega
    simp only [hsub] at hset
    refine vc_reg ?_
    try simp (disch := omega) only [go_sem, ↓reduceIte, Nat.reduceEqDiff, reduceCtorEq, Nat.reduceAdd, Nat.reduceLeDiff, Nat.reduceMul, Int.reduceNeg, Int.reduceLT, Int.reduceAdd, Int.reduceSub, e0, e3, e4, hcl, Int.toNat_natCast, hcc, show n < us.length by omega]
    refine vcX_call _ _ (ih _ (List.getElem_mem (show n < us.length by omega)) _ hrc) (by first | rfl | (simp (disch := omega) only [go_sem, ↓reduceIte, Nat.reduceEqDiff, reduceCtorEq, Nat.reduceAdd, Nat.reduceLeDiff, Nat.reduceMul, Int.reduceNeg, Int.reduceLT, Int.reduceAdd, Int.reduceSub, e0, e3, e4, hcl, Int.toNat_natCast, hcc, show n < us.length by omega])) (by first | rfl | (simp (disch := omega) only [go_sem, ↓reduceIte, Nat.reduceEqDiff, reduceCtorEq, Nat.reduceAdd, Nat.reduceLeDiff, Nat.reduceMul, Int.reduceNeg, Int.reduceLT, Int.reduceAdd, Int.reduceSub, e0, e3, e4, hcl, Int.toNat_natCast, hcc, show n < us.length by omega])) (by first | rfl | simp [V.pures, V.pure, V.pures_t]) ?_
    rintro r5_6 h5_6 hh5_6 ⟨c', rfl, hc'⟩ -
    obtain ⟨gap_, kp_, np_, gp_, csp_, rfl, hvp_⟩ := Br.cells hc'
    try simp (disch := omega) only [go_sem, ↓reduceIte, Nat.reduceEqDiff, reduceCtorEq, Nat.reduceAdd, Nat.reduceLeDiff, Nat.reduceMul, Int.reduceNeg, Int.reduceLT, Int.reduceAdd, Int.reduceSub, e0, e3, e4, hcl, Int.toNat_natCast, hget, hset, show n < us.length by omega]
    refine hK8 _ ?_
    refine vc_reg ?_
    try simp (disch := omega) only [go_sem, ↓reduceIte, Nat.reduceEqDiff, reduceCtorEq, Nat.reduceAdd, Nat.reduceLeDiff, Nat.reduceMul, Int.reduceNeg, Int.reduceLT, Int.reduceAdd, Int.reduceSub, e0, e3, e4, hcl, Int.toNat_natCast]
    refine hK5 _ _ ?_ ⟨n + 1, g', acc ++ [[.int .i64 kp_, .str np_, .sl gp_ csp_, .str us[n].nm, .str us[n].cn, .sl gap_ (us[n].ps.map fun s => [T.str s])]], rfl, (by first | rfl | simp), (by first | rfl | assumption | (simp (disch := omega) only [go_sem, ↓reduceIte, Nat.reduceEqDiff, reduceCtorEq, Nat.reduceAdd, Nat.reduceLeDiff, Nat.reduceMul, Int.reduceNeg, Int.reduceLT, Int.reduceAdd, Int.reduceSub, e0, e3, e4, hcl, Int.toNat_natCast])), (by first | rfl | assumption | (simp (disch := omega) only [go_sem, ↓reduceIte, Nat.reduceEqDiff, reduceCtorEq, Nat.reduceAdd, Nat.reduceLeDiff, Nat.reduceMul, Int.reduceNeg, Int.reduceLT, Int.reduceAdd, Int.reduceSub, e0, e3, e4, hcl, Int.toNat_natCast])), (by first | rfl | assumption | (simp (disch := omega) only [go_sem, ↓reduceIte, Nat.reduceEqDiff, reduceCtorEq, Nat.reduceAdd, Nat.reduceLeDiff, Nat.reduceMul, Int.reduceNeg, Int.reduceLT, Int.reduceAdd, Int.reduceSub, e0, e3, e4, hcl, Int.toNat_natCast])), ?_, ?_⟩
    · omega
    · first | omega | assumption | rfl | simp_all
    · rw [List.take_add_one, List.getElem?_eq_getElem (by omega)]; exact Rl.append hacc (Rl.one hc')
  · (try simp only [go_sem] at hc1)
    refine vc_exit ?_
    refine hK3 _ ?_
    refine vc_seq fun K9 hK9 => ?_
    refine vc_reg ?_
    try simp (disch := omega) only [go_sem, ↓reduceIte, Nat.reduceEqDiff, reduceCtorEq, Nat.reduceAdd, Nat.reduceLeDiff, Nat.reduceMul, Int.reduceNeg, Int.reduceLT, Int.reduceAdd, Int.reduceSub, e0, e3, e4, hcl, Int.toNat_natCast]
    refine hK9 _ ?_
    refine vc_ret ?_
    have hfin : acc.map (·.map V.t) ++ List.replicate (us.length - n) [V.t (.int .i64 0), V.t (.str ⟨#[]⟩), V.nil0, V.t (.str ⟨#[]⟩), V.t (.str ⟨#[]⟩), V.nil0] = acc.map (·.map V.t) := by rw [show us.length - n = 0 by omega]; simp
    have hlen : us.length = acc.length := by have := hacc.len; simp at this; omega
    have hrep : Rl Br.rep us acc := by rw [List.take_of_length_le (by omega)] at hacc; exact hacc
    refine ⟨_, rfl, [], [0], .nil, by simp, by simp, fun hi_ h1_ => ⟨⟨g', acc, ?_, hrep⟩, ?_, rfl⟩, by simp⟩
    · exact loc_frz acc rfl hfin (by simp) hlen
    · rw [show tupV _ = V.own 0 0 0 us.length from rfl, loc_frz acc rfl hfin (by simp) hlen]; rfl

/-- laws.eqBranch -/
theorem laws_eqBranch (a b : Br) (c d : List T) (hc : a.rep c) (hd : b.rep d) (hw : a.wt < 2^40) (hw2 : b.wt < 2^40) : FCtr Try.prog 55 [.agg (c.map .t), .agg (d.map .t)] (fun r => r = .t (.bool (Br.eqb a b))) := by
  obtain ⟨gax_, kx_, nx_, gx_, csx_, rfl, hvx_⟩ := Br.cells hc
  obtain ⟨gay_, ky_, ny_, gy_, csy_, rfl, hvy_⟩ := Br.cells hd
  rw [Br.wt] at hw hw2
  refine Ctr.of_vc (rs := [.tmp 4]) (fn := Try.f55) mixed Try.func55 rfl rfl (by kernel_rfl) (by kernel_rfl) (by simp [Try.ntmps55]) (fun h0 => ?_)
  refine vc_seq fun K1 hK1 => ?_
  refine vc_reg ?_
  try simp (disch := omega) only [go_sem, ↓reduceIte, Nat.reduceEqDiff, reduceCtorEq, Nat.reduceAdd, Nat.reduceLeDiff, Nat.reduceMul, Int.reduceNeg, Int.reduceLT, Int.reduceAdd, Int.reduceSub]
  intro g0_0 hg0_0
  intro g0_1 hg0_1
  refine hK1 _ ?_
  refine vc_seq fun K2 hK2 => ?_
  refine vc_seq fun K3 hK3 => ?_
  refine vc_reg ?_
  try simp (disch := omega) only [go_sem, ↓reduceIte, Nat.reduceEqDiff, reduceCtorEq, Nat.reduceAdd, Nat.reduceLeDiff, Nat.reduceMul, Int.reduceNeg, Int.reduceLT, Int.reduceAdd, Int.reduceSub]
  refine vcX_call _ _ (laws_eqExpr a.bd b.bd _ _ hvx_ hvy_ (by omega) (by omega)) (by first | rfl | (simp (disch := omega) only [go_sem, ↓reduceIte, Nat.reduceEqDiff, reduceCtorEq, Nat.reduceAdd, Nat.reduceLeDiff, Nat.reduceMul, Int.reduceNeg, Int.reduceLT, Int.reduceAdd, Int.reduceSub])) (by first | rfl | (simp (disch := omega) only [go_sem, ↓reduceIte, Nat.reduceEqDiff, reduceCtorEq, Nat.reduceAdd, Nat.reduceLeDiff, Nat.reduceMul, Int.reduceNeg, Int.reduceLT, Int.reduceAdd, Int.reduceSub])) (by first | rfl | simp [V.pures, V.pure, V.pures_t]) ?_
  rintro r1_4 h1_4 hh1_4 rfl -
  try simp (disch := omega) only [go_sem, ↓reduceIte, Nat.reduceEqDiff, reduceCtorEq, Nat.reduceAdd, Nat.reduceLeDiff, Nat.reduceMul, Int.reduceNeg, Int.reduceLT, Int.reduceAdd, Int.reduceSub]
  refine hK3 _ ?_
  refine vc_cond (t := _) (by first | rfl | (simp (disch := omega) only [go_sem, ↓reduceIte, Nat.reduceEqDiff, reduceCtorEq, Nat.reduceAdd, Nat.reduceLeDiff, Nat.reduceMul, Int.reduceNeg, Int.reduceLT, Int.reduceAdd, Int.reduceSub]; rfl)) (fun hc1 => ?_) (fun hc1 => ?_)
  · (try simp only [go_sem] at hc1)
    refine vc_seq fun K4 hK4 => ?_
    refine vc_reg ?_
    try simp (disch := omega) only [go_sem, ↓reduceIte, Nat.reduceEqDiff, reduceCtorEq, Nat.reduceAdd, Nat.reduceLeDiff, Nat.reduceMul, Int.reduceNeg, Int.reduceLT, Int.reduceAdd, Int.reduceSub]
    refine hK4 _ ?_
    refine vc_ret ?_
    refine ⟨_, by first | rfl | (simp only [go_sem, resQ, List.mapM_cons, List.mapM_nil, ↓reduceIte, Nat.reduceEqDiff, Nat.reduceAdd, Nat.reduceLeDiff, reduceCtorEq]; rfl), [], [], .nil, by simp, by simp, fun hi_ h1_ => ⟨?_, rfl, rfl⟩, by simp⟩
    first
    | (have hq : Br.eqb a b = false := by rw [Br.eqb]; simp_all
       rw [hq]; rfl)
    | (have hq : Br.eqb a b = true := by rw [Br.eqb]; simp_all
       rw [hq]; rfl)
  · (try simp only [go_sem] at hc1)
    refine vc_skip ?_
    refine hK2 _ ?_
    refine vc_seq fun K5 hK5 => ?_
    refine vc_seq fun K6 hK6 => ?_
    refine vc_reg ?_
    try simp (disch := omega) only [go_sem, ↓reduceIte, Nat.reduceEqDiff, reduceCtorEq, Nat.reduceAdd, Nat.reduceLeDiff, Nat.reduceMul, Int.reduceNeg, Int.reduceLT, Int.reduceAdd, Int.reduceSub]
    refine hK6 _ ?_
    refine vc_cond (t := _) (by first | rfl | (simp (disch := omega) only [go_sem, ↓reduceIte, Nat.reduceEqDiff, reduceCtorEq, Nat.reduceAdd, Nat.reduceLeDiff, Nat.reduceMul, Int.reduceNeg, Int.reduceLT, Int.reduceAdd, Int.reduceSub]; rfl)) (fun hc2 => ?_) (fun hc2 => ?_)
    · (try simp only [go_sem] at hc2)
      refine vc_seq fun K7 hK7 => ?_
      refine vc_reg ?_
      try simp (disch := omega) only [go_sem, ↓reduceIte, Nat.reduceEqDiff, reduceCtorEq, Nat.reduceAdd, Nat.reduceLeDiff, Nat.reduceMul, Int.reduceNeg, Int.reduceLT, Int.reduceAdd, Int.reduceSub]
      refine hK7 _ ?_
      refine vc_ret ?_
      refine ⟨_, by first | rfl | (simp only [go_sem, resQ, List.mapM_cons, List.mapM_nil, ↓reduceIte, Nat.reduceEqDiff, Nat.reduceAdd, Nat.reduceLeDiff, reduceCtorEq]; rfl), [], [], .nil, by simp, by simp, fun hi_ h1_ => ⟨?_, rfl, rfl⟩, by simp⟩
      first
      | (have hq : Br.eqb a b = false := by rw [Br.eqb]; simp_all
         rw [hq]; rfl)
      | (have hq : Br.eqb a b = true := by rw [Br.eqb]; simp_all
         rw [hq]; rfl)
    · (try simp only [go_sem] at hc2)
      refine vc_skip ?_
      refine hK5 _ ?_
      refine vc_seq fun K8 hK8 => ?_
      refine vc_seq fun K9 hK9 => ?_
      refine vc_reg ?_
      try simp (disch := omega) only [go_sem, ↓reduceIte, Nat.reduceEqDiff, reduceCtorEq, Nat.reduceAdd, Nat.reduceLeDiff, Nat.reduceMul, Int.reduceNeg, Int.reduceLT, Int.reduceAdd, Int.reduceSub]
      refine hK9 _ ?_
      refine vc_cond (t := _) (by first | rfl | (simp (disch := omega) only [go_sem, ↓reduceIte, Nat.reduceEqDiff, reduceCtorEq, Nat.reduceAdd, Nat.reduceLeDiff, Nat.reduceMul, Int.reduceNeg, Int.reduceLT, Int.reduceAdd, Int.reduceSub]; rfl)) (fun hc3 => ?_) (fun hc3 => ?_)
      · (try simp only [go_sem] at hc3)
        refine vc_seq fun K10 hK10 => ?_
        refine vc_reg ?_
        try simp (disch := omega) only [go_sem, ↓reduceIte, Nat.reduceEqDiff, reduceCtorEq, Nat.reduceAdd, Nat.reduceLeDiff, Nat.reduceMul, Int.reduceNeg, Int.reduceLT, Int.reduceAdd, Int.reduceSub]
        refine hK10 _ ?_
        refine vc_ret ?_
        refine ⟨_, by first | rfl | (simp only [go_sem, resQ, List.mapM_cons, List.mapM_nil, ↓reduceIte, Nat.reduceEqDiff, Nat.reduceAdd, Nat.reduceLeDiff, reduceCtorEq]; rfl), [], [], .nil, by simp, by simp, fun hi_ h1_ => ⟨?_, rfl, rfl⟩, by simp⟩
        first
        | (have hq : Br.eqb a b = false := by rw [Br.eqb]; simp_all
           rw [hq]; rfl)
        | (have hq : Br.eqb a b = true := by rw [Br.eqb]; simp_all
           rw [hq]; rfl)
      · (try simp only [go_sem] at hc3)
        refine vc_skip ?_
        refine hK8 _ ?_
        refine vc_seq fun K11 hK11 => ?_
        refine vc_seq fun K12 hK12 => ?_
        refine vc_reg ?_
        try simp (disch := omega) only [go_sem, ↓reduceIte, Nat.reduceEqDiff, reduceCtorEq, Nat.reduceAdd, Nat.reduceLeDiff, Nat.reduceMul, Int.reduceNeg, Int.reduceLT, Int.reduceAdd, Int.reduceSub]
        refine vcX_call _ _ (laws_eqStringS _ _ a.ps b.ps (by omega) (by omega)) (by first | rfl | (simp (disch := omega) only [go_sem, ↓reduceIte, Nat.reduceEqDiff, reduceCtorEq, Nat.reduceAdd, Nat.reduceLeDiff, Nat.reduceMul, Int.reduceNeg, Int.reduceLT, Int.reduceAdd, Int.reduceSub])) (by first | rfl | (simp (disch := omega) only [go_sem, ↓reduceIte, Nat.reduceEqDiff, reduceCtorEq, Nat.reduceAdd, Nat.reduceLeDiff, Nat.reduceMul, Int.reduceNeg, Int.reduceLT, Int.reduceAdd, Int.reduceSub])) (by first | rfl | simp [V.pures, V.pure, V.pures_t]) ?_
        rintro r7_4 h7_4 hh7_4 rfl -
        try simp (disch := omega) only [go_sem, ↓reduceIte, Nat.reduceEqDiff, reduceCtorEq, Nat.reduceAdd, Nat.reduceLeDiff, Nat.reduceMul, Int.reduceNeg, Int.reduceLT, Int.reduceAdd, Int.reduceSub]
        refine hK12 _ ?_
        refine vc_cond (t := _) (by first | rfl | (simp (disch := omega) only [go_sem, ↓reduceIte, Nat.reduceEqDiff, reduceCtorEq, Nat.reduceAdd, Nat.reduceLeDiff, Nat.reduceMul, Int.reduceNeg, Int.reduceLT, Int.reduceAdd, Int.reduceSub]; rfl)) (fun hc4 => ?_) (fun hc4 => ?_)
        · (try simp only [go_sem] at hc4)
          refine vc_seq fun K13 hK13 => ?_
          refine vc_reg ?_
          try simp (disch := omega) only [go_sem, ↓reduceIte, Nat.reduceEqDiff, reduceCtorEq, Nat.reduceAdd, Nat.reduceLeDiff, Nat.reduceMul, Int.reduceNeg, Int.reduceLT, Int.reduceAdd, Int.reduceSub]
          refine hK13 _ ?_
          refine vc_ret ?_
          refine ⟨_, by first | rfl | (simp only [go_sem, resQ, List.mapM_cons, List.mapM_nil, ↓reduceIte, Nat.reduceEqDiff, Nat.reduceAdd, Nat.reduceLeDiff, reduceCtorEq]; rfl), [], [], .nil, by simp, by simp, fun hi_ h1_ => ⟨?_, rfl, rfl⟩, by simp⟩
          first
          | (have hq : Br.eqb a b = false := by rw [Br.eqb]; simp_all
             rw [hq]; rfl)
          | (have hq : Br.eqb a b = true := by rw [Br.eqb]; simp_all
             rw [hq]; rfl)
        · (try simp only [go_sem] at hc4)
          refine vc_skip ?_
          refine hK11 _ ?_
          refine vc_seq fun K14 hK14 => ?_
          refine vc_reg ?_
          try simp (disch := omega) only [go_sem, ↓reduceIte, Nat.reduceEqDiff, reduceCtorEq, Nat.reduceAdd, Nat.reduceLeDiff, Nat.reduceMul, Int.reduceNeg, Int.reduceLT, Int.reduceAdd, Int.reduceSub]
          refine hK14 _ ?_
          refine vc_ret ?_
          refine ⟨_, by first | rfl | (simp only [go_sem, resQ, List.mapM_cons, List.mapM_nil, ↓reduceIte, Nat.reduceEqDiff, Nat.reduceAdd, Nat.reduceLeDiff, reduceCtorEq]; rfl), [], [], .nil, by simp, by simp, fun hi_ h1_ => ⟨?_, rfl, rfl⟩, by simp⟩
          first
          | (have hq : Br.eqb a b = false := by rw [Br.eqb]; simp_all
             rw [hq]; rfl)
          | (have hq : Br.eqb a b = true := by rw [Br.eqb]; simp_all
             rw [hq]; rfl)

/-- laws.eqBranchS -/
theorem laws_eqBranchS (g g2 : Nat) (us bs : List Br) (cs ds : List (List T)) (ha : Rl Br.rep us cs) (hb : Rl Br.rep bs ds) (hl : us.length < 2^60) (hl2 : bs.length < 2^60) (ih : ∀ a ∈ us, ∀ b ∈ bs, ∀ (c d : List T), Br.rep a c → Br.rep b d → FCtr Try.prog 55 [.agg (c.map .t), .agg (d.map .t)] (fun r => r = .t (.bool (Br.eqb a b)))) : FCtr Try.prog 16 [.t (.sl g cs), .t (.sl g2 ds)] (fun r => r = .t (.bool (eql Br.eqb us bs))) := by
  have hcl := ha.len
  have hdl := hb.len
  refine Ctr.of_vc (rs := [.tmp 4]) (fn := Try.f16) mixed Try.func16 rfl rfl (by kernel_rfl) (by kernel_rfl) (by simp [Try.ntmps16]) (fun h0 => ?_)
  refine vc_seq fun K1 hK1 => ?_
  refine vc_reg ?_
  try simp (disch := omega) only [go_sem, ↓reduceIte, Nat.reduceEqDiff, reduceCtorEq, Nat.reduceAdd, Nat.reduceLeDiff, Nat.reduceMul, Int.reduceNeg, Int.reduceLT, Int.reduceAdd, Int.reduceSub, hcl, hdl]
  refine hK1 _ ?_
  refine vc_seq fun K2 hK2 => ?_
  refine vc_seq fun K3 hK3 => ?_
  refine vc_reg ?_
  try simp (disch := omega) only [go_sem, ↓reduceIte, Nat.reduceEqDiff, reduceCtorEq, Nat.reduceAdd, Nat.reduceLeDiff, Nat.reduceMul, Int.reduceNeg, Int.reduceLT, Int.reduceAdd, Int.reduceSub, hcl, hdl]
  refine hK3 _ ?_
  refine vc_cond (t := _) (by first | rfl | (simp (disch := omega) only [go_sem, ↓reduceIte, Nat.reduceEqDiff, reduceCtorEq, Nat.reduceAdd, Nat.reduceLeDiff, Nat.reduceMul, Int.reduceNeg, Int.reduceLT, Int.reduceAdd, Int.reduceSub, hcl, hdl]; rfl)) (fun hc1 => ?_) (fun hc1 => ?_)
  · (try simp only [go_sem] at hc1)
    refine vc_seq fun K4 hK4 => ?_
    refine vc_reg ?_
    try simp (disch := omega) only [go_sem, ↓reduceIte, Nat.reduceEqDiff, reduceCtorEq, Nat.reduceAdd, Nat.reduceLeDiff, Nat.reduceMul, Int.reduceNeg, Int.reduceLT, Int.reduceAdd, Int.reduceSub, hcl, hdl]
    refine hK4 _ ?_
    refine vc_ret ?_
    refine ⟨_, by first | rfl | (simp only [go_sem, resQ, List.mapM_cons, List.mapM_nil, ↓reduceIte, Nat.reduceEqDiff, Nat.reduceAdd, Nat.reduceLeDiff, reduceCtorEq]; rfl), [], [], .nil, by simp, by simp, fun hi_ h1_ => ⟨?_, rfl, rfl⟩, by simp⟩
    rw [eql_len (fun h => hc1 (by rw [h]))]; rfl
  · (try simp only [go_sem] at hc1)
    refine vc_skip ?_
    refine hK2 _ ?_
    refine vc_seq fun K5 hK5 => ?_
    refine vc_seq fun K6 hK6 => ?_
    refine vc_reg ?_
    try simp (disch := omega) only [go_sem, ↓reduceIte, Nat.reduceEqDiff, reduceCtorEq, Nat.reduceAdd, Nat.reduceLeDiff, Nat.reduceMul, Int.reduceNeg, Int.reduceLT, Int.reduceAdd, Int.reduceSub, hcl, hdl]
    refine hK6 _ ?_
    refine vc_block ?_
    refine vc_loop (fun m s => ∃ (n : Nat), (m = us.length - n) ∧ (s.σ = []) ∧ (s.env 0 = .t (.sl g cs)) ∧ (s.env 1 = .t (.sl g2 ds)) ∧ (s.env 5 = .t (.int .i64 n)) ∧ (n ≤ us.length) ∧ (us.length = bs.length) ∧ (eql Br.eqb us bs = eql Br.eqb (us.drop n) (bs.drop n))) (us.length - 0) ⟨0, rfl, rfl, (by first | rfl | assumption | (simp (disch := omega) only [go_sem, ↓reduceIte, Nat.reduceEqDiff, reduceCtorEq, Nat.reduceAdd, Nat.reduceLeDiff, Nat.reduceMul, Int.reduceNeg, Int.reduceLT, Int.reduceAdd, Int.reduceSub, hcl, hdl])), (by first | rfl | assumption | (simp (disch := omega) only [go_sem, ↓reduceIte, Nat.reduceEqDiff, reduceCtorEq, Nat.reduceAdd, Nat.reduceLeDiff, Nat.reduceMul, Int.reduceNeg, Int.reduceLT, Int.reduceAdd, Int.reduceSub, hcl, hdl])), (by first | rfl | assumption | (simp (disch := omega) only [go_sem, ↓reduceIte, Nat.reduceEqDiff, reduceCtorEq, Nat.reduceAdd, Nat.reduceLeDiff, Nat.reduceMul, Int.reduceNeg, Int.reduceLT, Int.reduceAdd, Int.reduceSub, hcl, hdl])), (by first | rfl | omega | simp), (by omega), (by first | rfl | omega | simp)⟩ ?_
    rintro m ⟨e, σ, h⟩ ⟨n, hm, hσ, e0, e1, e5, hn, hll, he⟩ K7 hK7
    simp only at hσ e0 e1 e5
    subst hσ
    refine vc_seq fun K8 hK8 => ?_
    refine vc_seq fun K9 hK9 => ?_
    refine vc_reg ?_
    try simp (disch := omega) only [go_sem, ↓reduceIte, Nat.reduceEqDiff, reduceCtorEq, Nat.reduceAdd, Nat.reduceLeDiff, Nat.reduceMul, Int.reduceNeg, Int.reduceLT, Int.reduceAdd, Int.reduceSub, e0, e1, e5, hcl, hdl]
    refine hK9 _ ?_
    refine vc_cond (t := _) (by first | rfl | (simp (disch := omega) only [go_sem, ↓reduceIte, Nat.reduceEqDiff, reduceCtorEq, Nat.reduceAdd, Nat.reduceLeDiff, Nat.reduceMul, Int.reduceNeg, Int.reduceLT, Int.reduceAdd, Int.reduceSub, e0, e1, e5, hcl, hdl]; rfl)) (fun hc2 => ?_) (fun hc2 => ?_)
    · (try simp only [go_sem] at hc2)
      refine vc_skip ?_
      refine hK8 _ ?_
      refine vc_seq fun K10 hK10 => ?_
      refine vc_block ?_
      refine vc_seq fun K11 hK11 => ?_
      obtain ⟨cc, hcc, hrc⟩ := Rl.get ha (n := n) (by omega)
      obtain ⟨gac_, kc_, nc_, gc_, csc_, rfl, hvc_⟩ := Br.cells hrc
      obtain ⟨cd, hcd, hrd⟩ := Rl.get hb (n := n) (by omega)
      obtain ⟨gad_, kd_, nd_, gd_, csd_, rfl, hvd_⟩ := Br.cells hrd
      have hny : n < bs.length := by omega
      refine vc_regD [(0, false), (1, false), (2, false), (3, false), (4, false), (5, false), (6, false), (7, false), (8, false), (9, false)] (by kernel_rfl) ?_
      try simp (disch := omega) only [go_sem, ↓reduceIte, Nat.reduceEqDiff, reduceCtorEq, Nat.reduceAdd, Nat.reduceLeDiff, Nat.reduceMul, Int.reduceNeg, Int.reduceLT, Int.reduceAdd, Int.reduceSub, e0, e1, e5, hcl, hdl, hcc, hcd]
      refine vcX_call _ _ (ih _ (List.getElem_mem (show n < us.length by omega)) _ (List.getElem_mem (show n < bs.length by omega)) _ _ hrc hrd) (by first | rfl | (simp (disch := omega) only [go_sem, ↓reduceIte, Nat.reduceEqDiff, reduceCtorEq, Nat.reduceAdd, Nat.reduceLeDiff, Nat.reduceMul, Int.reduceNeg, Int.reduceLT, Int.reduceAdd, Int.reduceSub, e0, e1, e5, hcl, hdl, hcc, hcd])) (by first | rfl | (simp (disch := omega) only [go_sem, ↓reduceIte, Nat.reduceEqDiff, reduceCtorEq, Nat.reduceAdd, Nat.reduceLeDiff, Nat.reduceMul, Int.reduceNeg, Int.reduceLT, Int.reduceAdd, Int.reduceSub, e0, e1, e5, hcl, hdl, hcc, hcd])) (by first | rfl | simp [V.pures, V.pure, V.pures_t]) ?_
      rintro r6_8 h6_8 hh6_8 rfl -
      try simp (disch := omega) only [go_sem, ↓reduceIte, Nat.reduceEqDiff, reduceCtorEq, Nat.reduceAdd, Nat.reduceLeDiff, Nat.reduceMul, Int.reduceNeg, Int.reduceLT, Int.reduceAdd, Int.reduceSub, e0, e1, e5, hcl, hdl, hcc, hcd]
      refine hK11 _ ?_
      refine vc_cond (t := _) (by first | rfl | (simp (disch := omega) only [go_sem, ↓reduceIte, Nat.reduceEqDiff, reduceCtorEq, Nat.reduceAdd, Nat.reduceLeDiff, Nat.reduceMul, Int.reduceNeg, Int.reduceLT, Int.reduceAdd, Int.reduceSub, e0, e1, e5, hcl, hdl]; rfl)) (fun hc3 => ?_) (fun hc3 => ?_)
      · (try simp only [go_sem] at hc3)
        refine vc_seq fun K12 hK12 => ?_
        refine vc_reg ?_
        try simp (disch := omega) only [go_sem, ↓reduceIte, Nat.reduceEqDiff, reduceCtorEq, Nat.reduceAdd, Nat.reduceLeDiff, Nat.reduceMul, Int.reduceNeg, Int.reduceLT, Int.reduceAdd, Int.reduceSub, e0, e1, e5, hcl, hdl]
        refine hK12 _ ?_
        refine vc_ret ?_
        refine ⟨_, by first | rfl | (simp only [go_sem, resQ, List.mapM_cons, List.mapM_nil, ↓reduceIte, Nat.reduceEqDiff, Nat.reduceAdd, Nat.reduceLeDiff, reduceCtorEq]; rfl), [], [], .nil, by simp, by simp, fun hi_ h1_ => ⟨?_, rfl, rfl⟩, by simp⟩
        rw [he, eql_drop (n := n) (by omega) (by omega), hc3, Bool.false_and]; rfl
      · (try simp only [go_sem] at hc3)
        refine vc_skip ?_
        refine hK10 _ ?_
        refine vc_reg ?_
        try simp (disch := omega) only [go_sem, ↓reduceIte, Nat.reduceEqDiff, reduceCtorEq, Nat.reduceAdd, Nat.reduceLeDiff, Nat.reduceMul, Int.reduceNeg, Int.reduceLT, Int.reduceAdd, Int.reduceSub, e0, e1, e5, hcl, hdl]
        refine hK7 _ _ ?_ ⟨n + 1, rfl, rfl, (by first | rfl | assumption | (simp (disch := omega) only [go_sem, ↓reduceIte, Nat.reduceEqDiff, reduceCtorEq, Nat.reduceAdd, Nat.reduceLeDiff, Nat.reduceMul, Int.reduceNeg, Int.reduceLT, Int.reduceAdd, Int.reduceSub, e0, e1, e5, hcl, hdl])), (by first | rfl | assumption | (simp (disch := omega) only [go_sem, ↓reduceIte, Nat.reduceEqDiff, reduceCtorEq, Nat.reduceAdd, Nat.reduceLeDiff, Nat.reduceMul, Int.reduceNeg, Int.reduceLT, Int.reduceAdd, Int.reduceSub, e0, e1, e5, hcl, hdl])), (by first | rfl | assumption | (simp (disch := omega) only [go_sem, ↓reduceIte, Nat.reduceEqDiff, reduceCtorEq, Nat.reduceAdd, Nat.reduceLeDiff, Nat.reduceMul, Int.reduceNeg, Int.reduceLT, Int.reduceAdd, Int.reduceSub, e0, e1, e5, hcl, hdl])), ?_, ?_, ?_⟩
        · omega
        · first | omega | assumption | rfl | simp_all
        · first | omega | assumption | rfl | simp_all
        · rw [he, eql_drop (n := n) (by omega) (by omega), hc3, Bool.true_and]
    · (try simp only [go_sem] at hc2)
      refine vc_exit ?_
      refine hK5 _ ?_
      refine vc_seq fun K13 hK13 => ?_
      refine vc_reg ?_
      try simp (disch := omega) only [go_sem, ↓reduceIte, Nat.reduceEqDiff, reduceCtorEq, Nat.reduceAdd, Nat.reduceLeDiff, Nat.reduceMul, Int.reduceNeg, Int.reduceLT, Int.reduceAdd, Int.reduceSub, e0, e1, e5, hcl, hdl]
      refine hK13 _ ?_
      refine vc_ret ?_
      refine ⟨_, by first | rfl | (simp only [go_sem, resQ, List.mapM_cons, List.mapM_nil, ↓reduceIte, Nat.reduceEqDiff, Nat.reduceAdd, Nat.reduceLeDiff, reduceCtorEq]; rfl), [], [], .nil, by simp, by simp, fun hi_ h1_ => ⟨?_, rfl, rfl⟩, by simp⟩
      rw [he, List.drop_of_length_le (by omega), List.drop_of_length_le (by omega)]; rfl

/-- impl.equalBranch -/
theorem impl_equalBranch (a b : Br) (c d : List T) (hc : a.rep c) (hd : b.rep d) (hw : a.wt ≤ 1048576) (hw2 : b.wt ≤ 1048576) : FCtr Try.prog 54 [.agg (c.map .t), .agg (d.map .t)] (fun r => r = .t (.bool (Br.eqb a b))) := by
  obtain ⟨gax_, kx_, nx_, gx_, csx_, rfl, hvx_⟩ := Br.cells hc
  obtain ⟨gay_, ky_, ny_, gy_, csy_, rfl, hvy_⟩ := Br.cells hd
  rw [Br.wt] at hw hw2
  refine Ctr.of_vc (rs := [.tmp 4]) (fn := Try.f54) mixed Try.func54 rfl rfl (by kernel_rfl) (by kernel_rfl) (by simp [Try.ntmps54]) (fun h0 => ?_)
  refine vc_seq fun K1 hK1 => ?_
  refine vc_reg ?_
  try simp (disch := omega) only [go_sem, ↓reduceIte, Nat.reduceEqDiff, reduceCtorEq, Nat.reduceAdd, Nat.reduceLeDiff, Nat.reduceMul, Int.reduceNeg, Int.reduceLT, Int.reduceAdd, Int.reduceSub]
  intro g0_0 hg0_0
  intro g0_1 hg0_1
  refine hK1 _ ?_
  refine vc_seq fun K2 hK2 => ?_
  refine vc_reg ?_
  refine vcX_cut 6 fun K3 hK3 => ?_
  try simp (disch := omega) only [go_sem, ↓reduceIte, Nat.reduceEqDiff, reduceCtorEq, Nat.reduceAdd, Nat.reduceLeDiff, Nat.reduceMul, Int.reduceNeg, Int.reduceLT, Int.reduceAdd, Int.reduceSub]
  refine vcX_call _ _ (impl_EqualExpr a.bd b.bd _ _ hvx_ hvy_ (by omega) (by omega)) (by first | rfl | (simp (disch := omega) only [go_sem, ↓reduceIte, Nat.reduceEqDiff, reduceCtorEq, Nat.reduceAdd, Nat.reduceLeDiff, Nat.reduceMul, Int.reduceNeg, Int.reduceLT, Int.reduceAdd, Int.reduceSub])) (by first | rfl | (simp (disch := omega) only [go_sem, ↓reduceIte, Nat.reduceEqDiff, reduceCtorEq, Nat.reduceAdd, Nat.reduceLeDiff, Nat.reduceMul, Int.reduceNeg, Int.reduceLT, Int.reduceAdd, Int.reduceSub])) (by first | rfl | simp [V.pures, V.pure, V.pures_t]) ?_
  rintro r1_4 h1_4 hh1_4 rfl -
  try simp (disch := omega) only [go_sem, ↓reduceIte, Nat.reduceEqDiff, reduceCtorEq, Nat.reduceAdd, Nat.reduceLeDiff, Nat.reduceMul, Int.reduceNeg, Int.reduceLT, Int.reduceAdd, Int.reduceSub]
  refine hK3 _ ?_
  refine vcX_bool (fun hb1_5 => ?_) (fun hb1_5 => ?_)
  · (try simp only [go_sem] at hb1_5)
    refine vcX_cut 7 fun K5 hK5 => ?_
    try simp (disch := omega) only [go_sem, ↓reduceIte, Nat.reduceEqDiff, reduceCtorEq, Nat.reduceAdd, Nat.reduceLeDiff, Nat.reduceMul, Int.reduceNeg, Int.reduceLT, Int.reduceAdd, Int.reduceSub]
    refine hK5 _ ?_
    refine vcX_bool (fun hb1_12 => ?_) (fun hb1_12 => ?_)
    · (try simp only [go_sem] at hb1_12)
      refine vcX_cut 7 fun K7 hK7 => ?_
      try simp (disch := omega) only [go_sem, ↓reduceIte, Nat.reduceEqDiff, reduceCtorEq, Nat.reduceAdd, Nat.reduceLeDiff, Nat.reduceMul, Int.reduceNeg, Int.reduceLT, Int.reduceAdd, Int.reduceSub]
      refine hK7 _ ?_
      refine vcX_bool (fun hb1_19 => ?_) (fun hb1_19 => ?_)
      · (try simp only [go_sem] at hb1_19)
        try simp (disch := omega) only [go_sem, ↓reduceIte, Nat.reduceEqDiff, reduceCtorEq, Nat.reduceAdd, Nat.reduceLeDiff, Nat.reduceMul, Int.reduceNeg, Int.reduceLT, Int.reduceAdd, Int.reduceSub]
        refine vcX_call _ _ (slices_Equal_string _ _ a.ps b.ps (by omega) (by omega)) (by first | rfl | (simp (disch := omega) only [go_sem, ↓reduceIte, Nat.reduceEqDiff, reduceCtorEq, Nat.reduceAdd, Nat.reduceLeDiff, Nat.reduceMul, Int.reduceNeg, Int.reduceLT, Int.reduceAdd, Int.reduceSub])) (by first | rfl | (simp (disch := omega) only [go_sem, ↓reduceIte, Nat.reduceEqDiff, reduceCtorEq, Nat.reduceAdd, Nat.reduceLeDiff, Nat.reduceMul, Int.reduceNeg, Int.reduceLT, Int.reduceAdd, Int.reduceSub])) (by first | rfl | simp [V.pures, V.pure, V.pures_t]) ?_
        rintro r1_24 h1_24 hh1_24 rfl -
        try simp (disch := omega) only [go_sem, ↓reduceIte, Nat.reduceEqDiff, reduceCtorEq, Nat.reduceAdd, Nat.reduceLeDiff, Nat.reduceMul, Int.reduceNeg, Int.reduceLT, Int.reduceAdd, Int.reduceSub]
        refine hK2 _ ?_
        refine vc_ret ?_
        refine ⟨_, by first | rfl | (simp only [go_sem, resQ, List.mapM_cons, List.mapM_nil, ↓reduceIte, Nat.reduceEqDiff, Nat.reduceAdd, Nat.reduceLeDiff, reduceCtorEq]; rfl), [], [], .nil, by simp, by simp, fun hi_ h1_ => ⟨?_, rfl, rfl⟩, by simp⟩
        have hq : Br.eqb a b = decide (a.ps = b.ps) := by rw [Br.eqb]; simp_all
        rw [hq]; rfl
      · (try simp only [go_sem] at hb1_19)
        try simp (disch := omega) only [go_sem, ↓reduceIte, Nat.reduceEqDiff, reduceCtorEq, Nat.reduceAdd, Nat.reduceLeDiff, Nat.reduceMul, Int.reduceNeg, Int.reduceLT, Int.reduceAdd, Int.reduceSub]
        refine hK2 _ ?_
        refine vc_ret ?_
        refine ⟨_, by first | rfl | (simp only [go_sem, resQ, List.mapM_cons, List.mapM_nil, ↓reduceIte, Nat.reduceEqDiff, Nat.reduceAdd, Nat.reduceLeDiff, reduceCtorEq]; rfl), [], [], .nil, by simp, by simp, fun hi_ h1_ => ⟨?_, rfl, rfl⟩, by simp⟩
        have hq : Br.eqb a b = false := by rw [Br.eqb]; simp_all
        rw [hq]; rfl
    · (try simp only [go_sem] at hb1_12)
      try simp (disch := omega) only [go_sem, ↓reduceIte, Nat.reduceEqDiff, reduceCtorEq, Nat.reduceAdd, Nat.reduceLeDiff, Nat.reduceMul, Int.reduceNeg, Int.reduceLT, Int.reduceAdd, Int.reduceSub]
      refine hK2 _ ?_
      refine vc_ret ?_
      refine ⟨_, by first | rfl | (simp only [go_sem, resQ, List.mapM_cons, List.mapM_nil, ↓reduceIte, Nat.reduceEqDiff, Nat.reduceAdd, Nat.reduceLeDiff, reduceCtorEq]; rfl), [], [], .nil, by simp, by simp, fun hi_ h1_ => ⟨?_, rfl, rfl⟩, by simp⟩
      have hq : Br.eqb a b = false := by rw [Br.eqb]; simp_all
      rw [hq]; rfl
  · (try simp only [go_sem] at hb1_5)
    try simp (disch := omega) only [go_sem, ↓reduceIte, Nat.reduceEqDiff, reduceCtorEq, Nat.reduceAdd, Nat.reduceLeDiff, Nat.reduceMul, Int.reduceNeg, Int.reduceLT, Int.reduceAdd, Int.reduceSub]
    refine hK2 _ ?_
    refine vc_ret ?_
    refine ⟨_, by first | rfl | (simp only [go_sem, resQ, List.mapM_cons, List.mapM_nil, ↓reduceIte, Nat.reduceEqDiff, Nat.reduceAdd, Nat.reduceLeDiff, reduceCtorEq]; rfl), [], [], .nil, by simp, by simp, fun hi_ h1_ => ⟨?_, rfl, rfl⟩, by simp⟩
    have hq : Br.eqb a b = false := by rw [Br.eqb]; simp_all
    rw [hq]; rfl

/-- slices.EqualFunc[[]impl.Branch,[]impl.Branch,impl.Branch,impl.Branch] -/
theorem slices_EqualFunc_Branch (g g2 : Nat) (f : Nat) (us bs : List Br) (cs ds : List (List T)) (ha : Rl Br.rep us cs) (hb : Rl Br.rep bs ds) (hl : us.length < 2^60) (hl2 : bs.length < 2^60) (ih : ∀ a ∈ us, ∀ b ∈ bs, ∀ (c d : List T), Br.rep a c → Br.rep b d → FCtr Try.prog f [.agg (c.map .t), .agg (d.map .t)] (fun r => r = .t (.bool (Br.eqb a b)))) : FCtr Try.prog 53 [.t (.sl g cs), .t (.sl g2 ds), .fn f []] (fun r => r = .t (.bool (eql Br.eqb us bs))) := by
  have hcl := ha.len
  have hdl := hb.len
  refine Ctr.of_vc (rs := [.tmp 6]) (fn := Try.f53) mixed Try.func53 rfl rfl (by kernel_rfl) (by kernel_rfl) (by simp [Try.ntmps53]) (fun h0 => ?_)
  refine vc_seq fun K1 hK1 => ?_
  refine vc_reg ?_
  try simp (disch := omega) only [go_sem, ↓reduceIte, Nat.reduceEqDiff, reduceCtorEq, Nat.reduceAdd, Nat.reduceLeDiff, Nat.reduceMul, Int.reduceNeg, Int.reduceLT, Int.reduceAdd, Int.reduceSub, hcl, hdl]
  refine hK1 _ ?_
  refine vc_seq fun K2 hK2 => ?_
  refine vc_seq fun K3 hK3 => ?_
  refine vc_reg ?_
  try simp (disch := omega) only [go_sem, ↓reduceIte, Nat.reduceEqDiff, reduceCtorEq, Nat.reduceAdd, Nat.reduceLeDiff, Nat.reduceMul, Int.reduceNeg, Int.reduceLT, Int.reduceAdd, Int.reduceSub, hcl, hdl]
  refine hK3 _ ?_
  refine vc_cond (t := _) (by first | rfl | (simp (disch := omega) only [go_sem, ↓reduceIte, Nat.reduceEqDiff, reduceCtorEq, Nat.reduceAdd, Nat.reduceLeDiff, Nat.reduceMul, Int.reduceNeg, Int.reduceLT, Int.reduceAdd, Int.reduceSub, hcl, hdl]; rfl)) (fun hc1 => ?_) (fun hc1 => ?_)
  · (try simp only [go_sem] at hc1)
    refine vc_seq fun K4 hK4 => ?_
    refine vc_reg ?_
    try simp (disch := omega) only [go_sem, ↓reduceIte, Nat.reduceEqDiff, reduceCtorEq, Nat.reduceAdd, Nat.reduceLeDiff, Nat.reduceMul, Int.reduceNeg, Int.reduceLT, Int.reduceAdd, Int.reduceSub, hcl, hdl]
    refine hK4 _ ?_
    refine vc_ret ?_
    refine ⟨_, by first | rfl | (simp only [go_sem, resQ, List.mapM_cons, List.mapM_nil, ↓reduceIte, Nat.reduceEqDiff, Nat.reduceAdd, Nat.reduceLeDiff, reduceCtorEq]; rfl), [], [], .nil, by simp, by simp, fun hi_ h1_ => ⟨?_, rfl, rfl⟩, by simp⟩
    rw [eql_len (fun h => hc1 (by rw [h]))]; rfl
  · (try simp only [go_sem] at hc1)
    refine vc_skip ?_
    refine hK2 _ ?_
    refine vc_seq fun K5 hK5 => ?_
    refine vc_seq fun K6 hK6 => ?_
    refine vc_reg ?_
    try simp (disch := omega) only [go_sem, ↓reduceIte, Nat.reduceEqDiff, reduceCtorEq, Nat.reduceAdd, Nat.reduceLeDiff, Nat.reduceMul, Int.reduceNeg, Int.reduceLT, Int.reduceAdd, Int.reduceSub, hcl, hdl]
    refine hK6 _ ?_
    refine vc_block ?_
    refine vc_loopG (fun m s => ∃ (n : Nat), (m = us.length - n) ∧ (s.σ = []) ∧ (s.env 0 = .t (.sl g cs)) ∧ (s.env 1 = .t (.sl g2 ds)) ∧ (s.env 2 = .fn f []) ∧ (s.env 15 = .t (.sl g cs)) ∧ (s.env 16 = .t (.int .i64 us.length)) ∧ (s.env 17 = .t (.int .i64 n)) ∧ (n ≤ us.length) ∧ (us.length = bs.length) ∧ (eql Br.eqb us bs = eql Br.eqb (us.drop n) (bs.drop n))) (us.length - 0) ⟨0, rfl, rfl, (by first | rfl | assumption | (simp (disch := omega) only [go_sem, ↓reduceIte, Nat.reduceEqDiff, reduceCtorEq, Nat.reduceAdd, Nat.reduceLeDiff, Nat.reduceMul, Int.reduceNeg, Int.reduceLT, Int.reduceAdd, Int.reduceSub, hcl, hdl])), (by first | rfl | assumption | (simp (disch := omega) only [go_sem, ↓reduceIte, Nat.reduceEqDiff, reduceCtorEq, Nat.reduceAdd, Nat.reduceLeDiff, Nat.reduceMul, Int.reduceNeg, Int.reduceLT, Int.reduceAdd, Int.reduceSub, hcl, hdl])), (by first | rfl | assumption | (simp (disch := omega) only [go_sem, ↓reduceIte, Nat.reduceEqDiff, reduceCtorEq, Nat.reduceAdd, Nat.reduceLeDiff, Nat.reduceMul, Int.reduceNeg, Int.reduceLT, Int.reduceAdd, Int.reduceSub, hcl, hdl])), (by first | rfl | assumption | (simp (disch := omega) only [go_sem, ↓reduceIte, Nat.reduceEqDiff, reduceCtorEq, Nat.reduceAdd, Nat.reduceLeDiff, Nat.reduceMul, Int.reduceNeg, Int.reduceLT, Int.reduceAdd, Int.reduceSub, hcl, hdl])), (by first | rfl | assumption | (simp (disch := omega) only [go_sem, ↓reduceIte, Nat.reduceEqDiff, reduceCtorEq, Nat.reduceAdd, Nat.reduceLeDiff, Nat.reduceMul, Int.reduceNeg, Int.reduceLT, Int.reduceAdd, Int.reduceSub, hcl, hdl])), (by first | rfl | assumption | (simp (disch := omega) only [go_sem, ↓reduceIte, Nat.reduceEqDiff, reduceCtorEq, Nat.reduceAdd, Nat.reduceLeDiff, Nat.reduceMul, Int.reduceNeg, Int.reduceLT, Int.reduceAdd, Int.reduceSub, hcl, hdl])), (by first | rfl | omega | simp), (by omega), (by first | rfl | omega | simp)⟩ ?_
    rintro m ⟨e, σ, h⟩ ⟨n, hm, hσ, e0, e1, e2, e15, e16, e17, hn, hll, he⟩ K7 hK7 hG7
    simp only at hσ e0 e1 e2 e15 e16 e17
    subst hσ
    refine vc_seq fun K8 hK8 => ?_
    refine vc_reg ?_
    try simp (disch := omega) only [go_sem, ↓reduceIte, Nat.reduceEqDiff, reduceCtorEq, Nat.reduceAdd, Nat.reduceLeDiff, Nat.reduceMul, Int.reduceNeg, Int.reduceLT, Int.reduceAdd, Int.reduceSub, e0, e1, e2, e15, e16, e17, hcl, hdl]
    refine hK8 _ ?_
    refine vc_seq fun K9 hK9 => ?_
    refine vc_cond (t := _) (by first | rfl | (simp (disch := omega) only [go_sem, ↓reduceIte, Nat.reduceEqDiff, reduceCtorEq, Nat.reduceAdd, Nat.reduceLeDiff, Nat.reduceMul, Int.reduceNeg, Int.reduceLT, Int.reduceAdd, Int.reduceSub, e0, e1, e2, e15, e16, e17, hcl, hdl]; rfl)) (fun hc2 => ?_) (fun hc2 => ?_)
    · (try simp only [go_sem] at hc2)
      refine vc_skip ?_
      refine hK9 _ ?_
      refine vc_seq fun K10 hK10 => ?_
      refine vc_block ?_
      refine vc_seq fun K11 hK11 => ?_
      obtain ⟨cc, hcc, hrc⟩ := Rl.get ha (n := n) (by omega)
      obtain ⟨gac_, kc_, nc_, gc_, csc_, rfl, hvc_⟩ := Br.cells hrc
      obtain ⟨cd, hcd, hrd⟩ := Rl.get hb (n := n) (by omega)
      obtain ⟨gad_, kd_, nd_, gd_, csd_, rfl, hvd_⟩ := Br.cells hrd
      have hny : n < bs.length := by omega
      refine vc_reg ?_
      try simp (disch := omega) only [go_sem, ↓reduceIte, Nat.reduceEqDiff, reduceCtorEq, Nat.reduceAdd, Nat.reduceLeDiff, Nat.reduceMul, Int.reduceNeg, Int.reduceLT, Int.reduceAdd, Int.reduceSub, e0, e1, e2, e15, e16, e17, hcl, hdl, hcc, hcd]
      intro g5_3 hg5_3
      refine hK11 _ ?_
      refine vc_seq fun K12 hK12 => ?_
      refine vc_reg ?_
      try simp (disch := omega) only [go_sem, ↓reduceIte, Nat.reduceEqDiff, reduceCtorEq, Nat.reduceAdd, Nat.reduceLeDiff, Nat.reduceMul, Int.reduceNeg, Int.reduceLT, Int.reduceAdd, Int.reduceSub, e0, e1, e2, e15, e16, e17, hcl, hdl, hcc, hcd]
      intro g6_4 hg6_4
      refine hK12 _ ?_
      refine vc_seq fun K13 hK13 => ?_
      refine vc_reg ?_
      try simp (disch := omega) only [go_sem, ↓reduceIte, Nat.reduceEqDiff, reduceCtorEq, Nat.reduceAdd, Nat.reduceLeDiff, Nat.reduceMul, Int.reduceNeg, Int.reduceLT, Int.reduceAdd, Int.reduceSub, e0, e1, e2, e15, e16, e17, hcl, hdl]
      refine vcX_call _ _ (ih _ (List.getElem_mem (show n < us.length by omega)) _ (List.getElem_mem (show n < bs.length by omega)) _ _ hrc hrd) (by first | rfl | (simp (disch := omega) only [go_sem, ↓reduceIte, Nat.reduceEqDiff, reduceCtorEq, Nat.reduceAdd, Nat.reduceLeDiff, Nat.reduceMul, Int.reduceNeg, Int.reduceLT, Int.reduceAdd, Int.reduceSub, e0, e1, e2, e15, e16, e17, hcl, hdl])) (by first | rfl | (simp (disch := omega) only [go_sem, ↓reduceIte, Nat.reduceEqDiff, reduceCtorEq, Nat.reduceAdd, Nat.reduceLeDiff, Nat.reduceMul, Int.reduceNeg, Int.reduceLT, Int.reduceAdd, Int.reduceSub, e0, e1, e2, e15, e16, e17, hcl, hdl])) (by first | rfl | simp [V.pures, V.pure, V.pures_t]) ?_
      rintro r7_3 h7_3 hh7_3 rfl -
      try simp (disch := omega) only [go_sem, ↓reduceIte, Nat.reduceEqDiff, reduceCtorEq, Nat.reduceAdd, Nat.reduceLeDiff, Nat.reduceMul, Int.reduceNeg, Int.reduceLT, Int.reduceAdd, Int.reduceSub, e0, e1, e2, e15, e16, e17, hcl, hdl]
      refine hK13 _ ?_
      refine vc_cond (t := _) (by first | rfl | (simp (disch := omega) only [go_sem, ↓reduceIte, Nat.reduceEqDiff, reduceCtorEq, Nat.reduceAdd, Nat.reduceLeDiff, Nat.reduceMul, Int.reduceNeg, Int.reduceLT, Int.reduceAdd, Int.reduceSub, e0, e1, e2, e15, e16, e17, hcl, hdl]; rfl)) (fun hc3 => ?_) (fun hc3 => ?_)
      · (try simp only [go_sem] at hc3)
        refine vc_seq fun K14 hK14 => ?_
        refine vc_reg ?_
        try simp (disch := omega) only [go_sem, ↓reduceIte, Nat.reduceEqDiff, reduceCtorEq, Nat.reduceAdd, Nat.reduceLeDiff, Nat.reduceMul, Int.reduceNeg, Int.reduceLT, Int.reduceAdd, Int.reduceSub, e0, e1, e2, e15, e16, e17, hcl, hdl]
        refine hK14 _ ?_
        refine vc_ret ?_
        refine ⟨_, by first | rfl | (simp only [go_sem, resQ, List.mapM_cons, List.mapM_nil, ↓reduceIte, Nat.reduceEqDiff, Nat.reduceAdd, Nat.reduceLeDiff, reduceCtorEq]; rfl), [], [], .nil, by simp, by simp, fun hi_ h1_ => ⟨?_, rfl, rfl⟩, by simp⟩
        rw [he, eql_drop (n := n) (by omega) (by omega), hc3, Bool.false_and]; rfl
      · (try simp only [go_sem] at hc3)
        refine vc_skip ?_
        refine hK10 _ ?_
        refine vc_reg ?_
        try simp (disch := omega) only [go_sem, ↓reduceIte, Nat.reduceEqDiff, reduceCtorEq, Nat.reduceAdd, Nat.reduceLeDiff, Nat.reduceMul, Int.reduceNeg, Int.reduceLT, Int.reduceAdd, Int.reduceSub, e0, e1, e2, e15, e16, e17, hcl, hdl]
        refine hG7 _ _ [] [] ?_ (by simp) (by simp) (by simp) ⟨n + 1, rfl, (by first | rfl | (simp (disch := omega) only [go_sem, ↓reduceIte, Nat.reduceEqDiff, reduceCtorEq, Nat.reduceAdd, Nat.reduceLeDiff, Nat.reduceMul, Int.reduceNeg, Int.reduceLT, Int.reduceAdd, Int.reduceSub, e0, e1, e2, e15, e16, e17, hcl, hdl, gc_σ, locObs, Ob.loc, V.loc, V.locs, idx]; done) | (simp [gc_σ, locObs, Ob.loc, V.loc, Function.comp_def, List.take_of_length_le]; done)), (by first | rfl | (simp (disch := omega) only [go_sem, ↓reduceIte, Nat.reduceEqDiff, reduceCtorEq, Nat.reduceAdd, Nat.reduceLeDiff, Nat.reduceMul, Int.reduceNeg, Int.reduceLT, Int.reduceAdd, Int.reduceSub, e0, e1, e2, e15, e16, e17, hcl, hdl, gc_env, V.loc, V.locs, idx]; done) | (simp (disch := omega) only [go_sem, ↓reduceIte, Nat.reduceEqDiff, reduceCtorEq, Nat.reduceAdd, Nat.reduceLeDiff, Nat.reduceMul, Int.reduceNeg, Int.reduceLT, Int.reduceAdd, Int.reduceSub, e0, e1, e2, e15, e16, e17, hcl, hdl, gc_env, V.loc, V.locs, idx]; simp; done)), (by first | rfl | (simp (disch := omega) only [go_sem, ↓reduceIte, Nat.reduceEqDiff, reduceCtorEq, Nat.reduceAdd, Nat.reduceLeDiff, Nat.reduceMul, Int.reduceNeg, Int.reduceLT, Int.reduceAdd, Int.reduceSub, e0, e1, e2, e15, e16, e17, hcl, hdl, gc_env, V.loc, V.locs, idx]; done) | (simp (disch := omega) only [go_sem, ↓reduceIte, Nat.reduceEqDiff, reduceCtorEq, Nat.reduceAdd, Nat.reduceLeDiff, Nat.reduceMul, Int.reduceNeg, Int.reduceLT, Int.reduceAdd, Int.reduceSub, e0, e1, e2, e15, e16, e17, hcl, hdl, gc_env, V.loc, V.locs, idx]; simp; done)), (by first | rfl | (simp (disch := omega) only [go_sem, ↓reduceIte, Nat.reduceEqDiff, reduceCtorEq, Nat.reduceAdd, Nat.reduceLeDiff, Nat.reduceMul, Int.reduceNeg, Int.reduceLT, Int.reduceAdd, Int.reduceSub, e0, e1, e2, e15, e16, e17, hcl, hdl, gc_env, V.loc, V.locs, idx]; done) | (simp (disch := omega) only [go_sem, ↓reduceIte, Nat.reduceEqDiff, reduceCtorEq, Nat.reduceAdd, Nat.reduceLeDiff, Nat.reduceMul, Int.reduceNeg, Int.reduceLT, Int.reduceAdd, Int.reduceSub, e0, e1, e2, e15, e16, e17, hcl, hdl, gc_env, V.loc, V.locs, idx]; simp; done)), (by first | rfl | (simp (disch := omega) only [go_sem, ↓reduceIte, Nat.reduceEqDiff, reduceCtorEq, Nat.reduceAdd, Nat.reduceLeDiff, Nat.reduceMul, Int.reduceNeg, Int.reduceLT, Int.reduceAdd, Int.reduceSub, e0, e1, e2, e15, e16, e17, hcl, hdl, gc_env, V.loc, V.locs, idx]; done) | (simp (disch := omega) only [go_sem, ↓reduceIte, Nat.reduceEqDiff, reduceCtorEq, Nat.reduceAdd, Nat.reduceLeDiff, Nat.reduceMul, Int.reduceNeg, Int.reduceLT, Int.reduceAdd, Int.reduceSub, e0, e1, e2, e15, e16, e17, hcl, hdl, gc_env, V.loc, V.locs, idx]; simp; done)), (by first | rfl | (simp (disch := omega) only [go_sem, ↓reduceIte, Nat.reduceEqDiff, reduceCtorEq, Nat.reduceAdd, Nat.reduceLeDiff, Nat.reduceMul, Int.reduceNeg, Int.reduceLT, Int.reduceAdd, Int.reduceSub, e0, e1, e2, e15, e16, e17, hcl, hdl, gc_env, V.loc, V.locs, idx]; done) | (simp (disch := omega) only [go_sem, ↓reduceIte, Nat.reduceEqDiff, reduceCtorEq, Nat.reduceAdd, Nat.reduceLeDiff, Nat.reduceMul, Int.reduceNeg, Int.reduceLT, Int.reduceAdd, Int.reduceSub, e0, e1, e2, e15, e16, e17, hcl, hdl, gc_env, V.loc, V.locs, idx]; simp; done)), (by first | rfl | (simp (disch := omega) only [go_sem, ↓reduceIte, Nat.reduceEqDiff, reduceCtorEq, Nat.reduceAdd, Nat.reduceLeDiff, Nat.reduceMul, Int.reduceNeg, Int.reduceLT, Int.reduceAdd, Int.reduceSub, e0, e1, e2, e15, e16, e17, hcl, hdl, gc_env, V.loc, V.locs, idx]; done) | (simp (disch := omega) only [go_sem, ↓reduceIte, Nat.reduceEqDiff, reduceCtorEq, Nat.reduceAdd, Nat.reduceLeDiff, Nat.reduceMul, Int.reduceNeg, Int.reduceLT, Int.reduceAdd, Int.reduceSub, e0, e1, e2, e15, e16, e17, hcl, hdl, gc_env, V.loc, V.locs, idx]; simp; done)), ?_, ?_, ?_⟩
        · omega
        · first | omega | assumption | rfl | simp_all
        · first | omega | assumption | rfl | simp_all
        · rw [he, eql_drop (n := n) (by omega) (by omega), hc3, Bool.true_and]
    · (try simp only [go_sem] at hc2)
      refine vc_exit ?_
      refine hK5 _ ?_
      refine vc_seq fun K15 hK15 => ?_
      refine vc_reg ?_
      try simp (disch := omega) only [go_sem, ↓reduceIte, Nat.reduceEqDiff, reduceCtorEq, Nat.reduceAdd, Nat.reduceLeDiff, Nat.reduceMul, Int.reduceNeg, Int.reduceLT, Int.reduceAdd, Int.reduceSub, e0, e1, e2, e15, e16, e17, hcl, hdl]
      refine hK15 _ ?_
      refine vc_ret ?_
      refine ⟨_, by first | rfl | (simp only [go_sem, resQ, List.mapM_cons, List.mapM_nil, ↓reduceIte, Nat.reduceEqDiff, Nat.reduceAdd, Nat.reduceLeDiff, reduceCtorEq]; rfl), [], [], .nil, by simp, by simp, fun hi_ h1_ => ⟨?_, rfl, rfl⟩, by simp⟩
      rw [he, List.drop_of_length_le (by omega), List.drop_of_length_le (by omega)]; rfl

/-- impl.EqualBranches -/
theorem impl_EqualBranches (g g2 : Nat) (us bs : List Br) (cs ds : List (List T)) (ha : Rl Br.rep us cs) (hb : Rl Br.rep bs ds) (hw : wl Br.wt us ≤ 1048576) (hw2 : wl Br.wt bs ≤ 1048576) : FCtr Try.prog 15 [.t (.sl g cs), .t (.sl g2 ds)] (fun r => r = .t (.bool (eql Br.eqb us bs))) := by
  have hl1_ := wl_len Br.wt us
  have hl2_ := wl_len Br.wt bs
  refine Ctr.of_vc (rs := [.tmp 4]) (fn := Try.f15) mixed Try.func15 rfl rfl (by kernel_rfl) (by kernel_rfl) (by simp [Try.ntmps15]) (fun h0 => ?_)
  refine vc_seq fun K1 hK1 => ?_
  refine vc_reg ?_
  try simp (disch := omega) only [go_sem, ↓reduceIte, Nat.reduceEqDiff, reduceCtorEq, Nat.reduceAdd, Nat.reduceLeDiff, Nat.reduceMul, Int.reduceNeg, Int.reduceLT, Int.reduceAdd, Int.reduceSub]
  refine hK1 _ ?_
  refine vc_seq fun K2 hK2 => ?_
  refine vc_reg ?_
  try simp (disch := omega) only [go_sem, ↓reduceIte, Nat.reduceEqDiff, reduceCtorEq, Nat.reduceAdd, Nat.reduceLeDiff, Nat.reduceMul, Int.reduceNeg, Int.reduceLT, Int.reduceAdd, Int.reduceSub]
  refine vcX_call _ _ (slices_EqualFunc_Branch g g2 _ us bs cs ds ha hb (by omega) (by omega) (fun a ha b hb c d h1 h2 => impl_equalBranch a b c d h1 h2 (by have := wl_mem (f := Br.wt) ha; omega) (by have := wl_mem (f := Br.wt) hb; omega))) (by first | rfl | (simp (disch := omega) only [go_sem, ↓reduceIte, Nat.reduceEqDiff, reduceCtorEq, Nat.reduceAdd, Nat.reduceLeDiff, Nat.reduceMul, Int.reduceNeg, Int.reduceLT, Int.reduceAdd, Int.reduceSub])) (by first | rfl | (simp (disch := omega) only [go_sem, ↓reduceIte, Nat.reduceEqDiff, reduceCtorEq, Nat.reduceAdd, Nat.reduceLeDiff, Nat.reduceMul, Int.reduceNeg, Int.reduceLT, Int.reduceAdd, Int.reduceSub])) (by first | rfl | simp [V.pures, V.pure, V.pures_t]) ?_
  rintro r1_2 h1_2 hh1_2 rfl -
  try simp (disch := omega) only [go_sem, ↓reduceIte, Nat.reduceEqDiff, reduceCtorEq, Nat.reduceAdd, Nat.reduceLeDiff, Nat.reduceMul, Int.reduceNeg, Int.reduceLT, Int.reduceAdd, Int.reduceSub]
  refine hK2 _ ?_
  refine vc_ret ?_
  refine ⟨_, by first | rfl | (simp only [go_sem, resQ, List.mapM_cons, List.mapM_nil, ↓reduceIte, Nat.reduceEqDiff, Nat.reduceAdd, Nat.reduceLeDiff, reduceCtorEq]; rfl), [], [], .nil, by simp, by simp, fun hi_ h1_ => ⟨?_, rfl, rfl⟩, by simp⟩
  first | rfl | simp_all

/-- spec.EqualBranches -/
theorem spec_EqualBranches (g g2 : Nat) (us bs : List Br) (cs ds : List (List T)) (ha : Rl Br.rep us cs) (hb : Rl Br.rep bs ds) (hw : wl Br.wt us ≤ 1048576) (hw2 : wl Br.wt bs ≤ 1048576) : FCtr Try.prog 13 [.t (.sl g cs), .t (.sl g2 ds)] (fun r => r = .t (.bool (eql Br.eqb us bs))) := by
  have hl1_ := wl_len Br.wt us
  have hl2_ := wl_len Br.wt bs
  have hcl := ha.len
  have hdl := hb.len
  refine Ctr.of_vc (rs := [.tmp 4]) (fn := Try.f13) mixed Try.func13 rfl rfl (by kernel_rfl) (by kernel_rfl) (by simp [Try.ntmps13]) (fun h0 => ?_)
  refine vc_seq fun K1 hK1 => ?_
  refine vc_reg ?_
  try simp (disch := omega) only [go_sem, ↓reduceIte, Nat.reduceEqDiff, reduceCtorEq, Nat.reduceAdd, Nat.reduceLeDiff, Nat.reduceMul, Int.reduceNeg, Int.reduceLT, Int.reduceAdd, Int.reduceSub, hcl, hdl]
  refine hK1 _ ?_
  refine vc_seq fun K2 hK2 => ?_
  refine vc_seq fun K3 hK3 => ?_
  refine vc_reg ?_
  try simp (disch := omega) only [go_sem, ↓reduceIte, Nat.reduceEqDiff, reduceCtorEq, Nat.reduceAdd, Nat.reduceLeDiff, Nat.reduceMul, Int.reduceNeg, Int.reduceLT, Int.reduceAdd, Int.reduceSub, hcl, hdl]
  refine hK3 _ ?_
  refine vc_cond (t := _) (by first | rfl | (simp (disch := omega) only [go_sem, ↓reduceIte, Nat.reduceEqDiff, reduceCtorEq, Nat.reduceAdd, Nat.reduceLeDiff, Nat.reduceMul, Int.reduceNeg, Int.reduceLT, Int.reduceAdd, Int.reduceSub, hcl, hdl]; rfl)) (fun hc1 => ?_) (fun hc1 => ?_)
  · (try simp only [go_sem] at hc1)
    refine vc_seq fun K4 hK4 => ?_
    refine vc_reg ?_
    try simp (disch := omega) only [go_sem, ↓reduceIte, Nat.reduceEqDiff, reduceCtorEq, Nat.reduceAdd, Nat.reduceLeDiff, Nat.reduceMul, Int.reduceNeg, Int.reduceLT, Int.reduceAdd, Int.reduceSub, hcl, hdl]
    refine hK4 _ ?_
    refine vc_ret ?_
    refine ⟨_, by first | rfl | (simp only [go_sem, resQ, List.mapM_cons, List.mapM_nil, ↓reduceIte, Nat.reduceEqDiff, Nat.reduceAdd, Nat.reduceLeDiff, reduceCtorEq]; rfl), [], [], .nil, by simp, by simp, fun hi_ h1_ => ⟨?_, rfl, rfl⟩, by simp⟩
    rw [eql_len (fun h => hc1 (by rw [h]))]; rfl
  · (try simp only [go_sem] at hc1)
    refine vc_skip ?_
    refine hK2 _ ?_
    refine vc_seq fun K5 hK5 => ?_
    refine vc_seq fun K6 hK6 => ?_
    refine vc_reg ?_
    try simp (disch := omega) only [go_sem, ↓reduceIte, Nat.reduceEqDiff, reduceCtorEq, Nat.reduceAdd, Nat.reduceLeDiff, Nat.reduceMul, Int.reduceNeg, Int.reduceLT, Int.reduceAdd, Int.reduceSub, hcl, hdl]
    refine hK6 _ ?_
    refine vc_block ?_
    refine vc_loop (fun m s => ∃ (n : Nat), (m = us.length - n) ∧ (s.σ = []) ∧ (s.env 0 = .t (.sl g cs)) ∧ (s.env 1 = .t (.sl g2 ds)) ∧ (s.env 5 = .t (.int .i64 n)) ∧ (n ≤ us.length) ∧ (us.length = bs.length) ∧ (eql Br.eqb us bs = eql Br.eqb (us.drop n) (bs.drop n))) (us.length - 0) ⟨0, rfl, rfl, (by first | rfl | assumption | (simp (disch := omega) only [go_sem, ↓reduceIte, Nat.reduceEqDiff, reduceCtorEq, Nat.reduceAdd, Nat.reduceLeDiff, Nat.reduceMul, Int.reduceNeg, Int.reduceLT, Int.reduceAdd, Int.reduceSub, hcl, hdl])), (by first | rfl | assumption | (simp (disch := omega) only [go_sem, ↓reduceIte, Nat.reduceEqDiff, reduceCtorEq, Nat.reduceAdd, Nat.reduceLeDiff, Nat.reduceMul, Int.reduceNeg, Int.reduceLT, Int.reduceAdd, Int.reduceSub, hcl, hdl])), (by first | rfl | assumption | (simp (disch := omega) only [go_sem, ↓reduceIte, Nat.reduceEqDiff, reduceCtorEq, Nat.reduceAdd, Nat.reduceLeDiff, Nat.reduceMul, Int.reduceNeg, Int.reduceLT, Int.reduceAdd, Int.reduceSub, hcl, hdl])), (by first | rfl | omega | simp), (by omega), (by first | rfl | omega | simp)⟩ ?_
    rintro m ⟨e, σ, h⟩ ⟨n, hm, hσ, e0, e1, e5, hn, hll, he⟩ K7 hK7
    simp only at hσ e0 e1 e5
    subst hσ
    refine vc_seq fun K8 hK8 => ?_
    refine vc_seq fun K9 hK9 => ?_
    refine vc_reg ?_
    try simp (disch := omega) only [go_sem, ↓reduceIte, Nat.reduceEqDiff, reduceCtorEq, Nat.reduceAdd, Nat.reduceLeDiff, Nat.reduceMul, Int.reduceNeg, Int.reduceLT, Int.reduceAdd, Int.reduceSub, e0, e1, e5, hcl, hdl]
    refine hK9 _ ?_
    refine vc_cond (t := _) (by first | rfl | (simp (disch := omega) only [go_sem, ↓reduceIte, Nat.reduceEqDiff, reduceCtorEq, Nat.reduceAdd, Nat.reduceLeDiff, Nat.reduceMul, Int.reduceNeg, Int.reduceLT, Int.reduceAdd, Int.reduceSub, e0, e1, e5, hcl, hdl]; rfl)) (fun hc2 => ?_) (fun hc2 => ?_)
    · (try simp only [go_sem] at hc2)
      refine vc_skip ?_
      refine hK8 _ ?_
      refine vc_seq fun K10 hK10 => ?_
      refine vc_block ?_
      refine vc_seq fun K11 hK11 => ?_
      obtain ⟨cc, hcc, hrc⟩ := Rl.get ha (n := n) (by omega)
      obtain ⟨gac_, kc_, nc_, gc_, csc_, rfl, hvc_⟩ := Br.cells hrc
      obtain ⟨cd, hcd, hrd⟩ := Rl.get hb (n := n) (by omega)
      obtain ⟨gad_, kd_, nd_, gd_, csd_, rfl, hvd_⟩ := Br.cells hrd
      have hny : n < bs.length := by omega
      have hwn := wl_mem (f := Br.wt) (List.getElem_mem (show n < us.length by omega))
      have hwm := wl_mem (f := Br.wt) (List.getElem_mem (show n < bs.length by omega))
      rw [Br.wt] at hwn hwm
      refine vc_regE [(0, false), (1, false), (2, false), (3, false), (4, false), (5, false), (6, false), (7, false), (8, false), (9, false), (10, false), (11, false), (12, false), (13, false), (14, false), (15, false), (16, false), (17, false), (18, false), (19, false), (20, false), (21, false), (22, false), (23, false), (24, false), (25, false), (26, false), (27, false), (28, false), (29, false), (30, false), (31, false), (32, false), (33, false), (34, false), (35, false), (36, false), (37, false), (38, false), (39, false), (40, false), (41, false), (42, false), (43, false), (44, false), (45, false), (46, false), (47, false), (48, false), (49, false), (50, false), (51, false)] (by kernel_rfl) (by kernel_rfl) [(11, 28), (24, 41), (38, 55)] (by kernel_rfl) fun ops' hG' => ?_
      have hq11 := hG' (11, 28) (by simp)
      have hq24 := hG' (24, 41) (by simp)
      have hq38 := hG' (38, 55) (by simp)
      simp only [List.map_cons, List.map_nil]
      refine vcX_cut 12 fun K12 hK12 => ?_
      try simp (disch := omega) only [go_sem, ↓reduceIte, Nat.reduceEqDiff, reduceCtorEq, Nat.reduceAdd, Nat.reduceLeDiff, Nat.reduceMul, Int.reduceNeg, Int.reduceLT, Int.reduceAdd, Int.reduceSub, e0, e1, e5, hcl, hdl, hcc, hcd, hq11, hq24, hq38]
      refine hK12 _ ?_
      refine vcX_bool (fun hb6_11 => ?_) (fun hb6_11 => ?_)
      · (try simp only [go_sem] at hb6_11)
        refine vcX_gen fun e' he' => ?_
        have e0 : e' 0 = .t (.sl g cs) := (he' 0).trans (by first | rfl | assumption | (simp (disch := omega) only [upd, Nat.reduceEqDiff, ↓reduceIte, reduceCtorEq]; done) | (simp (disch := omega) only [upd, Nat.reduceEqDiff, ↓reduceIte, reduceCtorEq, e0, e1, e5]))
        have e1 : e' 1 = .t (.sl g2 ds) := (he' 1).trans (by first | rfl | assumption | (simp (disch := omega) only [upd, Nat.reduceEqDiff, ↓reduceIte, reduceCtorEq]; done) | (simp (disch := omega) only [upd, Nat.reduceEqDiff, ↓reduceIte, reduceCtorEq, e0, e1, e5]))
        have e5 : e' 5 = .t (.int .i64 n) := (he' 5).trans (by first | rfl | assumption | (simp (disch := omega) only [upd, Nat.reduceEqDiff, ↓reduceIte, reduceCtorEq]; done) | (simp (disch := omega) only [upd, Nat.reduceEqDiff, ↓reduceIte, reduceCtorEq, e0, e1, e5]))
        have e28 : e' 28 = .t (.bool true) := (he' 28).trans (by first | rfl | assumption | (simp (disch := omega) only [upd, Nat.reduceEqDiff, ↓reduceIte, reduceCtorEq]; done) | (simp (disch := omega) only [upd, Nat.reduceEqDiff, ↓reduceIte, reduceCtorEq, e0, e1, e5]))
        clear he'
        refine vcX_cut 13 fun K14 hK14 => ?_
        try simp (disch := omega) only [go_sem, ↓reduceIte, Nat.reduceEqDiff, reduceCtorEq, Nat.reduceAdd, Nat.reduceLeDiff, Nat.reduceMul, Int.reduceNeg, Int.reduceLT, Int.reduceAdd, Int.reduceSub, e0, e1, e5, e28, hcl, hdl, hcc, hcd, hq11, hq24, hq38]
        refine hK14 _ ?_
        refine vcX_gen fun e' he' => ?_
        have e0 : e' 0 = .t (.sl g cs) := (he' 0).trans (by first | rfl | assumption | (simp (disch := omega) only [upd, Nat.reduceEqDiff, ↓reduceIte, reduceCtorEq]; done) | (simp (disch := omega) only [upd, Nat.reduceEqDiff, ↓reduceIte, reduceCtorEq, e0, e1, e5, e28]))
        have e1 : e' 1 = .t (.sl g2 ds) := (he' 1).trans (by first | rfl | assumption | (simp (disch := omega) only [upd, Nat.reduceEqDiff, ↓reduceIte, reduceCtorEq]; done) | (simp (disch := omega) only [upd, Nat.reduceEqDiff, ↓reduceIte, reduceCtorEq, e0, e1, e5, e28]))
        have e5 : e' 5 = .t (.int .i64 n) := (he' 5).trans (by first | rfl | assumption | (simp (disch := omega) only [upd, Nat.reduceEqDiff, ↓reduceIte, reduceCtorEq]; done) | (simp (disch := omega) only [upd, Nat.reduceEqDiff, ↓reduceIte, reduceCtorEq, e0, e1, e5, e28]))
        have e41 : e' 41 = .t (.bool true) := (he' 41).trans (by first | rfl | assumption | (simp (disch := omega) only [upd, Nat.reduceEqDiff, ↓reduceIte, reduceCtorEq]; done) | (simp (disch := omega) only [upd, Nat.reduceEqDiff, ↓reduceIte, reduceCtorEq, e0, e1, e5, e28]))
        clear he'
        refine vcX_cut 14 fun K15 hK15 => ?_
        try simp (disch := omega) only [go_sem, ↓reduceIte, Nat.reduceEqDiff, reduceCtorEq, Nat.reduceAdd, Nat.reduceLeDiff, Nat.reduceMul, Int.reduceNeg, Int.reduceLT, Int.reduceAdd, Int.reduceSub, e0, e1, e5, e41, hcl, hdl, hcc, hcd, hq11, hq24, hq38]
        refine hK15 _ ?_
        refine vcX_gen fun e' he' => ?_
        have e0 : e' 0 = .t (.sl g cs) := (he' 0).trans (by first | rfl | assumption | (simp (disch := omega) only [upd, Nat.reduceEqDiff, ↓reduceIte, reduceCtorEq]; done) | (simp (disch := omega) only [upd, Nat.reduceEqDiff, ↓reduceIte, reduceCtorEq, e0, e1, e5, e41]))
        have e1 : e' 1 = .t (.sl g2 ds) := (he' 1).trans (by first | rfl | assumption | (simp (disch := omega) only [upd, Nat.reduceEqDiff, ↓reduceIte, reduceCtorEq]; done) | (simp (disch := omega) only [upd, Nat.reduceEqDiff, ↓reduceIte, reduceCtorEq, e0, e1, e5, e41]))
        have e5 : e' 5 = .t (.int .i64 n) := (he' 5).trans (by first | rfl | assumption | (simp (disch := omega) only [upd, Nat.reduceEqDiff, ↓reduceIte, reduceCtorEq]; done) | (simp (disch := omega) only [upd, Nat.reduceEqDiff, ↓reduceIte, reduceCtorEq, e0, e1, e5, e41]))
        have e55 : e' 55 = .t (.bool true) := (he' 55).trans (by first | rfl | assumption | (simp (disch := omega) only [upd, Nat.reduceEqDiff, ↓reduceIte, reduceCtorEq]; done) | (simp (disch := omega) only [upd, Nat.reduceEqDiff, ↓reduceIte, reduceCtorEq, e0, e1, e5, e41]))
        clear he'
        try simp (disch := omega) only [go_sem, ↓reduceIte, Nat.reduceEqDiff, reduceCtorEq, Nat.reduceAdd, Nat.reduceLeDiff, Nat.reduceMul, Int.reduceNeg, Int.reduceLT, Int.reduceAdd, Int.reduceSub, e0, e1, e5, e55, hcl, hdl, hcc, hcd, hq11, hq24, hq38]
        refine hK11 _ ?_
        refine vc_cond (t := _) (by first | rfl | (simp (disch := omega) only [go_sem, ↓reduceIte, Nat.reduceEqDiff, reduceCtorEq, Nat.reduceAdd, Nat.reduceLeDiff, Nat.reduceMul, Int.reduceNeg, Int.reduceLT, Int.reduceAdd, Int.reduceSub, e0, e1, e5, e55, hcl, hdl]; rfl)) (fun hc3 => ?_) (fun hc3 => ?_)
        · (try simp only [go_sem] at hc3)
          refine vc_seq fun K16 hK16 => ?_
          refine vc_reg ?_
          try simp (disch := omega) only [go_sem, ↓reduceIte, Nat.reduceEqDiff, reduceCtorEq, Nat.reduceAdd, Nat.reduceLeDiff, Nat.reduceMul, Int.reduceNeg, Int.reduceLT, Int.reduceAdd, Int.reduceSub, e0, e1, e5, e55, hcl, hdl]
          refine hK16 _ ?_
          refine vc_ret ?_
          refine ⟨_, by first | rfl | (simp only [go_sem, resQ, List.mapM_cons, List.mapM_nil, ↓reduceIte, Nat.reduceEqDiff, Nat.reduceAdd, Nat.reduceLeDiff, reduceCtorEq]; rfl), [], [], .nil, by simp, by simp, fun hi_ h1_ => ⟨?_, rfl, rfl⟩, by simp⟩
          first
          | (rw [he, List.drop_of_length_le (by omega), List.drop_of_length_le (by omega)]; rfl)
          | (have hq : Br.eqb (us[n]'(by omega)) (bs[n]'(by omega)) = false := by rw [Br.eqb]; simp_all
             rw [he, eql_drop (n := n) (by omega) (by omega), hq, Bool.false_and]; rfl)
        · exact absurd hc3 (by simp)
      · (try simp only [go_sem] at hb6_11)
        refine vcX_gen fun e' he' => ?_
        have e0 : e' 0 = .t (.sl g cs) := (he' 0).trans (by first | rfl | assumption | (simp (disch := omega) only [upd, Nat.reduceEqDiff, ↓reduceIte, reduceCtorEq]; done) | (simp (disch := omega) only [upd, Nat.reduceEqDiff, ↓reduceIte, reduceCtorEq, e0, e1, e5]))
        have e1 : e' 1 = .t (.sl g2 ds) := (he' 1).trans (by first | rfl | assumption | (simp (disch := omega) only [upd, Nat.reduceEqDiff, ↓reduceIte, reduceCtorEq]; done) | (simp (disch := omega) only [upd, Nat.reduceEqDiff, ↓reduceIte, reduceCtorEq, e0, e1, e5]))
        have e5 : e' 5 = .t (.int .i64 n) := (he' 5).trans (by first | rfl | assumption | (simp (disch := omega) only [upd, Nat.reduceEqDiff, ↓reduceIte, reduceCtorEq]; done) | (simp (disch := omega) only [upd, Nat.reduceEqDiff, ↓reduceIte, reduceCtorEq, e0, e1, e5]))
        have e28 : e' 28 = .t (.bool false) := (he' 28).trans (by first | rfl | assumption | (simp (disch := omega) only [upd, Nat.reduceEqDiff, ↓reduceIte, reduceCtorEq]; done) | (simp (disch := omega) only [upd, Nat.reduceEqDiff, ↓reduceIte, reduceCtorEq, e0, e1, e5]))
        clear he'
        refine vcX_cut 13 fun K17 hK17 => ?_
        try simp (disch := omega) only [go_sem, ↓reduceIte, Nat.reduceEqDiff, reduceCtorEq, Nat.reduceAdd, Nat.reduceLeDiff, Nat.reduceMul, Int.reduceNeg, Int.reduceLT, Int.reduceAdd, Int.reduceSub, e0, e1, e5, e28, hcl, hdl, hcc, hcd, hq11, hq24, hq38]
        refine hK17 _ ?_
        refine vcX_bool (fun hb6_24 => ?_) (fun hb6_24 => ?_)
        · (try simp only [go_sem] at hb6_24)
          refine vcX_gen fun e' he' => ?_
          have e0 : e' 0 = .t (.sl g cs) := (he' 0).trans (by first | rfl | assumption | (simp (disch := omega) only [upd, Nat.reduceEqDiff, ↓reduceIte, reduceCtorEq]; done) | (simp (disch := omega) only [upd, Nat.reduceEqDiff, ↓reduceIte, reduceCtorEq, e0, e1, e5, e28]))
          have e1 : e' 1 = .t (.sl g2 ds) := (he' 1).trans (by first | rfl | assumption | (simp (disch := omega) only [upd, Nat.reduceEqDiff, ↓reduceIte, reduceCtorEq]; done) | (simp (disch := omega) only [upd, Nat.reduceEqDiff, ↓reduceIte, reduceCtorEq, e0, e1, e5, e28]))
          have e5 : e' 5 = .t (.int .i64 n) := (he' 5).trans (by first | rfl | assumption | (simp (disch := omega) only [upd, Nat.reduceEqDiff, ↓reduceIte, reduceCtorEq]; done) | (simp (disch := omega) only [upd, Nat.reduceEqDiff, ↓reduceIte, reduceCtorEq, e0, e1, e5, e28]))
          have e41 : e' 41 = .t (.bool true) := (he' 41).trans (by first | rfl | assumption | (simp (disch := omega) only [upd, Nat.reduceEqDiff, ↓reduceIte, reduceCtorEq]; done) | (simp (disch := omega) only [upd, Nat.reduceEqDiff, ↓reduceIte, reduceCtorEq, e0, e1, e5, e28]))
          clear he'
          refine vcX_cut 14 fun K19 hK19 => ?_
          try simp (disch := omega) only [go_sem, ↓reduceIte, Nat.reduceEqDiff, reduceCtorEq, Nat.reduceAdd, Nat.reduceLeDiff, Nat.reduceMul, Int.reduceNeg, Int.reduceLT, Int.reduceAdd, Int.reduceSub, e0, e1, e5, e41, hcl, hdl, hcc, hcd, hq11, hq24, hq38]
          refine hK19 _ ?_
          refine vcX_gen fun e' he' => ?_
          have e0 : e' 0 = .t (.sl g cs) := (he' 0).trans (by first | rfl | assumption | (simp (disch := omega) only [upd, Nat.reduceEqDiff, ↓reduceIte, reduceCtorEq]; done) | (simp (disch := omega) only [upd, Nat.reduceEqDiff, ↓reduceIte, reduceCtorEq, e0, e1, e5, e41]))
          have e1 : e' 1 = .t (.sl g2 ds) := (he' 1).trans (by first | rfl | assumption | (simp (disch := omega) only [upd, Nat.reduceEqDiff, ↓reduceIte, reduceCtorEq]; done) | (simp (disch := omega) only [upd, Nat.reduceEqDiff, ↓reduceIte, reduceCtorEq, e0, e1, e5, e41]))
          have e5 : e' 5 = .t (.int .i64 n) := (he' 5).trans (by first | rfl | assumption | (simp (disch := omega) only [upd, Nat.reduceEqDiff, ↓reduceIte, reduceCtorEq]; done) | (simp (disch := omega) only [upd, Nat.reduceEqDiff, ↓reduceIte, reduceCtorEq, e0, e1, e5, e41]))
          have e55 : e' 55 = .t (.bool true) := (he' 55).trans (by first | rfl | assumption | (simp (disch := omega) only [upd, Nat.reduceEqDiff, ↓reduceIte, reduceCtorEq]; done) | (simp (disch := omega) only [upd, Nat.reduceEqDiff, ↓reduceIte, reduceCtorEq, e0, e1, e5, e41]))
          clear he'
          try simp (disch := omega) only [go_sem, ↓reduceIte, Nat.reduceEqDiff, reduceCtorEq, Nat.reduceAdd, Nat.reduceLeDiff, Nat.reduceMul, Int.reduceNeg, Int.reduceLT, Int.reduceAdd, Int.reduceSub, e0, e1, e5, e55, hcl, hdl, hcc, hcd, hq11, hq24, hq38]
          refine hK11 _ ?_
          refine vc_cond (t := _) (by first | rfl | (simp (disch := omega) only [go_sem, ↓reduceIte, Nat.reduceEqDiff, reduceCtorEq, Nat.reduceAdd, Nat.reduceLeDiff, Nat.reduceMul, Int.reduceNeg, Int.reduceLT, Int.reduceAdd, Int.reduceSub, e0, e1, e5, e55, hcl, hdl]; rfl)) (fun hc4 => ?_) (fun hc4 => ?_)
          · (try simp only [go_sem] at hc4)
            refine vc_seq fun K20 hK20 => ?_
            refine vc_reg ?_
            try simp (disch := omega) only [go_sem, ↓reduceIte, Nat.reduceEqDiff, reduceCtorEq, Nat.reduceAdd, Nat.reduceLeDiff, Nat.reduceMul, Int.reduceNeg, Int.reduceLT, Int.reduceAdd, Int.reduceSub, e0, e1, e5, e55, hcl, hdl]
            refine hK20 _ ?_
            refine vc_ret ?_
            refine ⟨_, by first | rfl | (simp only [go_sem, resQ, List.mapM_cons, List.mapM_nil, ↓reduceIte, Nat.reduceEqDiff, Nat.reduceAdd, Nat.reduceLeDiff, reduceCtorEq]; rfl), [], [], .nil, by simp, by simp, fun hi_ h1_ => ⟨?_, rfl, rfl⟩, by simp⟩
            first
            | (rw [he, List.drop_of_length_le (by omega), List.drop_of_length_le (by omega)]; rfl)
            | (have hq : Br.eqb (us[n]'(by omega)) (bs[n]'(by omega)) = false := by rw [Br.eqb]; simp_all
               rw [he, eql_drop (n := n) (by omega) (by omega), hq, Bool.false_and]; rfl)
          · exact absurd hc4 (by simp)
        · (try simp only [go_sem] at hb6_24)
          refine vcX_gen fun e' he' => ?_
          have e0 : e' 0 = .t (.sl g cs) := (he' 0).trans (by first | rfl | assumption | (simp (disch := omega) only [upd, Nat.reduceEqDiff, ↓reduceIte, reduceCtorEq]; done) | (simp (disch := omega) only [upd, Nat.reduceEqDiff, ↓reduceIte, reduceCtorEq, e0, e1, e5, e28]))
          have e1 : e' 1 = .t (.sl g2 ds) := (he' 1).trans (by first | rfl | assumption | (simp (disch := omega) only [upd, Nat.reduceEqDiff, ↓reduceIte, reduceCtorEq]; done) | (simp (disch := omega) only [upd, Nat.reduceEqDiff, ↓reduceIte, reduceCtorEq, e0, e1, e5, e28]))
          have e5 : e' 5 = .t (.int .i64 n) := (he' 5).trans (by first | rfl | assumption | (simp (disch := omega) only [upd, Nat.reduceEqDiff, ↓reduceIte, reduceCtorEq]; done) | (simp (disch := omega) only [upd, Nat.reduceEqDiff, ↓reduceIte, reduceCtorEq, e0, e1, e5, e28]))
          have e41 : e' 41 = .t (.bool false) := (he' 41).trans (by first | rfl | assumption | (simp (disch := omega) only [upd, Nat.reduceEqDiff, ↓reduceIte, reduceCtorEq]; done) | (simp (disch := omega) only [upd, Nat.reduceEqDiff, ↓reduceIte, reduceCtorEq, e0, e1, e5, e28]))
          clear he'
          refine vcX_cut 14 fun K21 hK21 => ?_
          try simp (disch := omega) only [go_sem, ↓reduceIte, Nat.reduceEqDiff, reduceCtorEq, Nat.reduceAdd, Nat.reduceLeDiff, Nat.reduceMul, Int.reduceNeg, Int.reduceLT, Int.reduceAdd, Int.reduceSub, e0, e1, e5, e41, hcl, hdl, hcc, hcd, hq11, hq24, hq38]
          refine vcX_call _ _ (spec_l5Texts _ _ us[n].ps bs[n].ps (by omega) (by omega)) (by first | rfl | (simp (disch := omega) only [go_sem, ↓reduceIte, Nat.reduceEqDiff, reduceCtorEq, Nat.reduceAdd, Nat.reduceLeDiff, Nat.reduceMul, Int.reduceNeg, Int.reduceLT, Int.reduceAdd, Int.reduceSub, e0, e1, e5, e41, hcl, hdl, hcc, hcd, hq11, hq24, hq38])) (by first | rfl | (simp (disch := omega) only [go_sem, ↓reduceIte, Nat.reduceEqDiff, reduceCtorEq, Nat.reduceAdd, Nat.reduceLeDiff, Nat.reduceMul, Int.reduceNeg, Int.reduceLT, Int.reduceAdd, Int.reduceSub, e0, e1, e5, e41, hcl, hdl, hcc, hcd, hq11, hq24, hq38])) (by first | rfl | simp [V.pures, V.pure, V.pures_t]) ?_
          rintro r6_35 h6_35 hh6_35 rfl -
          try simp (disch := omega) only [go_sem, ↓reduceIte, Nat.reduceEqDiff, reduceCtorEq, Nat.reduceAdd, Nat.reduceLeDiff, Nat.reduceMul, Int.reduceNeg, Int.reduceLT, Int.reduceAdd, Int.reduceSub, e0, e1, e5, e41, hcl, hdl, hcc, hcd, hq11, hq24, hq38]
          refine hK21 _ ?_
          refine vcX_bool (fun hb6_38 => ?_) (fun hb6_38 => ?_)
          · (try simp only [go_sem] at hb6_38)
            refine vcX_gen fun e' he' => ?_
            have e0 : e' 0 = .t (.sl g cs) := (he' 0).trans (by first | rfl | assumption | (simp (disch := omega) only [upd, Nat.reduceEqDiff, ↓reduceIte, reduceCtorEq]; done) | (simp (disch := omega) only [upd, Nat.reduceEqDiff, ↓reduceIte, reduceCtorEq, e0, e1, e5, e41]))
            have e1 : e' 1 = .t (.sl g2 ds) := (he' 1).trans (by first | rfl | assumption | (simp (disch := omega) only [upd, Nat.reduceEqDiff, ↓reduceIte, reduceCtorEq]; done) | (simp (disch := omega) only [upd, Nat.reduceEqDiff, ↓reduceIte, reduceCtorEq, e0, e1, e5, e41]))
            have e5 : e' 5 = .t (.int .i64 n) := (he' 5).trans (by first | rfl | assumption | (simp (disch := omega) only [upd, Nat.reduceEqDiff, ↓reduceIte, reduceCtorEq]; done) | (simp (disch := omega) only [upd, Nat.reduceEqDiff, ↓reduceIte, reduceCtorEq, e0, e1, e5, e41]))
            have e55 : e' 55 = .t (.bool true) := (he' 55).trans (by first | rfl | assumption | (simp (disch := omega) only [upd, Nat.reduceEqDiff, ↓reduceIte, reduceCtorEq]; done) | (simp (disch := omega) only [upd, Nat.reduceEqDiff, ↓reduceIte, reduceCtorEq, e0, e1, e5, e41]))
            clear he'
            try simp (disch := omega) only [go_sem, ↓reduceIte, Nat.reduceEqDiff, reduceCtorEq, Nat.reduceAdd, Nat.reduceLeDiff, Nat.reduceMul, Int.reduceNeg, Int.reduceLT, Int.reduceAdd, Int.reduceSub, e0, e1, e5, e55, hcl, hdl, hcc, hcd, hq11, hq24, hq38]
            refine hK11 _ ?_
            refine vc_cond (t := _) (by first | rfl | (simp (disch := omega) only [go_sem, ↓reduceIte, Nat.reduceEqDiff, reduceCtorEq, Nat.reduceAdd, Nat.reduceLeDiff, Nat.reduceMul, Int.reduceNeg, Int.reduceLT, Int.reduceAdd, Int.reduceSub, e0, e1, e5, e55, hcl, hdl]; rfl)) (fun hc5 => ?_) (fun hc5 => ?_)
            · (try simp only [go_sem] at hc5)
              refine vc_seq fun K23 hK23 => ?_
              refine vc_reg ?_
              try simp (disch := omega) only [go_sem, ↓reduceIte, Nat.reduceEqDiff, reduceCtorEq, Nat.reduceAdd, Nat.reduceLeDiff, Nat.reduceMul, Int.reduceNeg, Int.reduceLT, Int.reduceAdd, Int.reduceSub, e0, e1, e5, e55, hcl, hdl]
              refine hK23 _ ?_
              refine vc_ret ?_
              refine ⟨_, by first | rfl | (simp only [go_sem, resQ, List.mapM_cons, List.mapM_nil, ↓reduceIte, Nat.reduceEqDiff, Nat.reduceAdd, Nat.reduceLeDiff, reduceCtorEq]; rfl), [], [], .nil, by simp, by simp, fun hi_ h1_ => ⟨?_, rfl, rfl⟩, by simp⟩
              first
              | (rw [he, List.drop_of_length_le (by omega), List.drop_of_length_le (by omega)]; rfl)
              | (have hq : Br.eqb (us[n]'(by omega)) (bs[n]'(by omega)) = false := by rw [Br.eqb]; simp_all
                 rw [he, eql_drop (n := n) (by omega) (by omega), hq, Bool.false_and]; rfl)
            · exact absurd hc5 (by simp)
          · (try simp only [go_sem] at hb6_38)
            refine vcX_gen fun e' he' => ?_
            have e0 : e' 0 = .t (.sl g cs) := (he' 0).trans (by first | rfl | assumption | (simp (disch := omega) only [upd, Nat.reduceEqDiff, ↓reduceIte, reduceCtorEq]; done) | (simp (disch := omega) only [upd, Nat.reduceEqDiff, ↓reduceIte, reduceCtorEq, e0, e1, e5, e41]))
            have e1 : e' 1 = .t (.sl g2 ds) := (he' 1).trans (by first | rfl | assumption | (simp (disch := omega) only [upd, Nat.reduceEqDiff, ↓reduceIte, reduceCtorEq]; done) | (simp (disch := omega) only [upd, Nat.reduceEqDiff, ↓reduceIte, reduceCtorEq, e0, e1, e5, e41]))
            have e5 : e' 5 = .t (.int .i64 n) := (he' 5).trans (by first | rfl | assumption | (simp (disch := omega) only [upd, Nat.reduceEqDiff, ↓reduceIte, reduceCtorEq]; done) | (simp (disch := omega) only [upd, Nat.reduceEqDiff, ↓reduceIte, reduceCtorEq, e0, e1, e5, e41]))
            have e55 : e' 55 = .t (.bool false) := (he' 55).trans (by first | rfl | assumption | (simp (disch := omega) only [upd, Nat.reduceEqDiff, ↓reduceIte, reduceCtorEq]; done) | (simp (disch := omega) only [upd, Nat.reduceEqDiff, ↓reduceIte, reduceCtorEq, e0, e1, e5, e41]))
            clear he'
            try simp (disch := omega) only [go_sem, ↓reduceIte, Nat.reduceEqDiff, reduceCtorEq, Nat.reduceAdd, Nat.reduceLeDiff, Nat.reduceMul, Int.reduceNeg, Int.reduceLT, Int.reduceAdd, Int.reduceSub, e0, e1, e5, e55, hcl, hdl, hcc, hcd, hq11, hq24, hq38]
            refine vcX_call _ _ (spec_EqualExpr us[n].bd bs[n].bd _ _ hvc_ hvd_ (by omega) (by omega)) (by first | rfl | (simp (disch := omega) only [go_sem, ↓reduceIte, Nat.reduceEqDiff, reduceCtorEq, Nat.reduceAdd, Nat.reduceLeDiff, Nat.reduceMul, Int.reduceNeg, Int.reduceLT, Int.reduceAdd, Int.reduceSub, e0, e1, e5, e55, hcl, hdl, hcc, hcd, hq11, hq24, hq38])) (by first | rfl | (simp (disch := omega) only [go_sem, ↓reduceIte, Nat.reduceEqDiff, reduceCtorEq, Nat.reduceAdd, Nat.reduceLeDiff, Nat.reduceMul, Int.reduceNeg, Int.reduceLT, Int.reduceAdd, Int.reduceSub, e0, e1, e5, e55, hcl, hdl, hcc, hcd, hq11, hq24, hq38])) (by first | rfl | simp [V.pures, V.pure, V.pures_t]) ?_
            rintro r6_49 h6_49 hh6_49 rfl -
            try simp (disch := omega) only [go_sem, ↓reduceIte, Nat.reduceEqDiff, reduceCtorEq, Nat.reduceAdd, Nat.reduceLeDiff, Nat.reduceMul, Int.reduceNeg, Int.reduceLT, Int.reduceAdd, Int.reduceSub, e0, e1, e5, e55, hcl, hdl, hcc, hcd, hq11, hq24, hq38]
            refine hK11 _ ?_
            refine vc_cond (t := _) (by first | rfl | (simp (disch := omega) only [go_sem, ↓reduceIte, Nat.reduceEqDiff, reduceCtorEq, Nat.reduceAdd, Nat.reduceLeDiff, Nat.reduceMul, Int.reduceNeg, Int.reduceLT, Int.reduceAdd, Int.reduceSub, e0, e1, e5, e55, hcl, hdl]; rfl)) (fun hc6 => ?_) (fun hc6 => ?_)
            · (try simp only [go_sem] at hc6)
              refine vc_seq fun K24 hK24 => ?_
              refine vc_reg ?_
              try simp (disch := omega) only [go_sem, ↓reduceIte, Nat.reduceEqDiff, reduceCtorEq, Nat.reduceAdd, Nat.reduceLeDiff, Nat.reduceMul, Int.reduceNeg, Int.reduceLT, Int.reduceAdd, Int.reduceSub, e0, e1, e5, e55, hcl, hdl]
              refine hK24 _ ?_
              refine vc_ret ?_
              refine ⟨_, by first | rfl | (simp only [go_sem, resQ, List.mapM_cons, List.mapM_nil, ↓reduceIte, Nat.reduceEqDiff, Nat.reduceAdd, Nat.reduceLeDiff, reduceCtorEq]; rfl), [], [], .nil, by simp, by simp, fun hi_ h1_ => ⟨?_, rfl, rfl⟩, by simp⟩
              first
              | (rw [he, List.drop_of_length_le (by omega), List.drop_of_length_le (by omega)]; rfl)
              | (have hq : Br.eqb (us[n]'(by omega)) (bs[n]'(by omega)) = false := by rw [Br.eqb]; simp_all
                 rw [he, eql_drop (n := n) (by omega) (by omega), hq, Bool.false_and]; rfl)
            · (try simp only [go_sem] at hc6)
              refine vc_skip ?_
              refine hK10 _ ?_
              refine vc_reg ?_
              try simp (disch := omega) only [go_sem, ↓reduceIte, Nat.reduceEqDiff, reduceCtorEq, Nat.reduceAdd, Nat.reduceLeDiff, Nat.reduceMul, Int.reduceNeg, Int.reduceLT, Int.reduceAdd, Int.reduceSub, e0, e1, e5, e55, hcl, hdl]
              have hq : Br.eqb us[n] bs[n] = true := by rw [Br.eqb]; simp_all
              refine hK7 _ _ ?_ ⟨n + 1, rfl, rfl, (by first | rfl | assumption | (simp (disch := omega) only [go_sem, ↓reduceIte, Nat.reduceEqDiff, reduceCtorEq, Nat.reduceAdd, Nat.reduceLeDiff, Nat.reduceMul, Int.reduceNeg, Int.reduceLT, Int.reduceAdd, Int.reduceSub, e0, e1, e5, e55, hcl, hdl])), (by first | rfl | assumption | (simp (disch := omega) only [go_sem, ↓reduceIte, Nat.reduceEqDiff, reduceCtorEq, Nat.reduceAdd, Nat.reduceLeDiff, Nat.reduceMul, Int.reduceNeg, Int.reduceLT, Int.reduceAdd, Int.reduceSub, e0, e1, e5, e55, hcl, hdl])), (by first | rfl | assumption | (simp (disch := omega) only [go_sem, ↓reduceIte, Nat.reduceEqDiff, reduceCtorEq, Nat.reduceAdd, Nat.reduceLeDiff, Nat.reduceMul, Int.reduceNeg, Int.reduceLT, Int.reduceAdd, Int.reduceSub, e0, e1, e5, e55, hcl, hdl])), ?_, ?_, ?_⟩
              · omega
              · first | omega | assumption | rfl | simp_all
              · first | omega | assumption | rfl | simp_all
              · rw [he, eql_drop (n := n) (by omega) (by omega), hq, Bool.true_and]
    · (try simp only [go_sem] at hc2)
      refine vc_exit ?_
      refine hK5 _ ?_
      refine vc_seq fun K25 hK25 => ?_
      refine vc_reg ?_
      try simp (disch := omega) only [go_sem, ↓reduceIte, Nat.reduceEqDiff, reduceCtorEq, Nat.reduceAdd, Nat.reduceLeDiff, Nat.reduceMul, Int.reduceNeg, Int.reduceLT, Int.reduceAdd, Int.reduceSub, e0, e1, e5, hcl, hdl]
      refine hK25 _ ?_
      refine vc_ret ?_
      refine ⟨_, by first | rfl | (simp only [go_sem, resQ, List.mapM_cons, List.mapM_nil, ↓reduceIte, Nat.reduceEqDiff, Nat.reduceAdd, Nat.reduceLeDiff, reduceCtorEq]; rfl), [], [], .nil, by simp, by simp, fun hi_ h1_ => ⟨?_, rfl, rfl⟩, by simp⟩
      first
      | (rw [he, List.drop_of_length_le (by omega), List.drop_of_length_le (by omega)]; rfl)
      | (have hq : Br.eqb (us[n]'(by omega)) (bs[n]'(by omega)) = false := by rw [Br.eqb]; simp_all
         rw [he, eql_drop (n := n) (by omega) (by omega), hq, Bool.false_and]; rfl)

/-- laws.FnExactEqualBranches -/
theorem laws_FnExactEqualBranches (g g2 : Nat) (us bs : List Br) (cs ds : List (List T)) (ha : Rl Br.rep us cs) (hb : Rl Br.rep bs ds) (hl : us.length ≤ reachBytes) (hl2 : bs.length ≤ reachBytes) (hs : ∀ b ∈ us, b.small) (hs2 : ∀ b ∈ bs, b.small) : FCtr Try.prog 3 [.t (.sl g cs), .t (.sl g2 ds)] (fun r => r = .t (.bool true)) := by
  have reach := reach47
  have hl1_ := wl_len Br.wt us
  have hl2_ := wl_len Br.wt bs
  refine Ctr.of_vc (rs := [.tmp 4]) (fn := Try.f3) mixed Try.func3 rfl rfl (by kernel_rfl) (by kernel_rfl) (by simp [Try.ntmps3]) (fun h0 => ?_)
  refine vc_seq fun K1 hK1 => ?_
  refine vc_reg ?_
  try simp (disch := omega) only [go_sem, ↓reduceIte, Nat.reduceEqDiff, reduceCtorEq, Nat.reduceAdd, Nat.reduceLeDiff, Nat.reduceMul, Int.reduceNeg, Int.reduceLT, Int.reduceAdd, Int.reduceSub]
  refine hK1 _ ?_
  refine vc_seq fun K2 hK2 => ?_
  refine vc_reg ?_
  try simp (disch := omega) only [go_sem, ↓reduceIte, Nat.reduceEqDiff, reduceCtorEq, Nat.reduceAdd, Nat.reduceLeDiff, Nat.reduceMul, Int.reduceNeg, Int.reduceLT, Int.reduceAdd, Int.reduceSub]
  refine hK2 _ ?_
  refine vc_seq fun K3 hK3 => ?_
  refine vc_reg ?_
  try simp (disch := omega) only [go_sem, ↓reduceIte, Nat.reduceEqDiff, reduceCtorEq, Nat.reduceAdd, Nat.reduceLeDiff, Nat.reduceMul, Int.reduceNeg, Int.reduceLT, Int.reduceAdd, Int.reduceSub]
  refine vcX_call _ _ (laws_szBranchS g us cs 1048576 ha hl (by omega) (fun a ha c N h1 h2 => laws_szBranch a c N h1 (hs a ha) h2)) (by first | rfl | (simp (disch := omega) only [go_sem, ↓reduceIte, Nat.reduceEqDiff, reduceCtorEq, Nat.reduceAdd, Nat.reduceLeDiff, Nat.reduceMul, Int.reduceNeg, Int.reduceLT, Int.reduceAdd, Int.reduceSub])) (by first | rfl | (simp (disch := omega) only [go_sem, ↓reduceIte, Nat.reduceEqDiff, reduceCtorEq, Nat.reduceAdd, Nat.reduceLeDiff, Nat.reduceMul, Int.reduceNeg, Int.reduceLT, Int.reduceAdd, Int.reduceSub])) (by first | rfl | simp [V.pures, V.pure, V.pures_t]) ?_
  rintro r2_2 h2_2 hh2_2 ⟨m, rfl, hm⟩ -
  try simp (disch := omega) only [go_sem, ↓reduceIte, Nat.reduceEqDiff, reduceCtorEq, Nat.reduceAdd, Nat.reduceLeDiff, Nat.reduceMul, Int.reduceNeg, Int.reduceLT, Int.reduceAdd, Int.reduceSub]
  refine hK3 _ ?_
  refine vc_seq fun K4 hK4 => ?_
  refine vc_seq fun K5 hK5 => ?_
  refine vc_reg ?_
  try simp (disch := omega) only [go_sem, ↓reduceIte, Nat.reduceEqDiff, reduceCtorEq, Nat.reduceAdd, Nat.reduceLeDiff, Nat.reduceMul, Int.reduceNeg, Int.reduceLT, Int.reduceAdd, Int.reduceSub]
  refine hK5 _ ?_
  refine vc_cond (t := _) (by first | rfl | (simp (disch := omega) only [go_sem, ↓reduceIte, Nat.reduceEqDiff, reduceCtorEq, Nat.reduceAdd, Nat.reduceLeDiff, Nat.reduceMul, Int.reduceNeg, Int.reduceLT, Int.reduceAdd, Int.reduceSub]; rfl)) (fun hc1 => ?_) (fun hc1 => ?_)
  · (try simp only [go_sem] at hc1)
    refine vc_seq fun K6 hK6 => ?_
    refine vc_reg ?_
    try simp (disch := omega) only [go_sem, ↓reduceIte, Nat.reduceEqDiff, reduceCtorEq, Nat.reduceAdd, Nat.reduceLeDiff, Nat.reduceMul, Int.reduceNeg, Int.reduceLT, Int.reduceAdd, Int.reduceSub]
    refine hK6 _ ?_
    refine vc_ret ?_
    refine ⟨_, by first | rfl | (simp only [go_sem, resQ, List.mapM_cons, List.mapM_nil, ↓reduceIte, Nat.reduceEqDiff, Nat.reduceAdd, Nat.reduceLeDiff, reduceCtorEq]; rfl), [], [], .nil, by simp, by simp, fun hi_ h1_ => ⟨?_, rfl, rfl⟩, by simp⟩
    first | rfl | simp_all
  · (try simp only [go_sem] at hc1)
    refine vc_skip ?_
    refine hK4 _ ?_
    refine vc_seq fun K7 hK7 => ?_
    refine vc_reg ?_
    try simp (disch := omega) only [go_sem, ↓reduceIte, Nat.reduceEqDiff, reduceCtorEq, Nat.reduceAdd, Nat.reduceLeDiff, Nat.reduceMul, Int.reduceNeg, Int.reduceLT, Int.reduceAdd, Int.reduceSub]
    refine vcX_call _ _ (laws_szBranchS g2 bs ds m hb hl2 (by omega) (fun a ha c N h1 h2 => laws_szBranch a c N h1 (hs2 a ha) h2)) (by first | rfl | (simp (disch := omega) only [go_sem, ↓reduceIte, Nat.reduceEqDiff, reduceCtorEq, Nat.reduceAdd, Nat.reduceLeDiff, Nat.reduceMul, Int.reduceNeg, Int.reduceLT, Int.reduceAdd, Int.reduceSub])) (by first | rfl | (simp (disch := omega) only [go_sem, ↓reduceIte, Nat.reduceEqDiff, reduceCtorEq, Nat.reduceAdd, Nat.reduceLeDiff, Nat.reduceMul, Int.reduceNeg, Int.reduceLT, Int.reduceAdd, Int.reduceSub])) (by first | rfl | simp [V.pures, V.pure, V.pures_t]) ?_
    rintro r5_2 h5_2 hh5_2 ⟨m2, rfl, hm2⟩ -
    try simp (disch := omega) only [go_sem, ↓reduceIte, Nat.reduceEqDiff, reduceCtorEq, Nat.reduceAdd, Nat.reduceLeDiff, Nat.reduceMul, Int.reduceNeg, Int.reduceLT, Int.reduceAdd, Int.reduceSub]
    refine hK7 _ ?_
    refine vc_seq fun K8 hK8 => ?_
    refine vc_seq fun K9 hK9 => ?_
    refine vc_reg ?_
    try simp (disch := omega) only [go_sem, ↓reduceIte, Nat.reduceEqDiff, reduceCtorEq, Nat.reduceAdd, Nat.reduceLeDiff, Nat.reduceMul, Int.reduceNeg, Int.reduceLT, Int.reduceAdd, Int.reduceSub]
    refine hK9 _ ?_
    refine vc_cond (t := _) (by first | rfl | (simp (disch := omega) only [go_sem, ↓reduceIte, Nat.reduceEqDiff, reduceCtorEq, Nat.reduceAdd, Nat.reduceLeDiff, Nat.reduceMul, Int.reduceNeg, Int.reduceLT, Int.reduceAdd, Int.reduceSub]; rfl)) (fun hc2 => ?_) (fun hc2 => ?_)
    · (try simp only [go_sem] at hc2)
      refine vc_seq fun K10 hK10 => ?_
      refine vc_reg ?_
      try simp (disch := omega) only [go_sem, ↓reduceIte, Nat.reduceEqDiff, reduceCtorEq, Nat.reduceAdd, Nat.reduceLeDiff, Nat.reduceMul, Int.reduceNeg, Int.reduceLT, Int.reduceAdd, Int.reduceSub]
      refine hK10 _ ?_
      refine vc_ret ?_
      refine ⟨_, by first | rfl | (simp only [go_sem, resQ, List.mapM_cons, List.mapM_nil, ↓reduceIte, Nat.reduceEqDiff, Nat.reduceAdd, Nat.reduceLeDiff, reduceCtorEq]; rfl), [], [], .nil, by simp, by simp, fun hi_ h1_ => ⟨?_, rfl, rfl⟩, by simp⟩
      first | rfl | simp_all
    · (try simp only [go_sem] at hc2)
      have hw : wl Br.wt us ≤ 1048576 := by omega
      have hw2 : wl Br.wt bs ≤ 1048576 := by omega
      refine vc_skip ?_
      refine hK8 _ ?_
      refine vc_seq fun K11 hK11 => ?_
      refine vc_reg ?_
      try simp (disch := omega) only [go_sem, ↓reduceIte, Nat.reduceEqDiff, reduceCtorEq, Nat.reduceAdd, Nat.reduceLeDiff, Nat.reduceMul, Int.reduceNeg, Int.reduceLT, Int.reduceAdd, Int.reduceSub]
      refine vcX_call _ _ (laws_toBranchS g us cs ha (by omega) (fun a ha c h1 => laws_toBranch a c h1 (by have := wl_mem (f := Br.wt) ha; omega))) (by first | rfl | (simp (disch := omega) only [go_sem, ↓reduceIte, Nat.reduceEqDiff, reduceCtorEq, Nat.reduceAdd, Nat.reduceLeDiff, Nat.reduceMul, Int.reduceNeg, Int.reduceLT, Int.reduceAdd, Int.reduceSub])) (by first | rfl | (simp (disch := omega) only [go_sem, ↓reduceIte, Nat.reduceEqDiff, reduceCtorEq, Nat.reduceAdd, Nat.reduceLeDiff, Nat.reduceMul, Int.reduceNeg, Int.reduceLT, Int.reduceAdd, Int.reduceSub])) (by first | rfl | simp [V.pures, V.pure, V.pures_t]) ?_
      rintro r8_1 h8_1 hh8_1 ⟨g81, c1, rfl, hc1_⟩ -
      try simp (disch := omega) only [go_sem, ↓reduceIte, Nat.reduceEqDiff, reduceCtorEq, Nat.reduceAdd, Nat.reduceLeDiff, Nat.reduceMul, Int.reduceNeg, Int.reduceLT, Int.reduceAdd, Int.reduceSub]
      refine vcX_call _ _ (laws_toBranchS g2 bs ds hb (by omega) (fun a ha c h1 => laws_toBranch a c h1 (by have := wl_mem (f := Br.wt) ha; omega))) (by first | rfl | (simp (disch := omega) only [go_sem, ↓reduceIte, Nat.reduceEqDiff, reduceCtorEq, Nat.reduceAdd, Nat.reduceLeDiff, Nat.reduceMul, Int.reduceNeg, Int.reduceLT, Int.reduceAdd, Int.reduceSub])) (by first | rfl | (simp (disch := omega) only [go_sem, ↓reduceIte, Nat.reduceEqDiff, reduceCtorEq, Nat.reduceAdd, Nat.reduceLeDiff, Nat.reduceMul, Int.reduceNeg, Int.reduceLT, Int.reduceAdd, Int.reduceSub])) (by first | rfl | simp [V.pures, V.pure, V.pures_t]) ?_
      rintro r8_3 h8_3 hh8_3 ⟨g83, d1, rfl, hd1_⟩ -
      try simp (disch := omega) only [go_sem, ↓reduceIte, Nat.reduceEqDiff, reduceCtorEq, Nat.reduceAdd, Nat.reduceLeDiff, Nat.reduceMul, Int.reduceNeg, Int.reduceLT, Int.reduceAdd, Int.reduceSub]
      refine vcX_call _ _ (spec_EqualBranches _ _ us bs _ _ hc1_ hd1_ hw hw2) (by first | rfl | (simp (disch := omega) only [go_sem, ↓reduceIte, Nat.reduceEqDiff, reduceCtorEq, Nat.reduceAdd, Nat.reduceLeDiff, Nat.reduceMul, Int.reduceNeg, Int.reduceLT, Int.reduceAdd, Int.reduceSub])) (by first | rfl | (simp (disch := omega) only [go_sem, ↓reduceIte, Nat.reduceEqDiff, reduceCtorEq, Nat.reduceAdd, Nat.reduceLeDiff, Nat.reduceMul, Int.reduceNeg, Int.reduceLT, Int.reduceAdd, Int.reduceSub])) (by first | rfl | simp [V.pures, V.pure, V.pures_t]) ?_
      rintro r8_4 h8_4 hh8_4 rfl -
      try simp (disch := omega) only [go_sem, ↓reduceIte, Nat.reduceEqDiff, reduceCtorEq, Nat.reduceAdd, Nat.reduceLeDiff, Nat.reduceMul, Int.reduceNeg, Int.reduceLT, Int.reduceAdd, Int.reduceSub]
      refine hK11 _ ?_
      refine vc_seq fun K12 hK12 => ?_
      refine vc_reg ?_
      try simp (disch := omega) only [go_sem, ↓reduceIte, Nat.reduceEqDiff, reduceCtorEq, Nat.reduceAdd, Nat.reduceLeDiff, Nat.reduceMul, Int.reduceNeg, Int.reduceLT, Int.reduceAdd, Int.reduceSub]
      refine vcX_call _ _ (laws_toBranchS g us cs ha (by omega) (fun a ha c h1 => laws_toBranch a c h1 (by have := wl_mem (f := Br.wt) ha; omega))) (by first | rfl | (simp (disch := omega) only [go_sem, ↓reduceIte, Nat.reduceEqDiff, reduceCtorEq, Nat.reduceAdd, Nat.reduceLeDiff, Nat.reduceMul, Int.reduceNeg, Int.reduceLT, Int.reduceAdd, Int.reduceSub])) (by first | rfl | (simp (disch := omega) only [go_sem, ↓reduceIte, Nat.reduceEqDiff, reduceCtorEq, Nat.reduceAdd, Nat.reduceLeDiff, Nat.reduceMul, Int.reduceNeg, Int.reduceLT, Int.reduceAdd, Int.reduceSub])) (by first | rfl | simp [V.pures, V.pure, V.pures_t]) ?_
      rintro r9_1 h9_1 hh9_1 ⟨g91, c2, rfl, hc2_⟩ -
      try simp (disch := omega) only [go_sem, ↓reduceIte, Nat.reduceEqDiff, reduceCtorEq, Nat.reduceAdd, Nat.reduceLeDiff, Nat.reduceMul, Int.reduceNeg, Int.reduceLT, Int.reduceAdd, Int.reduceSub]
      refine hK12 _ ?_
      refine vc_seq fun K13 hK13 => ?_
      refine vc_reg ?_
      try simp (disch := omega) only [go_sem, ↓reduceIte, Nat.reduceEqDiff, reduceCtorEq, Nat.reduceAdd, Nat.reduceLeDiff, Nat.reduceMul, Int.reduceNeg, Int.reduceLT, Int.reduceAdd, Int.reduceSub]
      refine vcX_call _ _ (laws_toBranchS g2 bs ds hb (by omega) (fun a ha c h1 => laws_toBranch a c h1 (by have := wl_mem (f := Br.wt) ha; omega))) (by first | rfl | (simp (disch := omega) only [go_sem, ↓reduceIte, Nat.reduceEqDiff, reduceCtorEq, Nat.reduceAdd, Nat.reduceLeDiff, Nat.reduceMul, Int.reduceNeg, Int.reduceLT, Int.reduceAdd, Int.reduceSub])) (by first | rfl | (simp (disch := omega) only [go_sem, ↓reduceIte, Nat.reduceEqDiff, reduceCtorEq, Nat.reduceAdd, Nat.reduceLeDiff, Nat.reduceMul, Int.reduceNeg, Int.reduceLT, Int.reduceAdd, Int.reduceSub])) (by first | rfl | simp [V.pures, V.pure, V.pures_t]) ?_
      rintro r10_1 h10_1 hh10_1 ⟨g101, d2, rfl, hd2_⟩ -
      try simp (disch := omega) only [go_sem, ↓reduceIte, Nat.reduceEqDiff, reduceCtorEq, Nat.reduceAdd, Nat.reduceLeDiff, Nat.reduceMul, Int.reduceNeg, Int.reduceLT, Int.reduceAdd, Int.reduceSub]
      refine hK13 _ ?_
      refine vc_seq fun K14 hK14 => ?_
      refine vc_reg ?_
      try simp (disch := omega) only [go_sem, ↓reduceIte, Nat.reduceEqDiff, reduceCtorEq, Nat.reduceAdd, Nat.reduceLeDiff, Nat.reduceMul, Int.reduceNeg, Int.reduceLT, Int.reduceAdd, Int.reduceSub]
      refine vcX_call _ _ (impl_EqualBranches _ _ us bs _ _ hc2_ hd2_ hw hw2) (by first | rfl | (simp (disch := omega) only [go_sem, ↓reduceIte, Nat.reduceEqDiff, reduceCtorEq, Nat.reduceAdd, Nat.reduceLeDiff, Nat.reduceMul, Int.reduceNeg, Int.reduceLT, Int.reduceAdd, Int.reduceSub])) (by first | rfl | (simp (disch := omega) only [go_sem, ↓reduceIte, Nat.reduceEqDiff, reduceCtorEq, Nat.reduceAdd, Nat.reduceLeDiff, Nat.reduceMul, Int.reduceNeg, Int.reduceLT, Int.reduceAdd, Int.reduceSub])) (by first | rfl | simp [V.pures, V.pure, V.pures_t]) ?_
      rintro r11_2 h11_2 hh11_2 rfl -
      try simp (disch := omega) only [go_sem, ↓reduceIte, Nat.reduceEqDiff, reduceCtorEq, Nat.reduceAdd, Nat.reduceLeDiff, Nat.reduceMul, Int.reduceNeg, Int.reduceLT, Int.reduceAdd, Int.reduceSub]
      refine hK14 _ ?_
      refine vc_seq fun K15 hK15 => ?_
      refine vc_seq fun K16 hK16 => ?_
      refine vc_reg ?_
      try simp (disch := omega) only [go_sem, ↓reduceIte, Nat.reduceEqDiff, reduceCtorEq, Nat.reduceAdd, Nat.reduceLeDiff, Nat.reduceMul, Int.reduceNeg, Int.reduceLT, Int.reduceAdd, Int.reduceSub]
      refine hK16 _ ?_
      refine vc_cond (t := _) (by first | rfl | (simp (disch := omega) only [go_sem, ↓reduceIte, Nat.reduceEqDiff, reduceCtorEq, Nat.reduceAdd, Nat.reduceLeDiff, Nat.reduceMul, Int.reduceNeg, Int.reduceLT, Int.reduceAdd, Int.reduceSub]; rfl)) (fun hc3 => ?_) (fun hc3 => ?_)
      · exact absurd hc3 (by simp)
      · (try simp only [go_sem] at hc3)
        refine vc_skip ?_
        refine hK15 _ ?_
        refine vc_seq fun K17 hK17 => ?_
        refine vc_seq fun K18 hK18 => ?_
        refine vc_reg ?_
        try simp (disch := omega) only [go_sem, ↓reduceIte, Nat.reduceEqDiff, reduceCtorEq, Nat.reduceAdd, Nat.reduceLeDiff, Nat.reduceMul, Int.reduceNeg, Int.reduceLT, Int.reduceAdd, Int.reduceSub]
        refine vcX_call _ _ (laws_toBranchS g us cs ha (by omega) (fun a ha c h1 => laws_toBranch a c h1 (by have := wl_mem (f := Br.wt) ha; omega))) (by first | rfl | (simp (disch := omega) only [go_sem, ↓reduceIte, Nat.reduceEqDiff, reduceCtorEq, Nat.reduceAdd, Nat.reduceLeDiff, Nat.reduceMul, Int.reduceNeg, Int.reduceLT, Int.reduceAdd, Int.reduceSub])) (by first | rfl | (simp (disch := omega) only [go_sem, ↓reduceIte, Nat.reduceEqDiff, reduceCtorEq, Nat.reduceAdd, Nat.reduceLeDiff, Nat.reduceMul, Int.reduceNeg, Int.reduceLT, Int.reduceAdd, Int.reduceSub])) (by first | rfl | simp [V.pures, V.pure, V.pures_t]) ?_
        rintro r14_2 h14_2 hh14_2 ⟨g142, c3, rfl, hc3_⟩ -
        try simp (disch := omega) only [go_sem, ↓reduceIte, Nat.reduceEqDiff, reduceCtorEq, Nat.reduceAdd, Nat.reduceLeDiff, Nat.reduceMul, Int.reduceNeg, Int.reduceLT, Int.reduceAdd, Int.reduceSub]
        refine vcX_call _ _ (laws_eqBranchS _ _ us us _ _ hc2_ hc3_ (by omega) (by omega) (fun a ha b hb c d h1 h2 => laws_eqBranch a b c d h1 h2 (by have := wl_mem (f := Br.wt) ha; omega) (by have := wl_mem (f := Br.wt) hb; omega))) (by first | rfl | (simp (disch := omega) only [go_sem, ↓reduceIte, Nat.reduceEqDiff, reduceCtorEq, Nat.reduceAdd, Nat.reduceLeDiff, Nat.reduceMul, Int.reduceNeg, Int.reduceLT, Int.reduceAdd, Int.reduceSub])) (by first | rfl | (simp (disch := omega) only [go_sem, ↓reduceIte, Nat.reduceEqDiff, reduceCtorEq, Nat.reduceAdd, Nat.reduceLeDiff, Nat.reduceMul, Int.reduceNeg, Int.reduceLT, Int.reduceAdd, Int.reduceSub])) (by first | rfl | simp [V.pures, V.pure, V.pures_t]) ?_
        rintro r14_3 h14_3 hh14_3 rfl -
        try simp (disch := omega) only [go_sem, ↓reduceIte, Nat.reduceEqDiff, reduceCtorEq, Nat.reduceAdd, Nat.reduceLeDiff, Nat.reduceMul, Int.reduceNeg, Int.reduceLT, Int.reduceAdd, Int.reduceSub, eql_self Br.eqb_self]
        refine hK18 _ ?_
        refine vc_cond (t := _) (by first | rfl | (simp (disch := omega) only [go_sem, ↓reduceIte, Nat.reduceEqDiff, reduceCtorEq, Nat.reduceAdd, Nat.reduceLeDiff, Nat.reduceMul, Int.reduceNeg, Int.reduceLT, Int.reduceAdd, Int.reduceSub]; rfl)) (fun hc4 => ?_) (fun hc4 => ?_)
        · exact absurd hc4 (by simp)
        · (try simp only [go_sem] at hc4)
          refine vc_skip ?_
          refine hK17 _ ?_
          refine vc_seq fun K19 hK19 => ?_
          refine vc_seq fun K20 hK20 => ?_
          refine vc_reg ?_
          try simp (disch := omega) only [go_sem, ↓reduceIte, Nat.reduceEqDiff, reduceCtorEq, Nat.reduceAdd, Nat.reduceLeDiff, Nat.reduceMul, Int.reduceNeg, Int.reduceLT, Int.reduceAdd, Int.reduceSub]
          refine vcX_call _ _ (laws_toBranchS g2 bs ds hb (by omega) (fun a ha c h1 => laws_toBranch a c h1 (by have := wl_mem (f := Br.wt) ha; omega))) (by first | rfl | (simp (disch := omega) only [go_sem, ↓reduceIte, Nat.reduceEqDiff, reduceCtorEq, Nat.reduceAdd, Nat.reduceLeDiff, Nat.reduceMul, Int.reduceNeg, Int.reduceLT, Int.reduceAdd, Int.reduceSub])) (by first | rfl | (simp (disch := omega) only [go_sem, ↓reduceIte, Nat.reduceEqDiff, reduceCtorEq, Nat.reduceAdd, Nat.reduceLeDiff, Nat.reduceMul, Int.reduceNeg, Int.reduceLT, Int.reduceAdd, Int.reduceSub])) (by first | rfl | simp [V.pures, V.pure, V.pures_t]) ?_
          rintro r16_2 h16_2 hh16_2 ⟨g162, d3, rfl, hd3_⟩ -
          try simp (disch := omega) only [go_sem, ↓reduceIte, Nat.reduceEqDiff, reduceCtorEq, Nat.reduceAdd, Nat.reduceLeDiff, Nat.reduceMul, Int.reduceNeg, Int.reduceLT, Int.reduceAdd, Int.reduceSub]
          refine vcX_call _ _ (laws_eqBranchS _ _ bs bs _ _ hd2_ hd3_ (by omega) (by omega) (fun a ha b hb c d h1 h2 => laws_eqBranch a b c d h1 h2 (by have := wl_mem (f := Br.wt) ha; omega) (by have := wl_mem (f := Br.wt) hb; omega))) (by first | rfl | (simp (disch := omega) only [go_sem, ↓reduceIte, Nat.reduceEqDiff, reduceCtorEq, Nat.reduceAdd, Nat.reduceLeDiff, Nat.reduceMul, Int.reduceNeg, Int.reduceLT, Int.reduceAdd, Int.reduceSub])) (by first | rfl | (simp (disch := omega) only [go_sem, ↓reduceIte, Nat.reduceEqDiff, reduceCtorEq, Nat.reduceAdd, Nat.reduceLeDiff, Nat.reduceMul, Int.reduceNeg, Int.reduceLT, Int.reduceAdd, Int.reduceSub])) (by first | rfl | simp [V.pures, V.pure, V.pures_t]) ?_
          rintro r16_3 h16_3 hh16_3 rfl -
          try simp (disch := omega) only [go_sem, ↓reduceIte, Nat.reduceEqDiff, reduceCtorEq, Nat.reduceAdd, Nat.reduceLeDiff, Nat.reduceMul, Int.reduceNeg, Int.reduceLT, Int.reduceAdd, Int.reduceSub, eql_self Br.eqb_self]
          refine hK20 _ ?_
          refine vc_cond (t := _) (by first | rfl | (simp (disch := omega) only [go_sem, ↓reduceIte, Nat.reduceEqDiff, reduceCtorEq, Nat.reduceAdd, Nat.reduceLeDiff, Nat.reduceMul, Int.reduceNeg, Int.reduceLT, Int.reduceAdd, Int.reduceSub]; rfl)) (fun hc5 => ?_) (fun hc5 => ?_)
          · exact absurd hc5 (by simp)
          · (try simp only [go_sem] at hc5)
            refine vc_skip ?_
            refine hK19 _ ?_
            refine vc_seq fun K21 hK21 => ?_
            refine vc_reg ?_
            try simp (disch := omega) only [go_sem, ↓reduceIte, Nat.reduceEqDiff, reduceCtorEq, Nat.reduceAdd, Nat.reduceLeDiff, Nat.reduceMul, Int.reduceNeg, Int.reduceLT, Int.reduceAdd, Int.reduceSub]
            refine hK21 _ ?_
            refine vc_ret ?_
            refine ⟨_, by first | rfl | (simp only [go_sem, resQ, List.mapM_cons, List.mapM_nil, ↓reduceIte, Nat.reduceEqDiff, Nat.reduceAdd, Nat.reduceLeDiff, reduceCtorEq]; rfl), [], [], .nil, by simp, by simp, fun hi_ h1_ => ⟨?_, rfl, rfl⟩, by simp⟩
            first | rfl | simp_all
end Go.Proofs.Ytlnfbkalpdicmaa
