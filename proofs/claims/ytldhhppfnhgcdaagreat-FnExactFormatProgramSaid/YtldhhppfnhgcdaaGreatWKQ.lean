/- Walks through the code: each function's contract. -/
import Derived.Test.YtldhhppfnhgcdaaGreatWJQ
set_option linter.unusedVariables false
set_option linter.unusedSimpArgs false
set_option maxRecDepth 8000
namespace Go.Proofs.YtldhhppfnhgcdaaGreat
open Go Go.VL

end Go.Proofs.YtldhhppfnhgcdaaGreat
namespace Go.VL
/-- A rule. -/
structure Ru where
  nm : ByteArray
  cn : ByteArray
  vs : List ByteArray
  ps : List ByteArray
  bd : E
def Ru.rep (x : Ru) (c : List T) : Prop := ∃ (g1 g2 : Nat) (ce : List T), c = [.str x.nm, .str x.cn, .sl g1 (x.vs.map fun s => [T.str s]), .sl g2 (x.ps.map fun s => [T.str s])] ++ ce ∧ x.bd.rep ce
def Ru.wt (x : Ru) : Nat := x.nm.size + x.cn.size + (x.vs.length + sumB x.vs) + (x.ps.length + sumB x.ps) + x.bd.wt
def Ru.small (x : Ru) : Prop := x.nm.size ≤ reachBytes ∧ x.cn.size ≤ reachBytes ∧ (x.vs.length ≤ reachBytes ∧ ∀ s ∈ x.vs, s.size ≤ reachBytes) ∧ (x.ps.length ≤ reachBytes ∧ ∀ s ∈ x.ps, s.size ≤ reachBytes) ∧ x.bd.small
def Ru.eqb (a b : Ru) : Bool := decide (a.nm = b.nm) && (decide (a.cn = b.cn) && (decide (a.vs = b.vs) && (decide (a.ps = b.ps) && E.eqb a.bd b.bd)))
theorem Ru.eqb_self (a : Ru) : Ru.eqb a a = true := by rw [Ru.eqb, E.eqb_self, decide_eq_true rfl, decide_eq_true rfl, decide_eq_true rfl, decide_eq_true rfl]; rfl
theorem Ru.cells {x : Ru} {c : List T} (h : x.rep c) : ∃ (g1 g2 : Nat) (k : Int) (n : ByteArray) (g : Nat) (cs : List (List T)), c = [.str x.nm, .str x.cn, .sl g1 (x.vs.map fun s => [T.str s]), .sl g2 (x.ps.map fun s => [T.str s]), .int .i64 k, .str n, .sl g cs] ∧ x.bd.rep [.int .i64 k, .str n, .sl g cs] := by
  obtain ⟨g1, g2, ce, rfl, h1⟩ := h
  obtain ⟨g, cs, rfl, _⟩ := E.rep_cells h1
  exact ⟨g1, g2, _, _, g, cs, rfl, h1⟩
theorem five_of {l : List Field} {a b c d e : TypeId} (h : l.map (·.type) = [a, b, c, d, e]) : ∃ f1 f2 f3 f4 f5 : Field, l = [f1, f2, f3, f4, f5] ∧ f1.type = a ∧ f2.type = b ∧ f3.type = c ∧ f4.type = d ∧ f5.type = e := by
  rcases l with _ | ⟨f1, _ | ⟨f2, _ | ⟨f3, _ | ⟨f4, _ | ⟨f5, _ | ⟨f6, l⟩⟩⟩⟩⟩⟩
  · simp at h
  · simp at h
  · simp at h
  · simp at h
  · simp at h
  · simp only [List.map_cons, List.map_nil, List.cons.injEq, and_true] at h
    exact ⟨f1, f2, f3, f4, f5, rfl, h.1, h.2.1, h.2.2.1, h.2.2.2.1, h.2.2.2.2⟩
  · simp at h
theorem one_of {l : List Field} {a : TypeId} (h : l.map (·.type) = [a]) : ∃ f1 : Field, l = [f1] ∧ f1.type = a := by
  rcases l with _ | ⟨f1, _ | ⟨f2, l⟩⟩
  · simp at h
  · simp only [List.map_cons, List.map_nil, List.cons.injEq, and_true] at h
    exact ⟨f1, rfl, h⟩
  · simp at h
theorem Ru_of_Ty {P : Program} {tr tsl tn t ti tl : TypeId} {fr fs : Array Field} (hr0 : P.underlying tr = some (.struct fr)) (hfr : fr.toList.map (·.type) = [tn, tn, tsl, tsl, t]) (hsl : P.underlying tsl = some (.slice tn)) (hbn : 0 < P.bytesOf tn) (hu : P.underlying t = some (.struct fs)) (hf : fs.toList.map (·.type) = [ti, tn, tl]) (h1 : P.underlying ti = some (.int .i64)) (h2 : P.underlying tn = some .string) (h3 : P.underlying tl = some (.slice t))
    (hb : 0 < P.bytesOf t) {ts : List T} (h : Ty P tr ts) : ∃ x : Ru, x.rep ts ∧ x.small := by
  have hF := h.inv_struct hr0
  obtain ⟨f1, f2, f3, f4, f5, hfs, e1, e2, e3, e4, e5⟩ := five_of hfr
  rw [hfs] at hF
  obtain ⟨x1, y1, rfl, k1, k2⟩ := hF.inv_cons
  obtain ⟨x2, y2, rfl, k3, k4⟩ := k2.inv_cons
  obtain ⟨x3, y3, rfl, k5, k6⟩ := k4.inv_cons
  obtain ⟨x4, y4, rfl, k7, k8⟩ := k6.inv_cons
  obtain ⟨x5, y5, rfl, k9, k10⟩ := k8.inv_cons
  obtain rfl := k10.inv_nil
  obtain ⟨s1, rfl, q1⟩ := k1.inv_str (e1 ▸ h2)
  obtain ⟨s2, rfl, q2⟩ := k3.inv_str (e2 ▸ h2)
  rw [e3] at k5
  rw [e4] at k7
  rw [e5] at k9
  obtain ⟨g1, l1, rfl, q3, q4⟩ := k5.strs hsl h2 hbn
  obtain ⟨g2, l2, rfl, q5, q6⟩ := k7.strs hsl h2 hbn
  obtain ⟨v, r1, r2⟩ := E_of_Ty hu hf h1 h2 h3 hb k9
  exact ⟨⟨s1, s2, l1, l2, v⟩, ⟨g1, g2, x5, by simp, r1⟩, q1, q2, ⟨q3, q4⟩, ⟨q5, q6⟩, r2⟩
/-- A program: its rules. -/
def Pg.rep (us : List Ru) (c : List T) : Prop := ∃ (g : Nat) (cs : List (List T)), c = [.sl g cs] ∧ Rl Ru.rep us cs
theorem Pg_of_Ty {P : Program} {tp trl tr tsl tn t ti tl : TypeId} {fp fr fs : Array Field} (hp0 : P.underlying tp = some (.struct fp)) (hfp : fp.toList.map (·.type) = [trl]) (hrl : P.underlying trl = some (.slice tr)) (hbr : 0 < P.bytesOf tr) (hr0 : P.underlying tr = some (.struct fr)) (hfr : fr.toList.map (·.type) = [tn, tn, tsl, tsl, t]) (hsl : P.underlying tsl = some (.slice tn)) (hbn : 0 < P.bytesOf tn) (hu : P.underlying t = some (.struct fs)) (hf : fs.toList.map (·.type) = [ti, tn, tl]) (h1 : P.underlying ti = some (.int .i64)) (h2 : P.underlying tn = some .string) (h3 : P.underlying tl = some (.slice t))
    (hb : 0 < P.bytesOf t) {ts : List T} (h : Ty P tp ts) : ∃ us : List Ru, Pg.rep us ts ∧ us.length ≤ reachBytes ∧ ∀ x ∈ us, x.small := by
  have hF := h.inv_struct hp0
  obtain ⟨f1, hfs, e1⟩ := one_of hfp
  rw [hfs] at hF
  obtain ⟨x1, y1, rfl, k1, k2⟩ := hF.inv_cons
  obtain rfl := k2.inv_nil
  rw [e1] at k1
  obtain ⟨g, es, rfl, hes, hsz⟩ := k1.inv_sl hrl
  obtain ⟨l, q1, q2⟩ := Rl.of_all (fun x hx => Ru_of_Ty hr0 hfr hsl hbn hu hf h1 h2 h3 hb (hes x hx))
  exact ⟨l, ⟨g, es, by simp, q1⟩, by rw [← q1.len]; exact Nat.le_trans (Nat.le_mul_of_pos_right _ hbr) hsz, q2⟩
/-- The place of the first of a kind, counted from i; -1 where there is none. -/
def fi {α : Type} (p : α → Bool) : Int → List α → Int
  | _, [] => -1
  | i, a :: l => if p a = true then i else fi p (i + 1) l
theorem fi_drop {α : Type} {p : α → Bool} {l : List α} {n : Nat} {i : Int} (h : n < l.length) : fi p i (l.drop n) = if p l[n] = true then i else fi p (i + 1) (l.drop (n + 1)) := by rw [drop_get h, fi]
theorem fi_lt {α : Type} {p : α → Bool} : ∀ (l : List α) (i : Int), fi p i l = -1 ∨ (i ≤ fi p i l ∧ fi p i l < i + l.length)
  | [], i => .inl rfl
  | a :: l, i => by
    rw [fi]
    split
    · exact .inr ⟨by omega, by simp only [List.length_cons]; omega⟩
    · rcases fi_lt (p := p) l (i + 1) with h | h
      · exact .inl h
      · exact .inr ⟨by omega, by simp only [List.length_cons]; omega⟩
theorem back_01 (o o2 : Ob) (σ : List Ob) (g a b c g' a' b' c' : Nat) (x y : T) : backObs (o :: o2 :: σ) [0, 1] [.row g a b c [[.t x]], .row g' a' b' c' [[.t y]]] = .row g a b c [[.t x]] :: .row g' a' b' c' [[.t y]] :: σ := by
  have h : ∀ (r : Nat) (l : List Ob) (σ1 : List Ob) (n : Nat), backAt [0, 1] n σ1 (r + 2) l = l := by
    intro r l
    induction l generalizing r with
    | nil => intros; rfl
    | cons o l ih => intro σ1 n; rw [backAt, ih]; simp [idx]
  simp only [backObs, backAt, h]
  simp [idx, Ob.back, V.back]
theorem back_12 (o o1 o2 : Ob) (σ : List Ob) (g a b c g' a' b' c' : Nat) (x y : T) : backObs (o :: o1 :: o2 :: σ) [1, 2] [.row g a b c [[.t x]], .row g' a' b' c' [[.t y]]] = o :: .row g a b c [[.t x]] :: .row g' a' b' c' [[.t y]] :: σ := by
  have h : ∀ (r : Nat) (l : List Ob) (σ1 : List Ob) (n : Nat), backAt [1, 2] n σ1 (r + 3) l = l := by
    intro r l
    induction l generalizing r with
    | nil => intros; rfl
    | cons o l ih => intro σ1 n; rw [backAt, ih]; simp [idx]
  simp only [backObs, backAt, h]
  simp [idx, Ob.back, V.back]
theorem le_2 {g a b c g' a' b' c' : Nat} {x y x' y' : V} {σ' : List Ob} (h : σ' = [.row g a b c [[y]], .row g' a' b' c' [[y']]]) : ∀ (r : Nat) (o : Ob), [Ob.row g a b c [[x]], Ob.row g' a' b' c' [[x']]][r]? = some o → ∃ o' : Ob, σ'[r]? = some o' ∧ o.le o' := by
  subst h
  intro r o ho
  match r with
  | 0 => simp only [List.getElem?_cons_zero, Option.some.injEq] at ho; subst ho; exact ⟨_, rfl, by simp [Ob.le]⟩
  | 1 => simp only [List.getElem?_cons_succ, List.getElem?_cons_zero, Option.some.injEq] at ho; subst ho; exact ⟨_, rfl, by simp [Ob.le]⟩
  | r + 2 => simp at ho
attribute [go_sem] back_01 back_12
end Go.VL
namespace Go.Proofs.YtldhhppfnhgcdaaGreat
open Go Go.VL

/-- laws.szRule -/
theorem laws_szRule (x : Ru) (c : List T) (N : Int) (hc : x.rep c) (hs : x.small) (hN : 0 ≤ N ∧ N ≤ 1048576) : FCtr Tryz.prog 16 [.agg (c.map .t), .t (.int .i64 N)] (fun r => ∃ m : Int, r = .t (.int .i64 m) ∧ (m < 0 ∨ (0 ≤ m ∧ m + x.wt = N))) := by
  obtain ⟨gax_, gbx_, kx_, nx_, gx_, csx_, rfl, hvx_⟩ := Ru.cells hc
  obtain ⟨hs1, hs2, ⟨hl1, hs3⟩, ⟨hl2, hs4⟩, hs5⟩ := hs
  have reach := reach47
  rw [Ru.wt]
  refine Ctr.of_vc (rs := [.tmp 4]) (fn := Tryz.f16) mixed Tryz.func16 rfl rfl (by kernel_rfl) (by kernel_rfl) (by simp [Tryz.ntmps16]) (fun h0 => ?_)
  refine vc_seq fun K1 hK1 => ?_
  refine vc_reg ?_
  try simp (disch := omega) only [go_sem, ↓reduceIte, Nat.reduceEqDiff, reduceCtorEq, Nat.reduceAdd, Nat.reduceLeDiff, Nat.reduceMul, Int.reduceNeg, Int.reduceLT, Int.reduceAdd, Int.reduceSub]
  intro g0_0 hg0_0
  refine hK1 _ ?_
  refine vc_seq fun K2 hK2 => ?_
  refine vc_reg ?_
  try simp (disch := omega) only [go_sem, ↓reduceIte, Nat.reduceEqDiff, reduceCtorEq, Nat.reduceAdd, Nat.reduceLeDiff, Nat.reduceMul, Int.reduceNeg, Int.reduceLT, Int.reduceAdd, Int.reduceSub]
  refine hK2 _ ?_
  refine vc_seq fun K3 hK3 => ?_
  refine vc_seq fun K4 hK4 => ?_
  refine vc_reg ?_
  try simp (disch := omega) only [go_sem, ↓reduceIte, Nat.reduceEqDiff, reduceCtorEq, Nat.reduceAdd, Nat.reduceLeDiff, Nat.reduceMul, Int.reduceNeg, Int.reduceLT, Int.reduceAdd, Int.reduceSub]
  refine hK4 _ ?_
  refine vc_cond (t := _) rfl (fun hc1 => ?_) (fun hc1 => ?_)
  · (try simp only [go_sem] at hc1)
    refine vc_seq fun K5 hK5 => ?_
    refine vc_reg ?_
    try simp (disch := omega) only [go_sem, ↓reduceIte, Nat.reduceEqDiff, reduceCtorEq, Nat.reduceAdd, Nat.reduceLeDiff, Nat.reduceMul, Int.reduceNeg, Int.reduceLT, Int.reduceAdd, Int.reduceSub]
    refine hK5 _ ?_
    refine vc_ret ?_
    refine ⟨_, by first | rfl | (simp only [go_sem, resQ, List.mapM_cons, List.mapM_nil, ↓reduceIte, Nat.reduceEqDiff, Nat.reduceAdd, Nat.reduceLeDiff, reduceCtorEq]; rfl), [], [], .nil, by simp, by simp, fun hi_ h1_ => ⟨?_, rfl, rfl⟩, by simp⟩
    first | exact ⟨_, rfl, .inr (by omega)⟩ | exact ⟨_, rfl, .inl (by omega)⟩
  · (try simp only [go_sem] at hc1)
    refine vc_skip ?_
    refine hK3 _ ?_
    refine vc_seq fun K6 hK6 => ?_
    refine vc_reg ?_
    try simp (disch := omega) only [go_sem, ↓reduceIte, Nat.reduceEqDiff, reduceCtorEq, Nat.reduceAdd, Nat.reduceLeDiff, Nat.reduceMul, Int.reduceNeg, Int.reduceLT, Int.reduceAdd, Int.reduceSub]
    refine hK6 _ ?_
    refine vc_seq fun K7 hK7 => ?_
    refine vc_seq fun K8 hK8 => ?_
    refine vc_reg ?_
    try simp (disch := omega) only [go_sem, ↓reduceIte, Nat.reduceEqDiff, reduceCtorEq, Nat.reduceAdd, Nat.reduceLeDiff, Nat.reduceMul, Int.reduceNeg, Int.reduceLT, Int.reduceAdd, Int.reduceSub]
    refine hK8 _ ?_
    refine vc_cond (t := _) rfl (fun hc2 => ?_) (fun hc2 => ?_)
    · (try simp only [go_sem] at hc2)
      refine vc_seq fun K9 hK9 => ?_
      refine vc_reg ?_
      try simp (disch := omega) only [go_sem, ↓reduceIte, Nat.reduceEqDiff, reduceCtorEq, Nat.reduceAdd, Nat.reduceLeDiff, Nat.reduceMul, Int.reduceNeg, Int.reduceLT, Int.reduceAdd, Int.reduceSub]
      refine hK9 _ ?_
      refine vc_ret ?_
      refine ⟨_, by first | rfl | (simp only [go_sem, resQ, List.mapM_cons, List.mapM_nil, ↓reduceIte, Nat.reduceEqDiff, Nat.reduceAdd, Nat.reduceLeDiff, reduceCtorEq]; rfl), [], [], .nil, by simp, by simp, fun hi_ h1_ => ⟨?_, rfl, rfl⟩, by simp⟩
      first | exact ⟨_, rfl, .inr (by omega)⟩ | exact ⟨_, rfl, .inl (by omega)⟩
    · (try simp only [go_sem] at hc2)
      refine vc_skip ?_
      refine hK7 _ ?_
      refine vc_seq fun K10 hK10 => ?_
      refine vc_reg ?_
      try simp (disch := omega) only [go_sem, ↓reduceIte, Nat.reduceEqDiff, reduceCtorEq, Nat.reduceAdd, Nat.reduceLeDiff, Nat.reduceMul, Int.reduceNeg, Int.reduceLT, Int.reduceAdd, Int.reduceSub]
      refine vcX_call _ _ (laws_szStringS _ x.vs (N - x.nm.size - x.cn.size) (by omega) (fun s h => by have := hs3 s h; omega) (by omega)) rfl rfl (by first | rfl | simp [V.pures, V.pure, V.pures_t]) ?_
      rintro r7_3 h7_3 hh7_3 ⟨m1, rfl, hm1⟩ -
      try simp (disch := omega) only [go_sem, ↓reduceIte, Nat.reduceEqDiff, reduceCtorEq, Nat.reduceAdd, Nat.reduceLeDiff, Nat.reduceMul, Int.reduceNeg, Int.reduceLT, Int.reduceAdd, Int.reduceSub]
      refine hK10 _ ?_
      refine vc_seq fun K11 hK11 => ?_
      refine vc_seq fun K12 hK12 => ?_
      refine vc_reg ?_
      try simp (disch := omega) only [go_sem, ↓reduceIte, Nat.reduceEqDiff, reduceCtorEq, Nat.reduceAdd, Nat.reduceLeDiff, Nat.reduceMul, Int.reduceNeg, Int.reduceLT, Int.reduceAdd, Int.reduceSub]
      refine hK12 _ ?_
      refine vc_cond (t := _) rfl (fun hc3 => ?_) (fun hc3 => ?_)
      · (try simp only [go_sem] at hc3)
        refine vc_seq fun K13 hK13 => ?_
        refine vc_reg ?_
        try simp (disch := omega) only [go_sem, ↓reduceIte, Nat.reduceEqDiff, reduceCtorEq, Nat.reduceAdd, Nat.reduceLeDiff, Nat.reduceMul, Int.reduceNeg, Int.reduceLT, Int.reduceAdd, Int.reduceSub]
        refine hK13 _ ?_
        refine vc_ret ?_
        refine ⟨_, by first | rfl | (simp only [go_sem, resQ, List.mapM_cons, List.mapM_nil, ↓reduceIte, Nat.reduceEqDiff, Nat.reduceAdd, Nat.reduceLeDiff, reduceCtorEq]; rfl), [], [], .nil, by simp, by simp, fun hi_ h1_ => ⟨?_, rfl, rfl⟩, by simp⟩
        first | exact ⟨_, rfl, .inr (by omega)⟩ | exact ⟨_, rfl, .inl (by omega)⟩
      · (try simp only [go_sem] at hc3)
        refine vc_skip ?_
        refine hK11 _ ?_
        refine vc_seq fun K14 hK14 => ?_
        refine vc_reg ?_
        try simp (disch := omega) only [go_sem, ↓reduceIte, Nat.reduceEqDiff, reduceCtorEq, Nat.reduceAdd, Nat.reduceLeDiff, Nat.reduceMul, Int.reduceNeg, Int.reduceLT, Int.reduceAdd, Int.reduceSub]
        refine vcX_call _ _ (laws_szStringS _ x.ps m1 (by omega) (fun s h => by have := hs4 s h; omega) (by omega)) rfl rfl (by first | rfl | simp [V.pures, V.pure, V.pures_t]) ?_
        rintro r10_3 h10_3 hh10_3 ⟨m2, rfl, hm2⟩ -
        try simp (disch := omega) only [go_sem, ↓reduceIte, Nat.reduceEqDiff, reduceCtorEq, Nat.reduceAdd, Nat.reduceLeDiff, Nat.reduceMul, Int.reduceNeg, Int.reduceLT, Int.reduceAdd, Int.reduceSub]
        refine hK14 _ ?_
        refine vc_seq fun K15 hK15 => ?_
        refine vc_seq fun K16 hK16 => ?_
        refine vc_reg ?_
        try simp (disch := omega) only [go_sem, ↓reduceIte, Nat.reduceEqDiff, reduceCtorEq, Nat.reduceAdd, Nat.reduceLeDiff, Nat.reduceMul, Int.reduceNeg, Int.reduceLT, Int.reduceAdd, Int.reduceSub]
        refine hK16 _ ?_
        refine vc_cond (t := _) rfl (fun hc4 => ?_) (fun hc4 => ?_)
        · (try simp only [go_sem] at hc4)
          refine vc_seq fun K17 hK17 => ?_
          refine vc_reg ?_
          try simp (disch := omega) only [go_sem, ↓reduceIte, Nat.reduceEqDiff, reduceCtorEq, Nat.reduceAdd, Nat.reduceLeDiff, Nat.reduceMul, Int.reduceNeg, Int.reduceLT, Int.reduceAdd, Int.reduceSub]
          refine hK17 _ ?_
          refine vc_ret ?_
          refine ⟨_, by first | rfl | (simp only [go_sem, resQ, List.mapM_cons, List.mapM_nil, ↓reduceIte, Nat.reduceEqDiff, Nat.reduceAdd, Nat.reduceLeDiff, reduceCtorEq]; rfl), [], [], .nil, by simp, by simp, fun hi_ h1_ => ⟨?_, rfl, rfl⟩, by simp⟩
          first | exact ⟨_, rfl, .inr (by omega)⟩ | exact ⟨_, rfl, .inl (by omega)⟩
        · (try simp only [go_sem] at hc4)
          refine vc_skip ?_
          refine hK15 _ ?_
          refine vc_seq fun K18 hK18 => ?_
          refine vc_reg ?_
          try simp (disch := omega) only [go_sem, ↓reduceIte, Nat.reduceEqDiff, reduceCtorEq, Nat.reduceAdd, Nat.reduceLeDiff, Nat.reduceMul, Int.reduceNeg, Int.reduceLT, Int.reduceAdd, Int.reduceSub]
          refine vcX_call _ _ (laws_szExpr x.bd _ m2 hvx_ hs5 (by omega)) rfl rfl (by first | rfl | simp [V.pures, V.pure, V.pures_t]) ?_
          rintro r13_3 h13_3 hh13_3 ⟨m3, rfl, hm3⟩ -
          try simp (disch := omega) only [go_sem, ↓reduceIte, Nat.reduceEqDiff, reduceCtorEq, Nat.reduceAdd, Nat.reduceLeDiff, Nat.reduceMul, Int.reduceNeg, Int.reduceLT, Int.reduceAdd, Int.reduceSub]
          refine hK18 _ ?_
          refine vc_seq fun K19 hK19 => ?_
          refine vc_seq fun K20 hK20 => ?_
          refine vc_reg ?_
          try simp (disch := omega) only [go_sem, ↓reduceIte, Nat.reduceEqDiff, reduceCtorEq, Nat.reduceAdd, Nat.reduceLeDiff, Nat.reduceMul, Int.reduceNeg, Int.reduceLT, Int.reduceAdd, Int.reduceSub]
          refine hK20 _ ?_
          refine vc_cond (t := _) rfl (fun hc5 => ?_) (fun hc5 => ?_)
          · (try simp only [go_sem] at hc5)
            refine vc_seq fun K21 hK21 => ?_
            refine vc_reg ?_
            try simp (disch := omega) only [go_sem, ↓reduceIte, Nat.reduceEqDiff, reduceCtorEq, Nat.reduceAdd, Nat.reduceLeDiff, Nat.reduceMul, Int.reduceNeg, Int.reduceLT, Int.reduceAdd, Int.reduceSub]
            refine hK21 _ ?_
            refine vc_ret ?_
            refine ⟨_, by first | rfl | (simp only [go_sem, resQ, List.mapM_cons, List.mapM_nil, ↓reduceIte, Nat.reduceEqDiff, Nat.reduceAdd, Nat.reduceLeDiff, reduceCtorEq]; rfl), [], [], .nil, by simp, by simp, fun hi_ h1_ => ⟨?_, rfl, rfl⟩, by simp⟩
            first | exact ⟨_, rfl, .inr (by omega)⟩ | exact ⟨_, rfl, .inl (by omega)⟩
          · (try simp only [go_sem] at hc5)
            refine vc_skip ?_
            refine hK19 _ ?_
            refine vc_seq fun K22 hK22 => ?_
            refine vc_reg ?_
            try simp (disch := omega) only [go_sem, ↓reduceIte, Nat.reduceEqDiff, reduceCtorEq, Nat.reduceAdd, Nat.reduceLeDiff, Nat.reduceMul, Int.reduceNeg, Int.reduceLT, Int.reduceAdd, Int.reduceSub]
            refine hK22 _ ?_
            refine vc_ret ?_
            refine ⟨_, by first | rfl | (simp only [go_sem, resQ, List.mapM_cons, List.mapM_nil, ↓reduceIte, Nat.reduceEqDiff, Nat.reduceAdd, Nat.reduceLeDiff, reduceCtorEq]; rfl), [], [], .nil, by simp, by simp, fun hi_ h1_ => ⟨?_, rfl, rfl⟩, by simp⟩
            first | exact ⟨_, rfl, .inr (by omega)⟩ | exact ⟨_, rfl, .inl (by omega)⟩

/-- laws.szRuleS -/
theorem laws_szRuleS (g : Nat) (us : List Ru) (cs : List (List T)) (N : Int) (ha : Rl Ru.rep us cs) (hl : us.length ≤ reachBytes) (hN : 0 ≤ N ∧ N ≤ 1048576) (ih : ∀ a ∈ us, ∀ (c : List T) (N : Int), Ru.rep a c → 0 ≤ N ∧ N ≤ 1048576 → FCtr Tryz.prog 16 [.agg (c.map .t), .t (.int .i64 N)] (fun r => ∃ m : Int, r = .t (.int .i64 m) ∧ (m < 0 ∨ (0 ≤ m ∧ m + Ru.wt a = N)))) : FCtr Tryz.prog 9 [.t (.sl g cs), .t (.int .i64 N)] (fun r => ∃ m : Int, r = .t (.int .i64 m) ∧ (m < 0 ∨ (0 ≤ m ∧ m + wl Ru.wt us = N))) := by
  have hcl := ha.len
  have reach := reach47
  refine Ctr.of_vc (rs := [.tmp 4]) (fn := Tryz.f9) mixed Tryz.func9 rfl rfl (by kernel_rfl) (by kernel_rfl) (by simp [Tryz.ntmps9]) (fun h0 => ?_)
  refine vc_seq fun K1 hK1 => ?_
  refine vc_reg ?_
  try simp (disch := omega) only [go_sem, ↓reduceIte, Nat.reduceEqDiff, reduceCtorEq, Nat.reduceAdd, Nat.reduceLeDiff, Nat.reduceMul, Int.reduceNeg, Int.reduceLT, Int.reduceAdd, Int.reduceSub, hcl]
  refine hK1 _ ?_
  refine vc_seq fun K2 hK2 => ?_
  refine vc_reg ?_
  try simp (disch := omega) only [go_sem, ↓reduceIte, Nat.reduceEqDiff, reduceCtorEq, Nat.reduceAdd, Nat.reduceLeDiff, Nat.reduceMul, Int.reduceNeg, Int.reduceLT, Int.reduceAdd, Int.reduceSub, hcl]
  refine hK2 _ ?_
  refine vc_seq fun K3 hK3 => ?_
  refine vc_seq fun K4 hK4 => ?_
  refine vc_reg ?_
  try simp (disch := omega) only [go_sem, ↓reduceIte, Nat.reduceEqDiff, reduceCtorEq, Nat.reduceAdd, Nat.reduceLeDiff, Nat.reduceMul, Int.reduceNeg, Int.reduceLT, Int.reduceAdd, Int.reduceSub, hcl]
  refine hK4 _ ?_
  refine vc_cond (t := _) rfl (fun hc1 => ?_) (fun hc1 => ?_)
  · (try simp only [go_sem] at hc1)
    refine vc_seq fun K5 hK5 => ?_
    refine vc_reg ?_
    try simp (disch := omega) only [go_sem, ↓reduceIte, Nat.reduceEqDiff, reduceCtorEq, Nat.reduceAdd, Nat.reduceLeDiff, Nat.reduceMul, Int.reduceNeg, Int.reduceLT, Int.reduceAdd, Int.reduceSub, hcl]
    refine hK5 _ ?_
    refine vc_ret ?_
    refine ⟨_, by first | rfl | (simp only [go_sem, resQ, List.mapM_cons, List.mapM_nil, ↓reduceIte, Nat.reduceEqDiff, Nat.reduceAdd, Nat.reduceLeDiff, reduceCtorEq]; rfl), [], [], .nil, by simp, by simp, fun hi_ h1_ => ⟨?_, rfl, rfl⟩, by simp⟩
    exact ⟨_, rfl, .inl (by omega)⟩
  · (try simp only [go_sem] at hc1)
    refine vc_skip ?_
    refine hK3 _ ?_
    refine vc_seq fun K6 hK6 => ?_
    refine vc_seq fun K7 hK7 => ?_
    refine vc_reg ?_
    try simp (disch := omega) only [go_sem, ↓reduceIte, Nat.reduceEqDiff, reduceCtorEq, Nat.reduceAdd, Nat.reduceLeDiff, Nat.reduceMul, Int.reduceNeg, Int.reduceLT, Int.reduceAdd, Int.reduceSub, hcl]
    refine hK7 _ ?_
    refine vc_block ?_
    refine vc_loop (fun m s => ∃ (n : Nat) (q : Int), (m = us.length - n) ∧ (s.σ = []) ∧ (s.env 0 = .t (.sl g cs)) ∧ (s.env 1 = .t (.int .i64 q)) ∧ (s.env 5 = .t (.int .i64 n)) ∧ (n ≤ us.length) ∧ (0 ≤ q ∧ q ≤ N) ∧ (q + us.length - n - wl Ru.wt (us.drop n) = N - wl Ru.wt us)) (us.length - 0) ⟨0, N - us.length, rfl, rfl, (by first | rfl | assumption), (by first | rfl | assumption), (by first | rfl | assumption), (by first | rfl | omega | simp), (by first | rfl | omega | simp), (by first | rfl | omega | simp)⟩ ?_
    rintro m ⟨e, σ, h⟩ ⟨n, q, hm, hσ, e0, e1, e5, hn, hq, hs⟩ K8 hK8
    simp only at hσ e0 e1 e5
    subst hσ
    refine vc_seq fun K9 hK9 => ?_
    refine vc_seq fun K10 hK10 => ?_
    refine vc_reg ?_
    try simp (disch := omega) only [go_sem, ↓reduceIte, Nat.reduceEqDiff, reduceCtorEq, Nat.reduceAdd, Nat.reduceLeDiff, Nat.reduceMul, Int.reduceNeg, Int.reduceLT, Int.reduceAdd, Int.reduceSub, e0, e1, e5, hcl]
    refine hK10 _ ?_
    refine vc_cond (t := _) rfl (fun hc2 => ?_) (fun hc2 => ?_)
    · (try simp only [go_sem] at hc2)
      refine vc_skip ?_
      refine hK9 _ ?_
      refine vc_seq fun K11 hK11 => ?_
      refine vc_block ?_
      refine vc_seq fun K12 hK12 => ?_
      obtain ⟨cc, hcc, hrc⟩ := Rl.get ha (n := n) (by omega)
      obtain ⟨gac_, gbc_, kc_, nc_, gc_, csc_, rfl, hvc_⟩ := Ru.cells hrc
      refine vc_reg ?_
      try simp (disch := omega) only [go_sem, ↓reduceIte, Nat.reduceEqDiff, reduceCtorEq, Nat.reduceAdd, Nat.reduceLeDiff, Nat.reduceMul, Int.reduceNeg, Int.reduceLT, Int.reduceAdd, Int.reduceSub, e0, e1, e5, hcl, hcc]
      refine vcX_call _ _ (ih _ (List.getElem_mem (show n < us.length by omega)) _ q hrc (by omega)) rfl rfl (by first | rfl | simp [V.pures, V.pure, V.pures_t]) ?_
      rintro r7_5 h7_5 hh7_5 ⟨m', rfl, hm'⟩ -
      try simp (disch := omega) only [go_sem, ↓reduceIte, Nat.reduceEqDiff, reduceCtorEq, Nat.reduceAdd, Nat.reduceLeDiff, Nat.reduceMul, Int.reduceNeg, Int.reduceLT, Int.reduceAdd, Int.reduceSub, e0, e1, e5, hcl, hcc]
      refine hK12 _ ?_
      refine vc_seq fun K13 hK13 => ?_
      refine vc_reg ?_
      try simp (disch := omega) only [go_sem, ↓reduceIte, Nat.reduceEqDiff, reduceCtorEq, Nat.reduceAdd, Nat.reduceLeDiff, Nat.reduceMul, Int.reduceNeg, Int.reduceLT, Int.reduceAdd, Int.reduceSub, e0, e1, e5, hcl]
      refine hK13 _ ?_
      refine vc_cond (t := _) rfl (fun hc3 => ?_) (fun hc3 => ?_)
      · (try simp only [go_sem] at hc3)
        refine vc_seq fun K14 hK14 => ?_
        refine vc_reg ?_
        try simp (disch := omega) only [go_sem, ↓reduceIte, Nat.reduceEqDiff, reduceCtorEq, Nat.reduceAdd, Nat.reduceLeDiff, Nat.reduceMul, Int.reduceNeg, Int.reduceLT, Int.reduceAdd, Int.reduceSub, e0, e1, e5, hcl]
        refine hK14 _ ?_
        refine vc_ret ?_
        refine ⟨_, by first | rfl | (simp only [go_sem, resQ, List.mapM_cons, List.mapM_nil, ↓reduceIte, Nat.reduceEqDiff, Nat.reduceAdd, Nat.reduceLeDiff, reduceCtorEq]; rfl), [], [], .nil, by simp, by simp, fun hi_ h1_ => ⟨?_, rfl, rfl⟩, by simp⟩
        exact ⟨_, rfl, .inl (by omega)⟩
      · (try simp only [go_sem] at hc3)
        refine vc_skip ?_
        refine hK11 _ ?_
        refine vc_reg ?_
        try simp (disch := omega) only [go_sem, ↓reduceIte, Nat.reduceEqDiff, reduceCtorEq, Nat.reduceAdd, Nat.reduceLeDiff, Nat.reduceMul, Int.reduceNeg, Int.reduceLT, Int.reduceAdd, Int.reduceSub, e0, e1, e5, hcl]
        have hd := wl_drop (f := Ru.wt) (l := us) (n := n) (by omega)
        refine hK8 _ _ ?_ ⟨n + 1, m', rfl, rfl, (by first | rfl | assumption), (by first | rfl | assumption), (by first | rfl | assumption), ?_, ?_, ?_⟩
        · omega
        · first | omega | assumption | rfl | simp_all
        · first | omega | assumption | rfl | simp_all
        · first | omega | assumption | rfl | simp_all
    · (try simp only [go_sem] at hc2)
      refine vc_exit ?_
      refine hK6 _ ?_
      refine vc_seq fun K15 hK15 => ?_
      refine vc_reg ?_
      try simp (disch := omega) only [go_sem, ↓reduceIte, Nat.reduceEqDiff, reduceCtorEq, Nat.reduceAdd, Nat.reduceLeDiff, Nat.reduceMul, Int.reduceNeg, Int.reduceLT, Int.reduceAdd, Int.reduceSub, e0, e1, e5, hcl]
      refine hK15 _ ?_
      refine vc_ret ?_
      refine ⟨_, by first | rfl | (simp only [go_sem, resQ, List.mapM_cons, List.mapM_nil, ↓reduceIte, Nat.reduceEqDiff, Nat.reduceAdd, Nat.reduceLeDiff, reduceCtorEq]; rfl), [], [], .nil, by simp, by simp, fun hi_ h1_ => ⟨?_, rfl, rfl⟩, by simp⟩
      rw [List.drop_of_length_le (by omega), wl] at hs
      exact ⟨_, rfl, .inr (by omega)⟩

/-- laws.toRule -/
theorem laws_toRule (x : Ru) (c : List T) (hc : x.rep c) (hw : x.wt < 2^40) : FCtr Tryz.prog 20 [.agg (c.map .t)] (fun r => ∃ c' : List T, r = .agg (c'.map .t) ∧ x.rep c') := by
  obtain ⟨gax_, gbx_, kx_, nx_, gx_, csx_, rfl, hvx_⟩ := Ru.cells hc
  rw [Ru.wt] at hw
  refine Ctr.of_vc (rs := [.cell 2 41]) (fn := Tryz.f20) mixed Tryz.func20 rfl rfl (by kernel_rfl) (by kernel_rfl) (by simp [Tryz.ntmps20]) (fun h0 => ?_)
  refine vc_seq fun K1 hK1 => ?_
  refine vc_reg ?_
  try simp (disch := omega) only [go_sem, ↓reduceIte, Nat.reduceEqDiff, reduceCtorEq, Nat.reduceAdd, Nat.reduceLeDiff, Nat.reduceMul, Int.reduceNeg, Int.reduceLT, Int.reduceAdd, Int.reduceSub]
  intro g0_0 hg0_0
  intro g0_1 hg0_1
  refine hK1 _ ?_
  refine vc_seq fun K2 hK2 => ?_
  refine vc_reg ?_
  try simp (disch := omega) only [go_sem, ↓reduceIte, Nat.reduceEqDiff, reduceCtorEq, Nat.reduceAdd, Nat.reduceLeDiff, Nat.reduceMul, Int.reduceNeg, Int.reduceLT, Int.reduceAdd, Int.reduceSub]
  intro g1_0 hg1_0
  refine hK2 _ ?_
  refine vc_seq fun K3 hK3 => ?_
  refine vc_reg ?_
  try simp (disch := omega) only [go_sem, ↓reduceIte, Nat.reduceEqDiff, reduceCtorEq, Nat.reduceAdd, Nat.reduceLeDiff, Nat.reduceMul, Int.reduceNeg, Int.reduceLT, Int.reduceAdd, Int.reduceSub]
  refine hK3 _ ?_
  refine vc_seq fun K4 hK4 => ?_
  refine vc_reg ?_
  try simp (disch := omega) only [go_sem, ↓reduceIte, Nat.reduceEqDiff, reduceCtorEq, Nat.reduceAdd, Nat.reduceLeDiff, Nat.reduceMul, Int.reduceNeg, Int.reduceLT, Int.reduceAdd, Int.reduceSub]
  refine hK4 _ ?_
  refine vc_seq fun K5 hK5 => ?_
  refine vc_reg ?_
  try simp (disch := omega) only [go_sem, ↓reduceIte, Nat.reduceEqDiff, reduceCtorEq, Nat.reduceAdd, Nat.reduceLeDiff, Nat.reduceMul, Int.reduceNeg, Int.reduceLT, Int.reduceAdd, Int.reduceSub]
  refine vcX_call _ _ (laws_toStringS _ x.vs (by omega)) rfl rfl (by first | rfl | simp [V.pures, V.pure, V.pures_t]) ?_
  rintro r4_2 h4_2 hh4_2 ⟨g41, rfl⟩ -
  try simp (disch := omega) only [go_sem, ↓reduceIte, Nat.reduceEqDiff, reduceCtorEq, Nat.reduceAdd, Nat.reduceLeDiff, Nat.reduceMul, Int.reduceNeg, Int.reduceLT, Int.reduceAdd, Int.reduceSub]
  refine hK5 _ ?_
  refine vc_seq fun K6 hK6 => ?_
  refine vc_reg ?_
  try simp (disch := omega) only [go_sem, ↓reduceIte, Nat.reduceEqDiff, reduceCtorEq, Nat.reduceAdd, Nat.reduceLeDiff, Nat.reduceMul, Int.reduceNeg, Int.reduceLT, Int.reduceAdd, Int.reduceSub]
  refine vcX_call _ _ (laws_toStringS _ x.ps (by omega)) rfl rfl (by first | rfl | simp [V.pures, V.pure, V.pures_t]) ?_
  rintro r5_2 h5_2 hh5_2 ⟨g51, rfl⟩ -
  try simp (disch := omega) only [go_sem, ↓reduceIte, Nat.reduceEqDiff, reduceCtorEq, Nat.reduceAdd, Nat.reduceLeDiff, Nat.reduceMul, Int.reduceNeg, Int.reduceLT, Int.reduceAdd, Int.reduceSub]
  refine hK6 _ ?_
  refine vc_seq fun K7 hK7 => ?_
  refine vc_reg ?_
  try simp (disch := omega) only [go_sem, ↓reduceIte, Nat.reduceEqDiff, reduceCtorEq, Nat.reduceAdd, Nat.reduceLeDiff, Nat.reduceMul, Int.reduceNeg, Int.reduceLT, Int.reduceAdd, Int.reduceSub]
  refine vcX_call _ _ (laws_toExpr x.bd _ hvx_ (by omega)) rfl rfl (by first | rfl | simp [V.pures, V.pure, V.pures_t]) ?_
  rintro r6_2 h6_2 hh6_2 ⟨c', rfl, hc'⟩ -
  obtain ⟨g', cs', rfl, hcs'⟩ := E.rep_cells hc'
  try simp (disch := omega) only [go_sem, ↓reduceIte, Nat.reduceEqDiff, reduceCtorEq, Nat.reduceAdd, Nat.reduceLeDiff, Nat.reduceMul, Int.reduceNeg, Int.reduceLT, Int.reduceAdd, Int.reduceSub]
  refine hK7 _ ?_
  refine vc_seq fun K8 hK8 => ?_
  refine vc_reg ?_
  try simp (disch := omega) only [go_sem, ↓reduceIte, Nat.reduceEqDiff, reduceCtorEq, Nat.reduceAdd, Nat.reduceLeDiff, Nat.reduceMul, Int.reduceNeg, Int.reduceLT, Int.reduceAdd, Int.reduceSub]
  refine hK8 _ ?_
  refine vc_ret ?_
  refine ⟨_, (by first | rfl | (simp only [go_sem, resQ, List.mapM_cons, List.mapM_nil, ↓reduceIte, Nat.reduceEqDiff, Nat.reduceAdd, Nat.reduceLeDiff, reduceCtorEq]; rfl)), [], [], .nil, by simp, by simp, fun hi_ h1_ => ⟨⟨[.str x.nm, .str x.cn, .sl g41 (x.vs.map fun s => [T.str s]), .sl g51 (x.ps.map fun s => [T.str s]), .int .i64 x.bd.kind, .str x.bd.name, .sl g' cs'], rfl, ⟨g41, g51, _, rfl, hc'⟩⟩, rfl, rfl⟩, by simp⟩

/-- laws.toRuleS -/
theorem laws_toRuleS (g : Nat) (us : List Ru) (cs : List (List T)) (ha : Rl Ru.rep us cs) (hl : us.length < 2^40) (ih : ∀ a ∈ us, ∀ (c : List T), Ru.rep a c → FCtr Tryz.prog 20 [.agg (c.map .t)] (fun r => ∃ c' : List T, r = .agg (c'.map .t) ∧ Ru.rep a c')) : FCtr Tryz.prog 12 [.t (.sl g cs)] (fun r => ∃ (g' : Nat) (cs' : List (List T)), r = .t (.sl g' cs') ∧ Rl Ru.rep us cs') := by
  have hcl := ha.len
  refine Ctr.of_vc (rs := [.tmp 2]) (fn := Tryz.f12) mixed Tryz.func12 rfl rfl (by kernel_rfl) (by kernel_rfl) (by simp [Tryz.ntmps12]) (fun h0 => ?_)
  refine vc_seq fun K1 hK1 => ?_
  refine vc_reg ?_
  try simp (disch := omega) only [go_sem, ↓reduceIte, Nat.reduceEqDiff, reduceCtorEq, Nat.reduceAdd, Nat.reduceLeDiff, Nat.reduceMul, Int.reduceNeg, Int.reduceLT, Int.reduceAdd, Int.reduceSub, hcl, Int.toNat_natCast]
  refine hK1 _ ?_
  refine vc_seq fun K2 hK2 => ?_
  refine vc_reg ?_
  try simp (disch := omega) only [go_sem, ↓reduceIte, Nat.reduceEqDiff, reduceCtorEq, Nat.reduceAdd, Nat.reduceLeDiff, Nat.reduceMul, Int.reduceNeg, Int.reduceLT, Int.reduceAdd, Int.reduceSub, hcl, Int.toNat_natCast]
  refine ⟨by simp [mkOk]; omega, fun g1_2 hg1_2 => ?_⟩
  try simp (disch := omega) only [go_sem, ↓reduceIte, Nat.reduceEqDiff, reduceCtorEq, Nat.reduceAdd, Nat.reduceLeDiff, Nat.reduceMul, Int.reduceNeg, Int.reduceLT, Int.reduceAdd, Int.reduceSub, hcl, Int.toNat_natCast]
  refine hK2 _ ?_
  refine vc_seq fun K3 hK3 => ?_
  refine vc_seq fun K4 hK4 => ?_
  refine vc_reg ?_
  try simp (disch := omega) only [go_sem, ↓reduceIte, Nat.reduceEqDiff, reduceCtorEq, Nat.reduceAdd, Nat.reduceLeDiff, Nat.reduceMul, Int.reduceNeg, Int.reduceLT, Int.reduceAdd, Int.reduceSub, hcl, Int.toNat_natCast]
  refine hK4 _ ?_
  refine vc_block ?_
  refine vc_loop (fun m s => ∃ (n g' : Nat) (acc : List (List T)), (m = us.length - n) ∧ (s.σ = [.row g' 0 7 (us.length * 7) (acc.map (·.map V.t) ++ List.replicate (us.length - n) [V.t (.str ⟨#[]⟩), V.t (.str ⟨#[]⟩), V.nil0, V.nil0, V.t (.int .i64 0), V.t (.str ⟨#[]⟩), V.nil0])]) ∧ (s.env 0 = .t (.sl g cs)) ∧ (s.env 3 = .own 0 0 0 us.length) ∧ (s.env 4 = .t (.int .i64 n)) ∧ (n ≤ us.length) ∧ (Rl Ru.rep (us.take n) acc)) (us.length - 0) ⟨0, g1_2, [], rfl, (by first | rfl | simp), (by first | rfl | assumption), (by first | rfl | assumption), (by first | rfl | assumption), (by first | rfl | omega | simp), (by simpa using Rl.nil)⟩ ?_
  rintro m ⟨e, σ, h⟩ ⟨n, g', acc, hm, hσ, e0, e3, e4, hn, hacc⟩ K5 hK5
  simp only at hσ e0 e3 e4
  subst hσ
  refine vc_seq fun K6 hK6 => ?_
  refine vc_seq fun K7 hK7 => ?_
  refine vc_reg ?_
  try simp (disch := omega) only [go_sem, ↓reduceIte, Nat.reduceEqDiff, reduceCtorEq, Nat.reduceAdd, Nat.reduceLeDiff, Nat.reduceMul, Int.reduceNeg, Int.reduceLT, Int.reduceAdd, Int.reduceSub, e0, e3, e4, hcl, Int.toNat_natCast]
  refine hK7 _ ?_
  refine vc_cond (t := _) rfl (fun hc1 => ?_) (fun hc1 => ?_)
  · (try simp only [go_sem] at hc1)
    refine vc_skip ?_
    refine hK6 _ ?_
    refine vc_seq fun K8 hK8 => ?_
    refine vc_block ?_
    obtain ⟨cc, hcc, hrc⟩ := Rl.get ha (n := n) (by omega)
    obtain ⟨gac_, gbc_, kc_, nc_, gc_, csc_, rfl, hvc_⟩ := Ru.cells hrc
    have hal : (acc.map (·.map V.t)).length = n := by have := hacc.len; simp at this ⊢; omega
    have hget := fill_get (acc.map (·.map V.t)) (us.length - n) [V.t (.str ⟨#[]⟩), V.t (.str ⟨#[]⟩), V.nil0, V.nil0, V.t (.int .i64 0), V.t (.str ⟨#[]⟩), V.nil0] (by omega)
    have hset := fun v => fill_set (acc.map (·.map V.t)) (us.length - n) [V.t (.str ⟨#[]⟩), V.t (.str ⟨#[]⟩), V.nil0, V.nil0, V.t (.int .i64 0), V.t (.str ⟨#[]⟩), V.nil0] v (by omega)
    rw [hal] at hget
    simp only [hal] at hset
    have hsub : us.length - n - 1 = us.length - (n + 1) := by omega
    simp only [hsub] at hset
    refine vc_reg ?_
    try simp (disch := omega) only [go_sem, ↓reduceIte, Nat.reduceEqDiff, reduceCtorEq, Nat.reduceAdd, Nat.reduceLeDiff, Nat.reduceMul, Int.reduceNeg, Int.reduceLT, Int.reduceAdd, Int.reduceSub, e0, e3, e4, hcl, Int.toNat_natCast, hcc, show n < us.length by omega]
    refine vcX_call _ _ (ih _ (List.getElem_mem (show n < us.length by omega)) _ hrc) rfl rfl (by first | rfl | simp [V.pures, V.pure, V.pures_t]) ?_
    rintro r5_6 h5_6 hh5_6 ⟨c', rfl, hc'⟩ -
    obtain ⟨gap_, gbp_, kp_, np_, gp_, csp_, rfl, hvp_⟩ := Ru.cells hc'
    try simp (disch := omega) only [go_sem, ↓reduceIte, Nat.reduceEqDiff, reduceCtorEq, Nat.reduceAdd, Nat.reduceLeDiff, Nat.reduceMul, Int.reduceNeg, Int.reduceLT, Int.reduceAdd, Int.reduceSub, e0, e3, e4, hcl, Int.toNat_natCast, hget, hset, show n < us.length by omega]
    refine hK8 _ ?_
    refine vc_reg ?_
    try simp (disch := omega) only [go_sem, ↓reduceIte, Nat.reduceEqDiff, reduceCtorEq, Nat.reduceAdd, Nat.reduceLeDiff, Nat.reduceMul, Int.reduceNeg, Int.reduceLT, Int.reduceAdd, Int.reduceSub, e0, e3, e4, hcl, Int.toNat_natCast]
    refine hK5 _ _ ?_ ⟨n + 1, g', acc ++ [[.str us[n].nm, .str us[n].cn, .sl gap_ (us[n].vs.map fun s => [T.str s]), .sl gbp_ (us[n].ps.map fun s => [T.str s]), .int .i64 kp_, .str np_, .sl gp_ csp_]], rfl, (by first | rfl | simp), (by first | rfl | assumption), (by first | rfl | assumption), (by first | rfl | assumption), ?_, ?_⟩
    · omega
    · first | omega | assumption | rfl | simp_all
    · rw [List.take_add_one, List.getElem?_eq_getElem (by omega)]; exact Rl.append hacc (Rl.one hc')
  · (try simp only [go_sem] at hc1)
    refine vc_exit ?_
    refine hK3 _ ?_
    refine vc_seq fun K9 hK9 => ?_
    refine vc_reg ?_
    try simp (disch := omega) only [go_sem, ↓reduceIte, Nat.reduceEqDiff, reduceCtorEq, Nat.reduceAdd, Nat.reduceLeDiff, Nat.reduceMul, Int.reduceNeg, Int.reduceLT, Int.reduceAdd, Int.reduceSub, e0, e3, e4, hcl, Int.toNat_natCast]
    refine hK9 _ ?_
    refine vc_ret ?_
    have hfin : acc.map (·.map V.t) ++ List.replicate (us.length - n) [V.t (.str ⟨#[]⟩), V.t (.str ⟨#[]⟩), V.nil0, V.nil0, V.t (.int .i64 0), V.t (.str ⟨#[]⟩), V.nil0] = acc.map (·.map V.t) := by rw [show us.length - n = 0 by omega]; simp
    have hlen : us.length = acc.length := by have := hacc.len; simp at this; omega
    have hrep : Rl Ru.rep us acc := by rw [List.take_of_length_le (by omega)] at hacc; exact hacc
    refine ⟨_, rfl, [], [0], .nil, by simp, by simp, fun hi_ h1_ => ⟨⟨g', acc, ?_, hrep⟩, ?_, rfl⟩, by simp⟩
    · exact loc_frz acc rfl hfin (by simp) hlen
    · rw [show tupV _ = V.own 0 0 0 us.length from rfl, loc_frz acc rfl hfin (by simp) hlen]; rfl

/-- laws.eqRule -/
theorem laws_eqRule (a b : Ru) (c d : List T) (hc : a.rep c) (hd : b.rep d) (hw : a.wt < 2^40) (hw2 : b.wt < 2^40) : FCtr Tryz.prog 34 [.agg (c.map .t), .agg (d.map .t)] (fun r => r = .t (.bool (Ru.eqb a b))) := by
  obtain ⟨gax_, gbx_, kx_, nx_, gx_, csx_, rfl, hvx_⟩ := Ru.cells hc
  obtain ⟨gay_, gby_, ky_, ny_, gy_, csy_, rfl, hvy_⟩ := Ru.cells hd
  rw [Ru.wt] at hw hw2
  rw [Ru.eqb]
  refine Ctr.of_vc (rs := [.tmp 4]) (fn := Tryz.f34) mixed Tryz.func34 rfl rfl (by kernel_rfl) (by kernel_rfl) (by simp [Tryz.ntmps34]) (fun h0 => ?_)
  refine vc_seq fun K1 hK1 => ?_
  refine vc_reg ?_
  try simp (disch := omega) only [go_sem, ↓reduceIte, Nat.reduceEqDiff, reduceCtorEq, Nat.reduceAdd, Nat.reduceLeDiff, Nat.reduceMul, Int.reduceNeg, Int.reduceLT, Int.reduceAdd, Int.reduceSub]
  intro g0_0 hg0_0
  intro g0_1 hg0_1
  refine hK1 _ ?_
  refine vc_seq fun K2 hK2 => ?_
  refine vc_seq fun K3 hK3 => ?_
  refine vc_reg ?_
  try simp (disch := omega) only [go_sem, ↓reduceIte, Nat.reduceEqDiff, reduceCtorEq, Nat.reduceAdd, Nat.reduceLeDiff, Nat.reduceMul, Int.reduceNeg, Int.reduceLT, Int.reduceAdd, Int.reduceSub]
  refine hK3 _ ?_
  refine vc_cond (t := _) rfl (fun hc1 => ?_) (fun hc1 => ?_)
  · (try simp only [go_sem] at hc1)
    refine vc_seq fun K4 hK4 => ?_
    refine vc_reg ?_
    try simp (disch := omega) only [go_sem, ↓reduceIte, Nat.reduceEqDiff, reduceCtorEq, Nat.reduceAdd, Nat.reduceLeDiff, Nat.reduceMul, Int.reduceNeg, Int.reduceLT, Int.reduceAdd, Int.reduceSub]
    refine hK4 _ ?_
    refine vc_ret ?_
    refine ⟨_, by first | rfl | (simp only [go_sem, resQ, List.mapM_cons, List.mapM_nil, ↓reduceIte, Nat.reduceEqDiff, Nat.reduceAdd, Nat.reduceLeDiff, reduceCtorEq]; rfl), [], [], .nil, by simp, by simp, fun hi_ h1_ => ⟨?_, rfl, rfl⟩, by simp⟩
    rw [decide_eq_false hc1]; rfl
  · (try simp only [go_sem] at hc1)
    refine vc_skip ?_
    refine hK2 _ ?_
    refine vc_seq fun K5 hK5 => ?_
    refine vc_seq fun K6 hK6 => ?_
    refine vc_reg ?_
    try simp (disch := omega) only [go_sem, ↓reduceIte, Nat.reduceEqDiff, reduceCtorEq, Nat.reduceAdd, Nat.reduceLeDiff, Nat.reduceMul, Int.reduceNeg, Int.reduceLT, Int.reduceAdd, Int.reduceSub]
    refine hK6 _ ?_
    refine vc_cond (t := _) rfl (fun hc2 => ?_) (fun hc2 => ?_)
    · (try simp only [go_sem] at hc2)
      refine vc_seq fun K7 hK7 => ?_
      refine vc_reg ?_
      try simp (disch := omega) only [go_sem, ↓reduceIte, Nat.reduceEqDiff, reduceCtorEq, Nat.reduceAdd, Nat.reduceLeDiff, Nat.reduceMul, Int.reduceNeg, Int.reduceLT, Int.reduceAdd, Int.reduceSub]
      refine hK7 _ ?_
      refine vc_ret ?_
      refine ⟨_, by first | rfl | (simp only [go_sem, resQ, List.mapM_cons, List.mapM_nil, ↓reduceIte, Nat.reduceEqDiff, Nat.reduceAdd, Nat.reduceLeDiff, reduceCtorEq]; rfl), [], [], .nil, by simp, by simp, fun hi_ h1_ => ⟨?_, rfl, rfl⟩, by simp⟩
      rw [decide_eq_false hc2, Bool.false_and, Bool.and_false]; rfl
    · (try simp only [go_sem] at hc2)
      refine vc_skip ?_
      refine hK5 _ ?_
      refine vc_seq fun K8 hK8 => ?_
      refine vc_seq fun K9 hK9 => ?_
      refine vc_reg ?_
      try simp (disch := omega) only [go_sem, ↓reduceIte, Nat.reduceEqDiff, reduceCtorEq, Nat.reduceAdd, Nat.reduceLeDiff, Nat.reduceMul, Int.reduceNeg, Int.reduceLT, Int.reduceAdd, Int.reduceSub]
      refine vcX_call _ _ (laws_eqStringS _ _ a.vs b.vs (by omega) (by omega)) rfl rfl (by first | rfl | simp [V.pures, V.pure, V.pures_t]) ?_
      rintro r5_4 h5_4 hh5_4 rfl -
      try simp (disch := omega) only [go_sem, ↓reduceIte, Nat.reduceEqDiff, reduceCtorEq, Nat.reduceAdd, Nat.reduceLeDiff, Nat.reduceMul, Int.reduceNeg, Int.reduceLT, Int.reduceAdd, Int.reduceSub]
      refine hK9 _ ?_
      refine vc_cond (t := _) rfl (fun hc3 => ?_) (fun hc3 => ?_)
      · (try simp only [go_sem] at hc3)
        refine vc_seq fun K10 hK10 => ?_
        refine vc_reg ?_
        try simp (disch := omega) only [go_sem, ↓reduceIte, Nat.reduceEqDiff, reduceCtorEq, Nat.reduceAdd, Nat.reduceLeDiff, Nat.reduceMul, Int.reduceNeg, Int.reduceLT, Int.reduceAdd, Int.reduceSub]
        refine hK10 _ ?_
        refine vc_ret ?_
        refine ⟨_, by first | rfl | (simp only [go_sem, resQ, List.mapM_cons, List.mapM_nil, ↓reduceIte, Nat.reduceEqDiff, Nat.reduceAdd, Nat.reduceLeDiff, reduceCtorEq]; rfl), [], [], .nil, by simp, by simp, fun hi_ h1_ => ⟨?_, rfl, rfl⟩, by simp⟩
        rw [decide_eq_false (show ¬ a.vs = b.vs by simpa using hc3), Bool.false_and, Bool.and_false, Bool.and_false]; rfl
      · (try simp only [go_sem] at hc3)
        refine vc_skip ?_
        refine hK8 _ ?_
        refine vc_seq fun K11 hK11 => ?_
        refine vc_seq fun K12 hK12 => ?_
        refine vc_reg ?_
        try simp (disch := omega) only [go_sem, ↓reduceIte, Nat.reduceEqDiff, reduceCtorEq, Nat.reduceAdd, Nat.reduceLeDiff, Nat.reduceMul, Int.reduceNeg, Int.reduceLT, Int.reduceAdd, Int.reduceSub]
        refine vcX_call _ _ (laws_eqStringS _ _ a.ps b.ps (by omega) (by omega)) rfl rfl (by first | rfl | simp [V.pures, V.pure, V.pures_t]) ?_
        rintro r7_4 h7_4 hh7_4 rfl -
        try simp (disch := omega) only [go_sem, ↓reduceIte, Nat.reduceEqDiff, reduceCtorEq, Nat.reduceAdd, Nat.reduceLeDiff, Nat.reduceMul, Int.reduceNeg, Int.reduceLT, Int.reduceAdd, Int.reduceSub]
        refine hK12 _ ?_
        refine vc_cond (t := _) rfl (fun hc4 => ?_) (fun hc4 => ?_)
        · (try simp only [go_sem] at hc4)
          refine vc_seq fun K13 hK13 => ?_
          refine vc_reg ?_
          try simp (disch := omega) only [go_sem, ↓reduceIte, Nat.reduceEqDiff, reduceCtorEq, Nat.reduceAdd, Nat.reduceLeDiff, Nat.reduceMul, Int.reduceNeg, Int.reduceLT, Int.reduceAdd, Int.reduceSub]
          refine hK13 _ ?_
          refine vc_ret ?_
          refine ⟨_, by first | rfl | (simp only [go_sem, resQ, List.mapM_cons, List.mapM_nil, ↓reduceIte, Nat.reduceEqDiff, Nat.reduceAdd, Nat.reduceLeDiff, reduceCtorEq]; rfl), [], [], .nil, by simp, by simp, fun hi_ h1_ => ⟨?_, rfl, rfl⟩, by simp⟩
          rw [decide_eq_false (show ¬ a.ps = b.ps by simpa using hc4), Bool.false_and, Bool.and_false, Bool.and_false, Bool.and_false]; rfl
        · (try simp only [go_sem] at hc4)
          refine vc_skip ?_
          refine hK11 _ ?_
          refine vc_seq fun K14 hK14 => ?_
          refine vc_seq fun K15 hK15 => ?_
          refine vc_reg ?_
          try simp (disch := omega) only [go_sem, ↓reduceIte, Nat.reduceEqDiff, reduceCtorEq, Nat.reduceAdd, Nat.reduceLeDiff, Nat.reduceMul, Int.reduceNeg, Int.reduceLT, Int.reduceAdd, Int.reduceSub]
          refine vcX_call _ _ (laws_eqExpr a.bd b.bd _ _ hvx_ hvy_ (by omega) (by omega)) rfl rfl (by first | rfl | simp [V.pures, V.pure, V.pures_t]) ?_
          rintro r9_4 h9_4 hh9_4 rfl -
          try simp (disch := omega) only [go_sem, ↓reduceIte, Nat.reduceEqDiff, reduceCtorEq, Nat.reduceAdd, Nat.reduceLeDiff, Nat.reduceMul, Int.reduceNeg, Int.reduceLT, Int.reduceAdd, Int.reduceSub]
          refine hK15 _ ?_
          refine vc_cond (t := _) rfl (fun hc5 => ?_) (fun hc5 => ?_)
          · (try simp only [go_sem] at hc5)
            refine vc_seq fun K16 hK16 => ?_
            refine vc_reg ?_
            try simp (disch := omega) only [go_sem, ↓reduceIte, Nat.reduceEqDiff, reduceCtorEq, Nat.reduceAdd, Nat.reduceLeDiff, Nat.reduceMul, Int.reduceNeg, Int.reduceLT, Int.reduceAdd, Int.reduceSub]
            refine hK16 _ ?_
            refine vc_ret ?_
            refine ⟨_, by first | rfl | (simp only [go_sem, resQ, List.mapM_cons, List.mapM_nil, ↓reduceIte, Nat.reduceEqDiff, Nat.reduceAdd, Nat.reduceLeDiff, reduceCtorEq]; rfl), [], [], .nil, by simp, by simp, fun hi_ h1_ => ⟨?_, rfl, rfl⟩, by simp⟩
            rw [hc5, Bool.and_false, Bool.and_false, Bool.and_false, Bool.and_false]; rfl
          · (try simp only [go_sem] at hc5)
            refine vc_skip ?_
            refine hK14 _ ?_
            refine vc_seq fun K17 hK17 => ?_
            refine vc_reg ?_
            try simp (disch := omega) only [go_sem, ↓reduceIte, Nat.reduceEqDiff, reduceCtorEq, Nat.reduceAdd, Nat.reduceLeDiff, Nat.reduceMul, Int.reduceNeg, Int.reduceLT, Int.reduceAdd, Int.reduceSub]
            refine hK17 _ ?_
            refine vc_ret ?_
            refine ⟨_, by first | rfl | (simp only [go_sem, resQ, List.mapM_cons, List.mapM_nil, ↓reduceIte, Nat.reduceEqDiff, Nat.reduceAdd, Nat.reduceLeDiff, reduceCtorEq]; rfl), [], [], .nil, by simp, by simp, fun hi_ h1_ => ⟨?_, rfl, rfl⟩, by simp⟩
            rw [hc5, decide_eq_true hc1, decide_eq_true hc2, decide_eq_true (show a.vs = b.vs by simpa using hc3), decide_eq_true (show a.ps = b.ps by simpa using hc4)]; rfl

/-- laws.eqRuleS -/
theorem laws_eqRuleS (g g2 : Nat) (us bs : List Ru) (cs ds : List (List T)) (ha : Rl Ru.rep us cs) (hb : Rl Ru.rep bs ds) (hl : us.length < 2^60) (hl2 : bs.length < 2^60) (ih : ∀ a ∈ us, ∀ b ∈ bs, ∀ (c d : List T), Ru.rep a c → Ru.rep b d → FCtr Tryz.prog 34 [.agg (c.map .t), .agg (d.map .t)] (fun r => r = .t (.bool (Ru.eqb a b)))) : FCtr Tryz.prog 15 [.t (.sl g cs), .t (.sl g2 ds)] (fun r => r = .t (.bool (eql Ru.eqb us bs))) := by
  have hcl := ha.len
  have hdl := hb.len
  refine Ctr.of_vc (rs := [.tmp 4]) (fn := Tryz.f15) mixed Tryz.func15 rfl rfl (by kernel_rfl) (by kernel_rfl) (by simp [Tryz.ntmps15]) (fun h0 => ?_)
  refine vc_seq fun K1 hK1 => ?_
  refine vc_reg ?_
  try simp (disch := omega) only [go_sem, ↓reduceIte, Nat.reduceEqDiff, reduceCtorEq, Nat.reduceAdd, Nat.reduceLeDiff, Nat.reduceMul, Int.reduceNeg, Int.reduceLT, Int.reduceAdd, Int.reduceSub, hcl, hdl]
  refine hK1 _ ?_
  refine vc_seq fun K2 hK2 => ?_
  refine vc_seq fun K3 hK3 => ?_
  refine vc_reg ?_
  try simp (disch := omega) only [go_sem, ↓reduceIte, Nat.reduceEqDiff, reduceCtorEq, Nat.reduceAdd, Nat.reduceLeDiff, Nat.reduceMul, Int.reduceNeg, Int.reduceLT, Int.reduceAdd, Int.reduceSub, hcl, hdl]
  refine hK3 _ ?_
  refine vc_cond (t := _) rfl (fun hc1 => ?_) (fun hc1 => ?_)
  · (try simp only [go_sem] at hc1)
    refine vc_seq fun K4 hK4 => ?_
    refine vc_reg ?_
    try simp (disch := omega) only [go_sem, ↓reduceIte, Nat.reduceEqDiff, reduceCtorEq, Nat.reduceAdd, Nat.reduceLeDiff, Nat.reduceMul, Int.reduceNeg, Int.reduceLT, Int.reduceAdd, Int.reduceSub, hcl, hdl]
    refine hK4 _ ?_
    refine vc_ret ?_
    refine ⟨_, by first | rfl | (simp only [go_sem, resQ, List.mapM_cons, List.mapM_nil, ↓reduceIte, Nat.reduceEqDiff, Nat.reduceAdd, Nat.reduceLeDiff, reduceCtorEq]; rfl), [], [], .nil, by simp, by simp, fun hi_ h1_ => ⟨?_, rfl, rfl⟩, by simp⟩
    rw [eql_len (fun h => hc1 (by rw [h]))]; rfl
  · (try simp only [go_sem] at hc1)
    refine vc_skip ?_
    refine hK2 _ ?_
    refine vc_seq fun K5 hK5 => ?_
    refine vc_seq fun K6 hK6 => ?_
    refine vc_reg ?_
    try simp (disch := omega) only [go_sem, ↓reduceIte, Nat.reduceEqDiff, reduceCtorEq, Nat.reduceAdd, Nat.reduceLeDiff, Nat.reduceMul, Int.reduceNeg, Int.reduceLT, Int.reduceAdd, Int.reduceSub, hcl, hdl]
    refine hK6 _ ?_
    refine vc_block ?_
    refine vc_loop (fun m s => ∃ (n : Nat), (m = us.length - n) ∧ (s.σ = []) ∧ (s.env 0 = .t (.sl g cs)) ∧ (s.env 1 = .t (.sl g2 ds)) ∧ (s.env 5 = .t (.int .i64 n)) ∧ (n ≤ us.length) ∧ (us.length = bs.length) ∧ (eql Ru.eqb us bs = eql Ru.eqb (us.drop n) (bs.drop n))) (us.length - 0) ⟨0, rfl, rfl, (by first | rfl | assumption), (by first | rfl | assumption), (by first | rfl | assumption), (by first | rfl | omega | simp), (by omega), (by first | rfl | omega | simp)⟩ ?_
    rintro m ⟨e, σ, h⟩ ⟨n, hm, hσ, e0, e1, e5, hn, hll, he⟩ K7 hK7
    simp only at hσ e0 e1 e5
    subst hσ
    refine vc_seq fun K8 hK8 => ?_
    refine vc_seq fun K9 hK9 => ?_
    refine vc_reg ?_
    try simp (disch := omega) only [go_sem, ↓reduceIte, Nat.reduceEqDiff, reduceCtorEq, Nat.reduceAdd, Nat.reduceLeDiff, Nat.reduceMul, Int.reduceNeg, Int.reduceLT, Int.reduceAdd, Int.reduceSub, e0, e1, e5, hcl, hdl]
    refine hK9 _ ?_
    refine vc_cond (t := _) rfl (fun hc2 => ?_) (fun hc2 => ?_)
    · (try simp only [go_sem] at hc2)
      refine vc_skip ?_
      refine hK8 _ ?_
      refine vc_seq fun K10 hK10 => ?_
      refine vc_block ?_
      refine vc_seq fun K11 hK11 => ?_
      obtain ⟨cc, hcc, hrc⟩ := Rl.get ha (n := n) (by omega)
      obtain ⟨gac_, gbc_, kc_, nc_, gc_, csc_, rfl, hvc_⟩ := Ru.cells hrc
      obtain ⟨cd, hcd, hrd⟩ := Rl.get hb (n := n) (by omega)
      obtain ⟨gad_, gbd_, kd_, nd_, gd_, csd_, rfl, hvd_⟩ := Ru.cells hrd
      have hny : n < bs.length := by omega
      refine vc_regD [(0, false), (1, false), (2, false), (3, false), (4, false), (5, false), (6, false), (7, false), (8, false), (9, false)] (by kernel_rfl) ?_
      try simp (disch := omega) only [go_sem, ↓reduceIte, Nat.reduceEqDiff, reduceCtorEq, Nat.reduceAdd, Nat.reduceLeDiff, Nat.reduceMul, Int.reduceNeg, Int.reduceLT, Int.reduceAdd, Int.reduceSub, e0, e1, e5, hcl, hdl, hcc, hcd]
      refine vcX_call _ _ (ih _ (List.getElem_mem (show n < us.length by omega)) _ (List.getElem_mem (show n < bs.length by omega)) _ _ hrc hrd) rfl rfl (by first | rfl | simp [V.pures, V.pure, V.pures_t]) ?_
      rintro r6_8 h6_8 hh6_8 rfl -
      try simp (disch := omega) only [go_sem, ↓reduceIte, Nat.reduceEqDiff, reduceCtorEq, Nat.reduceAdd, Nat.reduceLeDiff, Nat.reduceMul, Int.reduceNeg, Int.reduceLT, Int.reduceAdd, Int.reduceSub, e0, e1, e5, hcl, hdl, hcc, hcd]
      refine hK11 _ ?_
      refine vc_cond (t := _) rfl (fun hc3 => ?_) (fun hc3 => ?_)
      · (try simp only [go_sem] at hc3)
        refine vc_seq fun K12 hK12 => ?_
        refine vc_reg ?_
        try simp (disch := omega) only [go_sem, ↓reduceIte, Nat.reduceEqDiff, reduceCtorEq, Nat.reduceAdd, Nat.reduceLeDiff, Nat.reduceMul, Int.reduceNeg, Int.reduceLT, Int.reduceAdd, Int.reduceSub, e0, e1, e5, hcl, hdl]
        refine hK12 _ ?_
        refine vc_ret ?_
        refine ⟨_, by first | rfl | (simp only [go_sem, resQ, List.mapM_cons, List.mapM_nil, ↓reduceIte, Nat.reduceEqDiff, Nat.reduceAdd, Nat.reduceLeDiff, reduceCtorEq]; rfl), [], [], .nil, by simp, by simp, fun hi_ h1_ => ⟨?_, rfl, rfl⟩, by simp⟩
        rw [he, eql_drop (n := n) (by omega) (by omega), hc3, Bool.false_and]; rfl
      · (try simp only [go_sem] at hc3)
        refine vc_skip ?_
        refine hK10 _ ?_
        refine vc_reg ?_
        try simp (disch := omega) only [go_sem, ↓reduceIte, Nat.reduceEqDiff, reduceCtorEq, Nat.reduceAdd, Nat.reduceLeDiff, Nat.reduceMul, Int.reduceNeg, Int.reduceLT, Int.reduceAdd, Int.reduceSub, e0, e1, e5, hcl, hdl]
        refine hK7 _ _ ?_ ⟨n + 1, rfl, rfl, (by first | rfl | assumption), (by first | rfl | assumption), (by first | rfl | assumption), ?_, ?_, ?_⟩
        · omega
        · first | omega | assumption | rfl | simp_all
        · first | omega | assumption | rfl | simp_all
        · rw [he, eql_drop (n := n) (by omega) (by omega), hc3, Bool.true_and]
    · (try simp only [go_sem] at hc2)
      refine vc_exit ?_
      refine hK5 _ ?_
      refine vc_seq fun K13 hK13 => ?_
      refine vc_reg ?_
      try simp (disch := omega) only [go_sem, ↓reduceIte, Nat.reduceEqDiff, reduceCtorEq, Nat.reduceAdd, Nat.reduceLeDiff, Nat.reduceMul, Int.reduceNeg, Int.reduceLT, Int.reduceAdd, Int.reduceSub, e0, e1, e5, hcl, hdl]
      refine hK13 _ ?_
      refine vc_ret ?_
      refine ⟨_, by first | rfl | (simp only [go_sem, resQ, List.mapM_cons, List.mapM_nil, ↓reduceIte, Nat.reduceEqDiff, Nat.reduceAdd, Nat.reduceLeDiff, reduceCtorEq]; rfl), [], [], .nil, by simp, by simp, fun hi_ h1_ => ⟨?_, rfl, rfl⟩, by simp⟩
      rw [he, List.drop_of_length_le (by omega), List.drop_of_length_le (by omega)]; rfl

/-- laws.szProgram -/
theorem laws_szProgram (us : List Ru) (c : List T) (N : Int) (hc : Pg.rep us c) (hl : us.length ≤ reachBytes) (hs : ∀ x ∈ us, x.small) (hN : 0 ≤ N ∧ N ≤ 1048576) : FCtr Tryz.prog 4 [.agg (c.map .t), .t (.int .i64 N)] (fun r => ∃ m : Int, r = .t (.int .i64 m) ∧ (m < 0 ∨ (0 ≤ m ∧ m + wl Ru.wt us = N))) := by
  obtain ⟨g, cs, rfl, ha⟩ := hc
  refine Ctr.of_vc (rs := [.tmp 4]) (fn := Tryz.f4) mixed Tryz.func4 rfl rfl (by kernel_rfl) (by kernel_rfl) (by simp [Tryz.ntmps4]) (fun h0 => ?_)
  refine vc_seq fun K1 hK1 => ?_
  refine vc_reg ?_
  try simp (disch := omega) only [go_sem, ↓reduceIte, Nat.reduceEqDiff, reduceCtorEq, Nat.reduceAdd, Nat.reduceLeDiff, Nat.reduceMul, Int.reduceNeg, Int.reduceLT, Int.reduceAdd, Int.reduceSub]
  intro g0_0 hg0_0
  refine hK1 _ ?_
  refine vc_seq fun K2 hK2 => ?_
  refine vc_reg ?_
  try simp (disch := omega) only [go_sem, ↓reduceIte, Nat.reduceEqDiff, reduceCtorEq, Nat.reduceAdd, Nat.reduceLeDiff, Nat.reduceMul, Int.reduceNeg, Int.reduceLT, Int.reduceAdd, Int.reduceSub]
  refine vcX_call _ _ (laws_szRuleS g us cs N ha hl hN (fun a ha c N h1 h2 => laws_szRule a c N h1 (hs a ha) h2)) rfl rfl (by first | rfl | simp [V.pures, V.pure, V.pures_t]) ?_
  rintro r1_3 h1_3 hh1_3 ⟨m1, rfl, hm1⟩ -
  try simp (disch := omega) only [go_sem, ↓reduceIte, Nat.reduceEqDiff, reduceCtorEq, Nat.reduceAdd, Nat.reduceLeDiff, Nat.reduceMul, Int.reduceNeg, Int.reduceLT, Int.reduceAdd, Int.reduceSub]
  refine hK2 _ ?_
  refine vc_seq fun K3 hK3 => ?_
  refine vc_seq fun K4 hK4 => ?_
  refine vc_reg ?_
  try simp (disch := omega) only [go_sem, ↓reduceIte, Nat.reduceEqDiff, reduceCtorEq, Nat.reduceAdd, Nat.reduceLeDiff, Nat.reduceMul, Int.reduceNeg, Int.reduceLT, Int.reduceAdd, Int.reduceSub]
  refine hK4 _ ?_
  refine vc_cond (t := _) rfl (fun hc1 => ?_) (fun hc1 => ?_)
  · (try simp only [go_sem] at hc1)
    refine vc_seq fun K5 hK5 => ?_
    refine vc_reg ?_
    try simp (disch := omega) only [go_sem, ↓reduceIte, Nat.reduceEqDiff, reduceCtorEq, Nat.reduceAdd, Nat.reduceLeDiff, Nat.reduceMul, Int.reduceNeg, Int.reduceLT, Int.reduceAdd, Int.reduceSub]
    refine hK5 _ ?_
    refine vc_ret ?_
    refine ⟨_, by first | rfl | (simp only [go_sem, resQ, List.mapM_cons, List.mapM_nil, ↓reduceIte, Nat.reduceEqDiff, Nat.reduceAdd, Nat.reduceLeDiff, reduceCtorEq]; rfl), [], [], .nil, by simp, by simp, fun hi_ h1_ => ⟨?_, rfl, rfl⟩, by simp⟩
    first | exact ⟨_, rfl, .inr (by omega)⟩ | exact ⟨_, rfl, .inl (by omega)⟩
  · (try simp only [go_sem] at hc1)
    refine vc_skip ?_
    refine hK3 _ ?_
    refine vc_seq fun K6 hK6 => ?_
    refine vc_reg ?_
    try simp (disch := omega) only [go_sem, ↓reduceIte, Nat.reduceEqDiff, reduceCtorEq, Nat.reduceAdd, Nat.reduceLeDiff, Nat.reduceMul, Int.reduceNeg, Int.reduceLT, Int.reduceAdd, Int.reduceSub]
    refine hK6 _ ?_
    refine vc_ret ?_
    refine ⟨_, by first | rfl | (simp only [go_sem, resQ, List.mapM_cons, List.mapM_nil, ↓reduceIte, Nat.reduceEqDiff, Nat.reduceAdd, Nat.reduceLeDiff, reduceCtorEq]; rfl), [], [], .nil, by simp, by simp, fun hi_ h1_ => ⟨?_, rfl, rfl⟩, by simp⟩
    first | exact ⟨_, rfl, .inr (by omega)⟩ | exact ⟨_, rfl, .inl (by omega)⟩

/-- laws.toProgram -/
theorem laws_toProgram (us : List Ru) (c : List T) (hc : Pg.rep us c) (hw : wl Ru.wt us < 2^40) : FCtr Tryz.prog 6 [.agg (c.map .t)] (fun r => ∃ c' : List T, r = .agg (c'.map .t) ∧ Pg.rep us c') := by
  obtain ⟨g, cs, rfl, ha⟩ := hc
  have hl1_ := wl_len Ru.wt us
  refine Ctr.of_vc (rs := [.cell 2 29]) (fn := Tryz.f6) mixed Tryz.func6 rfl rfl (by kernel_rfl) (by kernel_rfl) (by simp [Tryz.ntmps6]) (fun h0 => ?_)
  refine vc_seq fun K1 hK1 => ?_
  refine vc_reg ?_
  try simp (disch := omega) only [go_sem, ↓reduceIte, Nat.reduceEqDiff, reduceCtorEq, Nat.reduceAdd, Nat.reduceLeDiff, Nat.reduceMul, Int.reduceNeg, Int.reduceLT, Int.reduceAdd, Int.reduceSub]
  intro g0_0 hg0_0
  intro g0_1 hg0_1
  refine hK1 _ ?_
  refine vc_seq fun K2 hK2 => ?_
  refine vc_reg ?_
  try simp (disch := omega) only [go_sem, ↓reduceIte, Nat.reduceEqDiff, reduceCtorEq, Nat.reduceAdd, Nat.reduceLeDiff, Nat.reduceMul, Int.reduceNeg, Int.reduceLT, Int.reduceAdd, Int.reduceSub]
  intro g1_0 hg1_0
  refine hK2 _ ?_
  refine vc_seq fun K3 hK3 => ?_
  refine vc_reg ?_
  try simp (disch := omega) only [go_sem, ↓reduceIte, Nat.reduceEqDiff, reduceCtorEq, Nat.reduceAdd, Nat.reduceLeDiff, Nat.reduceMul, Int.reduceNeg, Int.reduceLT, Int.reduceAdd, Int.reduceSub]
  refine vcX_call _ _ (laws_toRuleS g us cs ha (by omega) (fun a ha c h1 => laws_toRule a c h1 (by have := wl_mem (f := Ru.wt) ha; omega))) rfl rfl (by first | rfl | simp [V.pures, V.pure, V.pures_t]) ?_
  rintro r2_2 h2_2 hh2_2 ⟨g', cs', rfl, hcs'⟩ -
  try simp (disch := omega) only [go_sem, ↓reduceIte, Nat.reduceEqDiff, reduceCtorEq, Nat.reduceAdd, Nat.reduceLeDiff, Nat.reduceMul, Int.reduceNeg, Int.reduceLT, Int.reduceAdd, Int.reduceSub]
  refine hK3 _ ?_
  refine vc_seq fun K4 hK4 => ?_
  refine vc_reg ?_
  try simp (disch := omega) only [go_sem, ↓reduceIte, Nat.reduceEqDiff, reduceCtorEq, Nat.reduceAdd, Nat.reduceLeDiff, Nat.reduceMul, Int.reduceNeg, Int.reduceLT, Int.reduceAdd, Int.reduceSub]
  refine hK4 _ ?_
  refine vc_ret ?_
  refine ⟨_, (by first | rfl | (simp only [go_sem, resQ, List.mapM_cons, List.mapM_nil, ↓reduceIte, Nat.reduceEqDiff, Nat.reduceAdd, Nat.reduceLeDiff, reduceCtorEq]; rfl)), [], [], .nil, by simp, by simp, fun hi_ h1_ => ⟨⟨[.sl g' cs'], rfl, ⟨g', cs', rfl, hcs'⟩⟩, rfl, rfl⟩, by simp⟩

/-- laws.eqProgram -/
theorem laws_eqProgram (us bs : List Ru) (c d : List T) (hc : Pg.rep us c) (hd : Pg.rep bs d) (hw : wl Ru.wt us < 2^40) (hw2 : wl Ru.wt bs < 2^40) : FCtr Tryz.prog 8 [.agg (c.map .t), .agg (d.map .t)] (fun r => r = .t (.bool (eql Ru.eqb us bs))) := by
  obtain ⟨g, cs, rfl, ha⟩ := hc
  obtain ⟨g2, cs2, rfl, hb⟩ := hd
  have hl1_ := wl_len Ru.wt us
  have hl2_ := wl_len Ru.wt bs
  refine Ctr.of_vc (rs := [.tmp 4]) (fn := Tryz.f8) mixed Tryz.func8 rfl rfl (by kernel_rfl) (by kernel_rfl) (by simp [Tryz.ntmps8]) (fun h0 => ?_)
  refine vc_seq fun K1 hK1 => ?_
  refine vc_reg ?_
  try simp (disch := omega) only [go_sem, ↓reduceIte, Nat.reduceEqDiff, reduceCtorEq, Nat.reduceAdd, Nat.reduceLeDiff, Nat.reduceMul, Int.reduceNeg, Int.reduceLT, Int.reduceAdd, Int.reduceSub]
  intro g0_0 hg0_0
  intro g0_1 hg0_1
  refine hK1 _ ?_
  refine vc_seq fun K2 hK2 => ?_
  refine vc_seq fun K3 hK3 => ?_
  refine vc_reg ?_
  try simp (disch := omega) only [go_sem, ↓reduceIte, Nat.reduceEqDiff, reduceCtorEq, Nat.reduceAdd, Nat.reduceLeDiff, Nat.reduceMul, Int.reduceNeg, Int.reduceLT, Int.reduceAdd, Int.reduceSub]
  refine vcX_call _ _ (laws_eqRuleS g g2 us bs cs cs2 ha hb (by omega) (by omega) (fun a ha b hb c d h1 h2 => laws_eqRule a b c d h1 h2 (by have := wl_mem (f := Ru.wt) ha; omega) (by have := wl_mem (f := Ru.wt) hb; omega))) rfl rfl (by first | rfl | simp [V.pures, V.pure, V.pures_t]) ?_
  rintro r1_4 h1_4 hh1_4 rfl -
  try simp (disch := omega) only [go_sem, ↓reduceIte, Nat.reduceEqDiff, reduceCtorEq, Nat.reduceAdd, Nat.reduceLeDiff, Nat.reduceMul, Int.reduceNeg, Int.reduceLT, Int.reduceAdd, Int.reduceSub]
  refine hK3 _ ?_
  refine vc_cond (t := _) rfl (fun hc1 => ?_) (fun hc1 => ?_)
  · (try simp only [go_sem] at hc1)
    refine vc_seq fun K4 hK4 => ?_
    refine vc_reg ?_
    try simp (disch := omega) only [go_sem, ↓reduceIte, Nat.reduceEqDiff, reduceCtorEq, Nat.reduceAdd, Nat.reduceLeDiff, Nat.reduceMul, Int.reduceNeg, Int.reduceLT, Int.reduceAdd, Int.reduceSub]
    refine hK4 _ ?_
    refine vc_ret ?_
    refine ⟨_, by first | rfl | (simp only [go_sem, resQ, List.mapM_cons, List.mapM_nil, ↓reduceIte, Nat.reduceEqDiff, Nat.reduceAdd, Nat.reduceLeDiff, reduceCtorEq]; rfl), [], [], .nil, by simp, by simp, fun hi_ h1_ => ⟨?_, rfl, rfl⟩, by simp⟩
    rw [hc1]; rfl
  · (try simp only [go_sem] at hc1)
    refine vc_skip ?_
    refine hK2 _ ?_
    refine vc_seq fun K5 hK5 => ?_
    refine vc_reg ?_
    try simp (disch := omega) only [go_sem, ↓reduceIte, Nat.reduceEqDiff, reduceCtorEq, Nat.reduceAdd, Nat.reduceLeDiff, Nat.reduceMul, Int.reduceNeg, Int.reduceLT, Int.reduceAdd, Int.reduceSub]
    refine hK5 _ ?_
    refine vc_ret ?_
    refine ⟨_, by first | rfl | (simp only [go_sem, resQ, List.mapM_cons, List.mapM_nil, ↓reduceIte, Nat.reduceEqDiff, Nat.reduceAdd, Nat.reduceLeDiff, reduceCtorEq]; rfl), [], [], .nil, by simp, by simp, fun hi_ h1_ => ⟨?_, rfl, rfl⟩, by simp⟩
    rw [hc1]; rfl
end Go.Proofs.YtldhhppfnhgcdaaGreat
