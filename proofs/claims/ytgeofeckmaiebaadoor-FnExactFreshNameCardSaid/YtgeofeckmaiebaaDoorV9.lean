/- A logic of values for walks: parts 9 to 16. -/
import Derived.Test.YtgeofeckmaiebaaDoorV5
import Derived.Laws.BitsLemmas
namespace Go.VL
set_option linter.unusedVariables false
set_option linter.unusedSimpArgs false

/-- The objects that an operation writes. -/
def touched (s : St) : Op → List Nat
  | .store _ p _ => (s.eval p).root.toList
  | .mapUpdate _ m _ _ => (s.eval m).root.toList
  | .call c => match c.args[0]? with | some x => (s.eval x).root.toList | none => []
  | _ => []

/-- One operation that is carried out: what it asks, of what holds of its result and the objects behind it. -/
def vcRun (W0 : World) (P : Program) (s : St) (op : Op) (tc : List Nat → Prop) (K : V → List Ob → Nat → Prop) : Prop :=
  if isQuiet op then match evalQ P s op with | some v => K v s.σ s.h | none => False
  else match op with
    | .call c => if isApp c.callee then tc (touched s (.call c)) ∧ vcE P s (.call c) K else vcCall W0 P s c tc K
    | op => tc (touched s op) ∧ vcE P s op K

/-- Is an operation with a guard carried out? -/
def gd (ops : Array Oper) (o : Oper) (s : St) : Option Bool := match o.guard with
  | none => some true
  | some (j, b) => match (ops[j]?).bind (·.dst) with
    | none => none
    | some t => match s.env t with | .t (.bool b') => some (b' == b) | .skip => some false | _ => none

def vcOp (W0 : World) (P : Program) (ops : Array Oper) (o : Oper) (tc : List Nat → Prop) (K : St → Prop) (s : St) : Prop := match gd ops o s with
  | some true => vcRun W0 P s o.op tc (fun v σ h => K ⟨(s.put o.dst v).env, σ, h⟩)
  | some false => K (s.put o.dst .skip)
  | none => False

section
variable {W0 : World} {P : Program} {w0 : World} {av0 X : Nat → Prop} {N : Nat} {a : Act} {w : World} {s : St}

theorem St.put_env_σ (s : St) (d : Option Tmp) (v : V) (σ : List Ob) (h : Nat) : ({ (⟨s.env, σ, h⟩ : St) with } : St).put d v = ⟨(s.put d v).env, σ, h⟩ := by cases d <;> rfl

theorem vcRun_sound (hi : Inv w0 av0 X N a w s) (hX : ∀ b, X b → b < w.heap.size) (hB : BaseA W0 w0 av0) {o : Oper} (hd : ∀ t, o.dst = some t → t < N) {tc : List Nat → Prop} {K : V → List Ob → Nat → Prop} (h : vcRun W0 P s o.op tc K) {Q : Exit → Act → World → Prop} :
    o.wp P a w (fun a' w' => ∃ (v : V) (σ' : List Ob) (h' : Nat), Inv w0 av0 X N a' w' ⟨(s.put o.dst v).env, σ', h'⟩ ∧ K v σ' h') Q := by
  have fin : ∀ (val : Value) (w' : World) (v : V) (σ' : List Ob) (h' : Nat), Inv w0 av0 X N a w' ⟨s.env, σ', h'⟩ → VR w' X σ' v val → K v σ' h' →
      ∃ (v : V) (σ' : List Ob) (h' : Nat), Inv w0 av0 X N (a.put o.dst val) w' ⟨(s.put o.dst v).env, σ', h'⟩ ∧ K v σ' h' := fun val w' v σ' h' h1 h2 h3 => by
    refine ⟨v, σ', h', ?_, h3⟩
    have := h1.put hd h2
    rwa [St.put_env_σ] at this
  have give : ∀ {m : Sem Value}, (execOp a.eval o = do pure (.value (← m))) → Gives P w0 av0 X N a w s m K → o.wp P a w (fun a' w' => ∃ (v : V) (σ' : List Ob) (h' : Nat), Inv w0 av0 X N a' w' ⟨(s.put o.dst v).env, σ', h'⟩ ∧ K v σ' h') Q := fun {m} he ⟨val, w', v, σ', h', h1, h2, h3, h4⟩ => by
    unfold Oper.wp
    rw [he]
    simp only [Sem.run_bind, h1, Result.andThen_ok, Sem.run_pure, Oper.upon_value]
    exact fin val w' v σ' h' h2 h3 h4
  obtain ⟨dst, op, ty, pos, after, guard⟩ := o
  simp only at h hd fin give
  unfold vcRun at h
  by_cases hq : isQuiet op = true
  · rw [if_pos hq] at h
    split at h
    · rename_i v hv
      obtain ⟨val, h1, h2⟩ := evalQ_sound (P := P) (o := ⟨dst, op, ty, pos, after, guard⟩) hi hv
      unfold Oper.wp
      rw [h1, Oper.upon_value]
      exact fin val w v s.σ s.h hi h2 h
    · exact h.elim
  · rw [if_neg hq] at h
    clear hq
    cases op
    case call c =>
      simp only at h
      by_cases hc : isApp c.callee = true
      · rw [if_pos hc] at h
        refine give ?_ (gives_append (ty := ty) hi hX hc h.2)
        obtain ⟨callee, args, ts⟩ := c
        cases callee <;> simp only [isApp, Bool.false_eq_true] at hc
        rename_i b
        cases b <;> simp only [Bool.false_eq_true] at hc
        rfl
      · rw [if_neg hc] at h
        exact vcCall_sound hi hX hB (o := ⟨dst, .call c, ty, pos, after, guard⟩) rfl h (fun val w' v σ' h' h1 h2 h3 => fin val w' v σ' h' h1 h2 h3)
    case alloc t => exact give rfl (gives_alloc hi hX h.2)
    case box t x => exact give rfl (gives_box hi hX h.2)
    case buildSlice t len parts => exact give rfl (gives_buildSlice hi hX h.2)
    case makeSlice t l c => exact give rfl (gives_makeSlice hi hX h.2)
    case store t p x =>
      obtain ⟨w', σ', h', h1, h2, h3⟩ := gives_store hi h.2
      have he : (execOp a.eval ⟨dst, .store t p x, ty, pos, after, guard⟩).run P w = .ok .skip w' := by
        show (do (Instr.storeAt t (a.eval p) (a.eval x)); pure Next.skip : Sem Next).run P w = _
        simp [h1]
      unfold Oper.wp
      rw [he, Oper.upon_skip]
      exact fin _ w' .skip σ' h' h2 .skip h3
    case makeMap t r => exact give rfl (gives_makeMap hi hX h.2)
    case mapUpdate t m k x =>
      obtain ⟨w', σ', h', h1, h2, h3⟩ := gives_mapUpdate hi h.2
      have he : (execOp a.eval ⟨dst, .mapUpdate t m k x, ty, pos, after, guard⟩).run P w = .ok .skip w' := by
        show (do (Instr.mapUpdate t (a.eval m) (a.eval k) (a.eval x)); pure Next.skip : Sem Next).run P w = _
        simp [h1]
      unfold Oper.wp
      rw [he, Oper.upon_skip]
      exact fin _ w' .skip σ' h' h2 .skip h3
    all_goals exact h.2.elim

/-- A guard's answer, as the machine sees it. -/
theorem gd_sound (hi : Inv w0 av0 X N a w s) {ops : Array Oper} (hd : ∀ (j : Nat) (o : Oper) (t : Nat), ops[j]? = some o → o.dst = some t → t < N) {o : Oper} {b : Bool} (h : gd ops o s = some b) : Region.wanted o (yielded ops a.tmps) = b := by
  unfold gd at h
  unfold Region.wanted
  cases hg : o.guard with
  | none =>
    rw [hg] at h
    simpa using h
  | some jb =>
    obtain ⟨j, want⟩ := jb
    rw [hg] at h
    simp only at h ⊢
    cases ht : (ops[j]?).bind (·.dst) with
    | none => rw [ht] at h; cases h
    | some t =>
      rw [ht] at h
      simp only at h
      have htN : t < a.tmps.size := by
        rw [hi.sz]
        cases hoj : ops[j]? with
        | none => rw [hoj] at ht; cases ht
        | some oj => rw [hoj] at ht; exact hd j oj t hoj ht
      have hy : yielded ops a.tmps j = match a.tmps.getD t Go.undef with | .bool b => some b | _ => none := by
        unfold yielded
        rw [ht]
        simp only [Option.bind_some]
        rw [Array.getD_eq_getD_getElem?, Array.getElem?_eq_getElem htN]
        simp only [Option.getD_some]
        split <;> simp_all
      have hv := hi.env t
      split at h
      · rename_i b' hb'
        simp only [Option.some.injEq] at h
        rw [hb'] at hv
        rw [hy, hv.bool_inv]
        rw [← h]
        cases b' <;> cases want <;> rfl
      · rename_i hb'
        simp only [Option.some.injEq] at h
        rw [hb'] at hv
        generalize a.tmps.getD t Go.undef = z at hv hy
        cases hv
        rw [hy, ← h]
        rfl
      · cases h

theorem vcOp_sound (hi : Inv w0 av0 X N a w s) (hX : ∀ b, X b → b < w.heap.size) (hB : BaseA W0 w0 av0) {ops : Array Oper} (hd : ∀ (j : Nat) (o : Oper) (t : Nat), ops[j]? = some o → o.dst = some t → t < N) {i : Nat} {o : Oper} (ho : ops[i]? = some o)
    {tc : List Nat → Prop} {K : St → Prop} (h : vcOp W0 P ops o tc K s) {Q : Exit → Act → World → Prop} : wpOp P ops Q i (fun a' w' => ∃ s', Inv w0 av0 X N a' w' s' ∧ K s') a w := by
  unfold vcOp at h
  unfold wpOp
  rw [ho]
  simp only
  split at h
  · rename_i hg
    rw [gd_sound hi hd hg]
    simp only [if_true]
    exact .inl (Oper.wp_mono (fun a' w' ⟨v, σ', h', h1, h2⟩ => ⟨_, h1, h2⟩) (vcRun_sound hi hX hB (fun t ht => hd i o t ho ht) h))
  · rename_i hg
    rw [gd_sound hi hd hg]
    simp only [Bool.false_eq_true, if_false]
    exact ⟨_, hi.put (fun t ht => hd i o t ho ht) .skip, h⟩
  · exact h.elim
end

/-- The operations of a region in the text's order. -/
def vcOps (W0 : World) (P : Program) (ops : Array Oper) : List Oper → (St → Prop) → St → Prop
  | [], K, s => K s
  | o :: l, K, s => vcOp W0 P ops o (fun _ => True) (vcOps W0 P ops l K) s

theorem Inv.hX {w0 : World} {av0 X : Nat → Prop} {N : Nat} {a : Act} {w : World} {s : St} (hi : Inv w0 av0 X N a w s) (hX : ∀ b, X b → b < w0.heap.size) : ∀ b, X b → b < w.heap.size := fun b hb => Nat.lt_of_lt_of_le (hX b hb) hi.fr.size

theorem vcOps_sound {W0 : World} {P : Program} {w0 : World} {av0 X : Nat → Prop} {N : Nat} (hX : ∀ b, X b → b < w0.heap.size) (hB : BaseA W0 w0 av0) {ops : Array Oper} (hd : ∀ (j : Nat) (o : Oper) (t : Nat), ops[j]? = some o → o.dst = some t → t < N) {Q : Exit → Act → World → Prop} {K : St → Prop}
    (hQ : ∀ a w s, Inv w0 av0 X N a w s → K s → Q .normal a w) : ∀ (l : List Nat) (a : Act) (w : World) (s : St), Inv w0 av0 X N a w s → vcOps W0 P ops (l.filterMap (ops[·]?)) K s → wpOps P ops Q l a w
  | [], a, w, s, hi, h => hQ a w s hi h
  | i :: l, a, w, s, hi, h => by
    rw [wpOps_cons]
    cases ho : ops[i]? with
    | none =>
      unfold wpOp
      rw [ho]
      simp only [List.filterMap_cons, ho] at h
      exact vcOps_sound hX hB hd hQ l a w s hi h
    | some o =>
      simp only [List.filterMap_cons, ho, vcOps] at h
      exact wpOp_mono (fun a' w' ⟨s', h1, h2⟩ => vcOps_sound hX hB hd hQ l a' w' s' h1 h2) (vcOp_sound hi (hi.hX hX) hB hd ho h)
end Go.VL
namespace Go.VL
set_option linter.unusedVariables false
set_option linter.unusedSimpArgs false

/-! ### what a quiet operation depends on -/
theorem cells_congr {s s' : St} {p : V} {n : Nat} (h : ∀ r, p.root = some r → s'.σ[r]? = s.σ[r]?) : s'.cells p n = s.cells p n := by
  cases p <;> first | rfl | (simp only [St.cells]; rw [h _ rfl])
theorem live_congr {s s' : St} {p : V} (h : ∀ r, p.root = some r → s'.σ[r]? = s.σ[r]?) : s'.live p = s.live p := by
  cases p <;> first | rfl | (simp only [St.live]; rw [h _ rfl])
theorem elems_congr {s s' : St} {p : V} (h : ∀ r, p.root = some r → s'.σ[r]? = s.σ[r]?) : s'.elems p = s.elems p := by
  cases p <;> first | rfl | (simp only [St.elems]; rw [h _ rfl]) | (rename_i x; cases x <;> rfl)

/-- The objects that an operation's operands lead to at once. -/
def roots (s : St) (op : Op) : List Nat := op.operands.toList.filterMap fun x => (s.eval x).root

theorem evalQ_congr {P : Program} {s s' : St} {op : Op} (he : ∀ x ∈ op.operands, s'.eval x = s.eval x) (hσ : ∀ r ∈ roots s op, s'.σ[r]? = s.σ[r]?) : evalQ P s' op = evalQ P s op := by
  have hr : ∀ x ∈ op.operands, ∀ r, (s.eval x).root = some r → s'.σ[r]? = s.σ[r]? := fun x hx r h => hσ r (List.mem_filterMap.2 ⟨x, by simpa using hx, h⟩)
  cases op <;> simp only [Op.operands] at he hr <;> simp only [evalQ]
  case move x => rw [he x (by simp)]
  case assign x => rw [he x (by simp)]
  case pick c a b => rw [he c (by simp), he a (by simp), he b (by simp)]
  case load t x => rw [he x (by simp)]; unfold loadQ; rw [cells_congr (hr x (by simp))]; split <;> first | rfl | (rename_i n _ _; rw [cells_congr (hr x (by simp))])
  case nilCheck x =>
    rw [he x (by simp)]
    have := live_congr (hr x (by simp))
    cases hx : s.eval x <;> first | rfl | (simp only [nilCheckQ]; rw [hx] at this; rw [this])
  case binOp op t x y yt => rw [he x (by simp), he y (by simp)]
  case unOp op t x => rw [he x (by simp)]
  case convert src dst x =>
    rw [he x (by simp)]
    unfold convQ
    have := elems_congr (hr x (by simp))
    split <;> first | rfl | (split <;> first | rfl | (rw [this]))
  case makeFunc fn first captured =>
    have : captured.toList.map s'.eval = captured.toList.map s.eval := List.map_congr_left fun x hx => he x (by simp [Array.mem_toList_iff.1 hx])
    rw [this]
  case fieldAddr t x f =>
    rw [he x (by simp)]
    have := live_congr (hr x (by simp))
    unfold fieldAddrQ
    cases hx : s.eval x <;> cases tField P t f <;> first | rfl | (simp only; rw [hx] at this; rw [this])
  case field t x f => rw [he x (by simp)]
  case indexAddr t x i =>
    rw [he x (by simp), he i (by simp)]
    unfold indexAddrQ
    cases tElem P t with
    | none => rfl
    | some e =>
      simp only
      cases tSize P e with
      | none => rfl
      | some sz =>
        simp only
        cases hx : s.eval x <;> try rfl
        case t q => cases q <;> first | rfl | (cases s.eval i <;> first | rfl | (rename_i z; cases z <;> rfl))
        case own r ver off len =>
          cases s.eval i <;> try rfl
          rename_i z
          cases z <;> try rfl
          simp only
          rw [hr x (by simp) r (by rw [hx]; rfl)]
  case index t x i => rw [he x (by simp), he i (by simp)]
  case extract x i => rw [he x (by simp)]
  case lookup t m k ok =>
    rw [he m (by simp), he k (by simp)]
    unfold lookupQ
    cases hx : s.eval m <;> try rfl
    rename_i r
    cases s.eval k <;> try rfl
    rename_i z
    cases z <;> try rfl
    simp only
    rw [hr m (by simp) r (by rw [hx]; rfl)]
  case build t parts =>
    have : (parts.toList.map fun p => (p.1, s'.eval p.2)) = parts.toList.map fun p => (p.1, s.eval p.2) := List.map_congr_left fun p hp => by
      rw [he p.2 (by simp; exact ⟨p.1, by simpa using hp⟩)]
    rw [this]
  case slice t x lo hi mx =>
    have h1 : lo.map s'.eval = lo.map s.eval := by
      cases lo with
      | none => rfl
      | some y => simp only [Option.map_some]; rw [he y (by simp)]
    have h2 : hi.map s'.eval = hi.map s.eval := by
      cases hi with
      | none => rfl
      | some y => simp only [Option.map_some]; rw [he y (by simp)]
    rw [he x (by simp), h1, h2]
    unfold sliceQ
    cases hx : s.eval x <;> first | rfl | (simp only; rw [hr x (by simp) _ (by rw [hx]; rfl)]) | (rename_i q; cases q <;> rfl)
  case call c =>
    obtain ⟨callee, args, ts⟩ := c
    simp only [Call.operands] at he hr ⊢
    have hargs : ∀ x ∈ args.toList, s'.eval x = s.eval x := fun x hx => he x (by simp [Array.mem_toList_iff.1 hx])
    have hargr : ∀ x ∈ args.toList, ∀ r, (s.eval x).root = some r → s'.σ[r]? = s.σ[r]? := fun x hx => hr x (by simp [Array.mem_toList_iff.1 hx])
    split
    · rename_i x t ha ht
      rw [hargs x (by rw [ha]; simp)]
      have := live_congr (hargr x (by rw [ha]; simp))
      unfold lenQ
      cases hx : s.eval x <;> first | rfl | (simp only; rw [hx] at this; rw [this]) | (rename_i q; cases q <;> rfl)
    · rename_i x t ha ht
      rw [hargs x (by rw [ha]; simp)]
    · rename_i x y ha
      rw [hargs x (by rw [ha]; simp), hargs y (by rw [ha]; simp)]
    · rename_i x y ha
      rw [hargs x (by rw [ha]; simp), hargs y (by rw [ha]; simp)]
    · rfl

theorem vcE_mono {P : Program} {s : St} {op : Op} {K K' : V → List Ob → Nat → Prop} (hK : ∀ v σ h, K v σ h → K' v σ h) (h : vcE P s op K) : vcE P s op K' := by
  cases op
  case alloc t =>
    simp only [vcE] at h ⊢
    revert h
    cases tZero P t with
    | none => exact fun h => h
    | some z => exact fun h g hg => hK _ _ _ (h g hg)
  case box t x => exact ⟨h.1, fun g hg => hK _ _ _ (h.2 g hg)⟩
  case buildSlice t len parts =>
    simp only [vcE] at h ⊢
    revert h
    cases tElem P t with
    | none => exact fun h => h
    | some e =>
      simp only
      cases tSize P e with
      | none => exact fun h => h
      | some sz =>
        cases tZero P e with
        | none => exact fun h => h
        | some z =>
          simp only
          cases fillRow sz (List.replicate len z) (parts.toList.map fun p => (p.1, s.eval p.2)) with
          | none => exact fun h => h
          | some es => exact fun h => ⟨h.1, h.2.1, h.2.2.1, h.2.2.2.elim (fun h => .inl fun g hg => hK _ _ _ (h g hg)) (fun h => .inr ⟨h.1, fun h' hh => hK _ _ _ (h.2 h' hh)⟩)⟩
  case makeSlice t l c =>
    simp only [vcE] at h ⊢
    revert h
    cases tElem P t with
    | none => exact fun h => h
    | some e =>
      simp only
      generalize tSize P e = x1, tZero P e = x2, tBytes P e = x3, s.eval l = x4, s.eval c = x5
      split
      · exact fun h => ⟨h.1, h.2.1, h.2.2.1, h.2.2.2.1, h.2.2.2.2.1, h.2.2.2.2.2.1, fun g hg => hK _ _ _ (h.2.2.2.2.2.2 g hg)⟩
      · exact fun h => h
  case store t p x =>
    simp only [vcE] at h ⊢
    revert h
    generalize tSize P t = x1, s.eval p = x2
    split
    · rename_i r ver i j
      generalize s.σ[r]? = x3
      split
      · rename_i g v sz m es
        generalize es[i]? = x4
        split
        · exact fun h => ⟨h.1, h.2.1, h.2.2.1, h.2.2.2.1, hK _ _ _ h.2.2.2.2⟩
        · exact fun h => h
      · exact fun h => h
    · exact fun h => h
  case call c =>
    simp only [vcE] at h ⊢
    revert h
    by_cases hc : isApp c.callee = true
    · rw [if_pos hc, if_pos hc]
      generalize c.args.toList = a1, c.argTypes.toList = a2
      split
      · rename_i x y t t2
        generalize tElem P t = a3
        split
        · rename_i e
          generalize tSize P e = b1, tZero P e = b2, tBytes P e = b3
          generalize appElems P s (b1.getD 0) b2 t2 (s.eval y) = b4
          split
          · rename_i sz z b l
            rintro ⟨h1, h2, h3, h4, h⟩
            refine ⟨h1, h2, h3, h4, ?_⟩
            revert h
            generalize s.eval x = xv
            split
            · rintro ⟨h5, h⟩
              refine ⟨h5, ?_⟩
              by_cases h0 : l.length = 0
              · rw [if_pos h0] at h ⊢
                exact hK _ _ _ h
              · rw [if_neg h0] at h ⊢
                exact fun g n hg => hK _ _ _ (h g n hg)
            · rename_i r ver len
              generalize s.σ[r]? = x3
              split
              · rintro ⟨h5, h6, h7, h⟩
                exact ⟨h5, h6, h7, fun g n h' hg => hK _ _ _ (h g n h' hg)⟩
              · exact fun h => h
            · exact fun h => h
          · exact fun h => h
        · exact fun h => h
      · exact fun h => h
    · rw [if_neg hc]
      exact fun h => h.elim
  case makeMap t r =>
    simp only [vcE] at h ⊢
    cases r with
    | some x => simp at h
    | none => simp only [Option.isNone_none, if_true] at h ⊢; exact fun g hg => hK _ _ _ (h g hg)
  case mapUpdate t m k x =>
    simp only [vcE] at h ⊢
    revert h
    generalize s.eval m = x1, s.eval k = x2
    split
    · rename_i r b
      generalize s.σ[r]? = x3
      split
      · exact fun h => ⟨h.1, h.2.1, h.2.2.1, h.2.2.2.1, hK _ _ _ h.2.2.2.2⟩
      · exact fun h => h
    · exact fun h => h
  all_goals exact h.elim

theorem get_app {σ : List Ob} {o : Ob} {r : Nat} (h : r < σ.length) : (σ ++ [o])[r]? = σ[r]? := List.getElem?_append_left h

/-- Only what an operation touches has turned. -/
theorem vcE_touch {P : Program} {s : St} {op : Op} {K : V → List Ob → Nat → Prop} (h : vcE P s op K) : vcE P s op (fun v σ' h' => K v σ' h' ∧ ∀ r, r < s.σ.length → r ∉ touched s op → σ'[r]? = s.σ[r]?) := by
  cases op
  case alloc t =>
    simp only [vcE] at h ⊢
    revert h
    cases tZero P t with
    | none => exact fun h => h
    | some z => exact fun h g hg => ⟨h g hg, fun r hr _ => get_app hr⟩
  case box t x => exact ⟨h.1, fun g hg => ⟨h.2 g hg, fun r hr _ => get_app hr⟩⟩
  case buildSlice t len parts =>
    simp only [vcE] at h ⊢
    revert h
    cases tElem P t with
    | none => exact fun h => h
    | some e =>
      simp only
      cases tSize P e with
      | none => exact fun h => h
      | some sz =>
        cases tZero P e with
        | none => exact fun h => h
        | some z =>
          simp only
          cases fillRow sz (List.replicate len z) (parts.toList.map fun p => (p.1, s.eval p.2)) with
          | none => exact fun h => h
          | some es => exact fun h => ⟨h.1, h.2.1, h.2.2.1, h.2.2.2.elim (fun h => .inl fun g hg => ⟨h g hg, fun r hr _ => get_app hr⟩) (fun h => .inr ⟨h.1, fun h' hh => ⟨h.2 h' hh, by simp⟩⟩)⟩
  case makeSlice t l c =>
    simp only [vcE] at h ⊢
    revert h
    cases tElem P t with
    | none => exact fun h => h
    | some e =>
      simp only
      generalize tSize P e = x1, tZero P e = x2, tBytes P e = x3, s.eval l = x4, s.eval c = x5
      split
      · exact fun h => ⟨h.1, h.2.1, h.2.2.1, h.2.2.2.1, h.2.2.2.2.1, h.2.2.2.2.2.1, fun g hg => ⟨h.2.2.2.2.2.2 g hg, fun r hr _ => get_app hr⟩⟩
      · exact fun h => h
  case store t p x =>
    simp only [vcE, touched] at h ⊢
    revert h
    generalize tSize P t = x1
    generalize hx2 : s.eval p = x2
    split
    · rename_i r ver i j
      generalize s.σ[r]? = x3
      split
      · rename_i g v sz m es
        generalize es[i]? = x4
        split
        · refine fun h => ⟨h.1, h.2.1, h.2.2.1, h.2.2.2.1, h.2.2.2.2, fun q hq hnt => ?_⟩
          rw [List.getElem?_set_ne]
          intro e
          subst e
          exact hnt (by simp [V.root])
        · exact fun h => h
      · exact fun h => h
    · exact fun h => h
  case call c =>
    simp only [vcE, touched] at h ⊢
    revert h
    by_cases hc : isApp c.callee = true
    · rw [if_pos hc, if_pos hc]
      have h0 : c.args[0]? = c.args.toList[0]? := by simp
      rw [h0]
      generalize c.args.toList = a1, c.argTypes.toList = a2
      split
      · rename_i x y t t2
        generalize tElem P t = a3
        split
        · rename_i e
          generalize tSize P e = b1, tZero P e = b2, tBytes P e = b3
          generalize appElems P s (b1.getD 0) b2 t2 (s.eval y) = b4
          split
          · rename_i sz z b l
            rintro ⟨h1, h2, h3, h4, h⟩
            refine ⟨h1, h2, h3, h4, ?_⟩
            revert h
            simp only [List.getElem?_cons_zero]
            generalize s.eval x = xv
            split
            · rintro ⟨h5, h⟩
              refine ⟨h5, ?_⟩
              by_cases h0 : l.length = 0
              · rw [if_pos h0] at h ⊢
                exact ⟨h, fun _ _ _ => trivial⟩
              · rw [if_neg h0] at h ⊢
                exact fun g n hg => ⟨h g n hg, fun r hr _ => get_app hr⟩
            · rename_i r ver len
              generalize s.σ[r]? = x3
              split
              · rintro ⟨h5, h6, h7, h⟩
                refine ⟨h5, h6, h7, fun g n h' hg => ⟨h g n h' hg, fun q hq hnt => ?_⟩⟩
                rw [List.getElem?_set_ne]
                intro e
                subst e
                exact hnt (by simp [V.root])
              · exact fun h => h
            · exact fun h => h
          · exact fun h => h
        · exact fun h => h
      · exact fun h => h
    · rw [if_neg hc]
      exact fun h => h.elim
  case makeMap t r =>
    simp only [vcE] at h ⊢
    cases r with
    | some x => simp at h
    | none => simp only [Option.isNone_none, if_true] at h ⊢; exact fun g hg => ⟨h g hg, fun r hr _ => get_app hr⟩
  case mapUpdate t m k x =>
    simp only [vcE, touched] at h ⊢
    revert h
    generalize hx1 : s.eval m = x1
    generalize s.eval k = x2
    split
    · rename_i r b
      generalize s.σ[r]? = x3
      split
      · refine fun h => ⟨h.1, h.2.1, h.2.2.1, h.2.2.2.1, h.2.2.2.2, fun q hq hnt => ?_⟩
        rw [List.getElem?_set_ne]
        intro e
        subst e
        exact hnt (by simp [V.root])
      · exact fun h => h
    · exact fun h => h
  all_goals exact h.elim

theorem vcE_congr {P : Program} {s s' : St} {op : Op} {K : V → List Ob → Nat → Prop} (he : ∀ x ∈ op.operands, s'.eval x = s.eval x) (hσ : s'.σ = s.σ) (hh : s'.h = s.h) (h : vcE P s' op K) : vcE P s op K := by
  have hel : ∀ p, s'.elems p = s.elems p := fun p => elems_congr (fun r _ => by rw [hσ])
  have hap : ∀ sz z t y, appElems P s' sz z t y = appElems P s sz z t y := fun sz z t y => by unfold appElems; rw [hel]
  cases op <;> simp only [Op.operands] at he
  case alloc t => simp only [vcE, hσ, hh] at h ⊢; exact h
  case box t x => simp only [vcE, hσ, hh, he x (by simp)] at h ⊢; exact h
  case buildSlice t len parts =>
    have : (parts.toList.map fun p => (p.1, s'.eval p.2)) = parts.toList.map fun p => (p.1, s.eval p.2) := List.map_congr_left fun p hp => by
      rw [he p.2 (by simp; exact ⟨p.1, by simpa using hp⟩)]
    simp only [vcE, hσ, hh, this] at h ⊢
    exact h
  case makeSlice t l c => simp only [vcE, hσ, hh, he l (by simp), he c (by simp)] at h ⊢; exact h
  case store t p x => simp only [vcE, hσ, hh, he p (by simp), he x (by simp)] at h ⊢; exact h
  case makeMap t r => simp only [vcE, hσ, hh] at h ⊢; exact h
  case mapUpdate t m k x => simp only [vcE, hσ, hh, he m (by simp), he k (by simp), he x (by simp)] at h ⊢; exact h
  case call c =>
    obtain ⟨callee, args, ts⟩ := c
    simp only [Call.operands] at he
    have hargs : ∀ x ∈ args.toList, s'.eval x = s.eval x := fun x hx => he x (by simp [Array.mem_toList_iff.1 hx])
    simp only [vcE, hap] at h ⊢
    by_cases hc : isApp callee = true
    · rw [if_pos hc] at h ⊢
      revert h hargs
      generalize args.toList = a1, ts.toList = a2
      intro hargs
      split
      · rename_i x y t t2
        rw [hargs x (by simp), hargs y (by simp), hσ, hh]
        exact fun h => h
      · exact fun h => h
    · rw [if_neg hc] at h
      exact h.elim
  all_goals exact h.elim

theorem locV_congr {s s' : St} (hσ : s'.σ = s.σ) : ∀ fp bor, V.loc s'.σ fp bor = V.loc s.σ fp bor := fun fp bor => by rw [hσ]

theorem vcCall_mono {W0 : World} {P : Program} {s : St} {c : Call} {tc tc' : List Nat → Prop} {K K' : V → List Ob → Nat → Prop} (ht : ∀ fp, tc fp → tc' fp) (hK : ∀ v σ h, K v σ h → K' v σ h) (h : vcCall W0 P s c tc K) : vcCall W0 P s c tc' K' := by
  unfold vcCall at h ⊢
  revert h
  generalize c.callee = cal
  split
  · rename_i fop
    generalize s.eval fop = fv
    split
    · rintro ⟨fp, bor, args, R, h1, h2, h3, h4, h5, h6, h7⟩
      exact ⟨fp, bor, args, R, h1, h2, h3, ht _ h4, h5, h6, fun lo hi r σ1 k1 k2 k3 => ⟨(h7 lo hi r σ1 k1 k2 k3).1, hK _ _ _ (h7 lo hi r σ1 k1 k2 k3).2⟩⟩
    · exact fun h => h
  · exact fun h => h

theorem idx_mem {fp : List Nat} {r k : Nat} (h : idx fp r = some k) : r ∈ fp := List.mem_of_getElem? (idx_some h)

theorem vcCall_touch {W0 : World} {P : Program} {s : St} {c : Call} {tc : List Nat → Prop} {K : V → List Ob → Nat → Prop} (h : vcCall W0 P s c tc K) :
    vcCall W0 P s c tc (fun v σ' h' => K v σ' h' ∧ ∃ ts, tc ts ∧ ∀ r, r < s.σ.length → r ∉ ts → σ'[r]? = s.σ[r]?) := by
  unfold vcCall at h ⊢
  revert h
  generalize c.callee = cal
  split
  · rename_i fop
    generalize s.eval fop = fv
    split
    · rintro ⟨fp, bor, args, R, h1, h2, h3, h4, h5, h6, h7⟩
      refine ⟨fp, bor, args, R, h1, h2, h3, h4, h5, h6, fun lo hi r σ1 k1 k2 k3 => ⟨(h7 lo hi r σ1 k1 k2 k3).1, (h7 lo hi r σ1 k1 k2 k3).2, fp, h4, fun q hq hnt => ?_⟩⟩
      rw [List.getElem?_eq_getElem hq]
      refine backObs_other (List.getElem?_eq_getElem hq) ?_
      cases hk : idx fp q with
      | none => rfl
      | some k => exact absurd (idx_mem hk) hnt
    · exact fun h => h
  · exact fun h => h

theorem vcCall_congr {W0 : World} {P : Program} {s s' : St} {c : Call} {tc : List Nat → Prop} {K : V → List Ob → Nat → Prop} (he : ∀ x ∈ c.operands, s'.eval x = s.eval x) (hσ : s'.σ = s.σ) (hh : s'.h = s.h) (h : vcCall W0 P s' c tc K) : vcCall W0 P s c tc K := by
  obtain ⟨callee, args, ts⟩ := c
  simp only [Call.operands] at he
  have hargs : args.toList.map s'.eval = args.toList.map s.eval := List.map_congr_left fun x hx => he x (by simp [Array.mem_toList_iff.1 hx])
  unfold vcCall at h ⊢
  simp only [hargs, hσ, hh] at h ⊢
  cases callee with
  | value fop =>
    simp only at h ⊢
    rw [he fop (by simp)] at h
    exact h
  | invoke r m => exact h.elim
  | builtin b => exact h.elim

theorem vcRun_mono {W0 : World} {P : Program} {s : St} {op : Op} {tc tc' : List Nat → Prop} {K K' : V → List Ob → Nat → Prop} (ht : ∀ fp, tc fp → tc' fp) (hK : ∀ v σ h, K v σ h → K' v σ h) (h : vcRun W0 P s op tc K) : vcRun W0 P s op tc' K' := by
  unfold vcRun at h ⊢
  by_cases hq : isQuiet op = true
  · rw [if_pos hq] at h ⊢
    revert h
    cases evalQ P s op with
    | none => exact fun h => h
    | some v => exact hK _ _ _
  · rw [if_neg hq] at h ⊢
    cases op
    case call c =>
      simp only at h ⊢
      by_cases hc : isApp c.callee = true
      · rw [if_pos hc] at h ⊢
        exact ⟨ht _ h.1, vcE_mono hK h.2⟩
      · rw [if_neg hc] at h ⊢
        exact vcCall_mono ht hK h
    all_goals exact ⟨ht _ h.1, vcE_mono hK h.2⟩

theorem vcRun_touch {W0 : World} {P : Program} {s : St} {op : Op} {tc : List Nat → Prop} {K : V → List Ob → Nat → Prop} (hq : isQuiet op = false) (h : vcRun W0 P s op tc K) :
    vcRun W0 P s op tc (fun v σ' h' => K v σ' h' ∧ ∃ ts, tc ts ∧ ∀ r, r < s.σ.length → r ∉ ts → σ'[r]? = s.σ[r]?) := by
  unfold vcRun at h ⊢
  rw [if_neg (by rw [hq]; simp)] at h ⊢
  cases op
  case call c =>
    simp only at h ⊢
    by_cases hc : isApp c.callee = true
    · rw [if_pos hc] at h ⊢
      exact ⟨h.1, vcE_mono (fun v σ h' k => ⟨k.1, _, h.1, k.2⟩) (vcE_touch h.2)⟩
    · rw [if_neg hc] at h ⊢
      exact vcCall_touch h
  all_goals exact ⟨h.1, vcE_mono (fun v σ h' k => ⟨k.1, _, h.1, k.2⟩) (vcE_touch h.2)⟩

theorem touched_congr {s s' : St} {op : Op} (he : ∀ x ∈ op.operands, s'.eval x = s.eval x) : touched s' op = touched s op := by
  cases op <;> simp only [touched, Op.operands] at he ⊢
  case store t p x => rw [he p (by simp)]
  case mapUpdate t m k x => rw [he m (by simp)]
  case call c =>
    cases hx : c.args[0]? with
    | none => rfl
    | some x => simp only; rw [he x (by simp [Call.operands, Array.mem_of_getElem? hx])]

/-- The same operation in a state that parts from the first in slots alone that it does not see. -/
theorem vcRun_congr {W0 : World} {P : Program} {s s' : St} {op : Op} {tc : List Nat → Prop} {K : V → List Ob → Nat → Prop} (he : ∀ x ∈ op.operands, s'.eval x = s.eval x) (hσ : s'.σ = s.σ) (hh : s'.h = s.h) (h : vcRun W0 P s' op tc K) : vcRun W0 P s op tc K := by
  unfold vcRun at h ⊢
  by_cases hq : isQuiet op = true
  · rw [if_pos hq] at h ⊢
    rw [evalQ_congr he (fun r _ => by rw [hσ]), hσ, hh] at h
    exact h
  · rw [if_neg hq] at h ⊢
    cases op
    case call c =>
      simp only at h ⊢
      by_cases hc : isApp c.callee = true
      · rw [if_pos hc] at h ⊢
        rw [touched_congr (s := s) (s' := s') (op := .call c) he] at h
        exact ⟨h.1, vcE_congr he hσ hh h.2⟩
      · rw [if_neg hc] at h ⊢
        exact vcCall_congr he hσ hh h
    all_goals
      simp only at h ⊢
      rw [touched_congr (s := s) (s' := s') he] at h
      exact ⟨h.1, vcE_congr he hσ hh h.2⟩
end Go.VL
namespace Go.VL
set_option linter.unusedVariables false
set_option linter.unusedSimpArgs false

abbrev Lst := List (Nat × List Nat)
/-- What a quiet operation read that need not stand ahead of operation i is not touched. -/
def ckL (C : List (List Nat)) (L : Lst) (i : Nat) (ts : List Nat) : Prop := ∀ p ∈ L, p.1 ∈ C.getD i [] ∨ ∀ r ∈ p.2, r ∉ ts
theorem ckL_sub {C : List (List Nat)} {L L' : Lst} {i : Nat} {ts : List Nat} (hs : ∀ p ∈ L', p ∈ L) (h : ckL C L i ts) : ckL C L' i ts := fun p hp => h p (hs p hp)

def vcR (W0 : World) (P : Program) (ops : Array Oper) (C : List (List Nat)) : List Nat → Lst → (St → Prop) → St → Prop
  | [], _, K, s => K s
  | i :: l, L, K, s => match ops[i]? with
    | none => vcR W0 P ops C l L K s
    | some o => vcOp W0 P ops o (ckL C L i) (vcR W0 P ops C l (if isQuiet o.op then (i, roots s o.op) :: L else L) K) s

theorem vcOp_mono {W0 : World} {P : Program} {ops : Array Oper} {o : Oper} {tc tc' : List Nat → Prop} {K K' : St → Prop} {s : St} (ht : ∀ fp, tc fp → tc' fp) (hK : ∀ s, K s → K' s) (h : vcOp W0 P ops o tc K s) : vcOp W0 P ops o tc' K' s := by
  unfold vcOp at h ⊢
  revert h
  generalize gd ops o s = g
  split
  · exact fun h => vcRun_mono ht (fun v σ h' k => hK _ k) h
  · exact fun h => hK _ h
  · exact fun h => h

theorem vcR_L {W0 : World} {P : Program} {ops : Array Oper} {C : List (List Nat)} {K : St → Prop} : ∀ (l : List Nat) (L L' : Lst) (s : St), (∀ p ∈ L', p ∈ L) → vcR W0 P ops C l L K s → vcR W0 P ops C l L' K s
  | [], _, _, _, _, h => h
  | i :: l, L, L', s, hs, h => by
    unfold vcR at h ⊢
    cases ho : ops[i]? with
    | none => rw [ho] at h; exact vcR_L l L L' s hs h
    | some o =>
      rw [ho] at h
      simp only at h ⊢
      refine vcOp_mono (fun fp hc => ckL_sub hs hc) (fun s1 h1 => vcR_L l _ _ s1 (fun p hp => ?_) h1) h
      by_cases hq : isQuiet o.op = true
      · rw [if_pos hq] at hp ⊢
        rcases List.mem_cons.1 hp with h2 | h2
        · rw [h2]; exact List.mem_cons_self
        · exact List.mem_cons_of_mem _ (hs p h2)
      · rw [if_neg hq] at hp ⊢
        exact hs p hp

theorem eval_put {s : St} {d : Option Tmp} {v : V} {x : Operand} (h : ∀ t, d = some t → x ≠ .tmp t) : (s.put d v).eval x = s.eval x := by
  cases d with
  | none => rfl
  | some d =>
    cases x with
    | tmp t =>
      have hne : t ≠ d := fun e => h d rfl (e ▸ rfl)
      simp [St.put, St.eval, upd, hne]
    | _ => rfl
theorem put_σ (s : St) (d : Option Tmp) (v : V) : (s.put d v).σ = s.σ := by cases d <;> rfl
theorem put_h (s : St) (d : Option Tmp) (v : V) : (s.put d v).h = s.h := by cases d <;> rfl
theorem eval_env {s : St} {σ : List Ob} {h : Nat} (x : Operand) : (⟨s.env, σ, h⟩ : St).eval x = s.eval x := by cases x <;> rfl
theorem put_comm (s : St) {d d' : Option Tmp} {u v : V} (hne : ∀ t, d = some t → d' ≠ some t) : (s.put d u).put d' v = (s.put d' v).put d u := by
  cases d with
  | none => rfl
  | some d =>
    cases d' with
    | none => rfl
    | some d' =>
      have : d ≠ d' := fun e => hne d rfl (e ▸ rfl)
      simp only [St.put]
      congr 1
      funext t
      simp only [upd]
      by_cases h1 : t = d' <;> by_cases h2 : t = d <;> simp_all

section
variable {W0 : World} {P : Program} {ops : Array Oper}

/-- A quiet operation, or one that is passed over, gives a value. -/
def QY (P : Program) (ops : Array Oper) (o : Oper) (s : St) (u : V) : Prop := (gd ops o s = some true ∧ evalQ P s o.op = some u) ∨ (gd ops o s = some false ∧ u = .skip)

theorem gd_put {o : Oper} {s : St} {d : Option Tmp} {v : V} (h : ∀ t, d = some t → t ∉ o.looksAt ops) : gd ops o (s.put d v) = gd ops o s := by
  unfold gd
  cases hg : o.guard with
  | none => rfl
  | some jb =>
    obtain ⟨j, b⟩ := jb
    simp only
    cases ht : (ops[j]?).bind (·.dst) with
    | none => rfl
    | some t =>
      simp only
      cases d with
      | none => rfl
      | some d =>
        have hne : t ≠ d := fun e => h d rfl (by simp [Oper.looksAt, hg, ht, e])
        simp [St.put, upd, hne]
theorem gd_env {o : Oper} {s : St} {σ : List Ob} {h : Nat} : gd ops o ⟨s.env, σ, h⟩ = gd ops o s := rfl

theorem looks_operand {o : Oper} {d : Option Tmp} (h : ∀ t, d = some t → t ∉ o.looksAt ops) : ∀ x ∈ o.op.operands, ∀ t, d = some t → x ≠ .tmp t := fun x hx t ht e => by
  subst e
  exact h t ht (List.mem_append_left _ (List.mem_filterMap.2 ⟨.tmp t, by simpa using hx, rfl⟩))

theorem QY.op {o : Oper} {s : St} {u : V} (hq : isQuiet o.op = true) (h : QY P ops o s u) {tc : List Nat → Prop} {K : St → Prop} (hK : K (s.put o.dst u)) : vcOp W0 P ops o tc K s := by
  unfold vcOp
  rcases h with ⟨h1, h2⟩ | ⟨h1, rfl⟩
  · rw [h1]
    simp only [vcRun, if_pos hq, h2]
    have : (⟨(s.put o.dst u).env, s.σ, s.h⟩ : St) = s.put o.dst u := by cases o.dst <;> rfl
    rw [this]
    exact hK
  · rw [h1]
    exact hK
theorem QY.of_op {o : Oper} {s : St} (hq : isQuiet o.op = true) {tc : List Nat → Prop} {K : St → Prop} (h : vcOp W0 P ops o tc K s) : ∃ u, QY P ops o s u ∧ K (s.put o.dst u) := by
  unfold vcOp at h
  revert h
  cases hg : gd ops o s with
  | none => exact fun h => h.elim
  | some b =>
    cases b with
    | false => exact fun h => ⟨.skip, .inr ⟨hg, rfl⟩, h⟩
    | true =>
      simp only [vcRun, if_pos hq]
      cases he : evalQ P s o.op with
      | none => exact fun h => h.elim
      | some u =>
        intro h
        refine ⟨u, .inl ⟨hg, he⟩, ?_⟩
        have : (⟨(s.put o.dst u).env, s.σ, s.h⟩ : St) = s.put o.dst u := by cases o.dst <;> rfl
        rw [← this]
        exact h

theorem roots_congr {s s' : St} {op : Op} (he : ∀ x ∈ op.operands, s'.eval x = s.eval x) : roots s' op = roots s op := by
  unfold roots
  have : ∀ x ∈ op.operands.toList, (s'.eval x).root = (s.eval x).root := fun x hx => by rw [he x (by simpa using hx)]
  generalize op.operands.toList = l at this
  induction l with
  | nil => rfl
  | cons x l ih => simp only [List.filterMap_cons]; rw [this x (by simp), ih (fun y hy => this y (by simp [hy]))]

variable {w0 : World} {av0 X : Nat → Prop} {N : Nat} {a : Act} {w : World} {s : St} {C : List (List Nat)} {K : St → Prop}

/-- A quiet operation and the next, exchanged. -/
theorem vcR_swap (hi : Inv w0 av0 X N a w s) {y i : Nat} {oy oi : Oper} (hy : ops[y]? = some oy) (hio : ops[i]? = some oi) (hq : isQuiet oy.op = true) (hap : oy.apart ops oi = true) (hC : y ∉ C.getD i []) {l : List Nat} {L : Lst}
    (h : vcR W0 P ops C (y :: i :: l) L K s) : vcR W0 P ops C (i :: y :: l) L K s := by
  obtain ⟨a1, a2, a3⟩ := Oper.apart_spec hap
  unfold vcR at h ⊢
  rw [hy] at h
  rw [hio]
  simp only [if_pos hq] at h ⊢
  obtain ⟨u, hu, h⟩ := QY.of_op hq h
  unfold vcR at h
  rw [hio] at h
  simp only at h
  have ei : ∀ x ∈ oi.op.operands, (s.put oy.dst u).eval x = s.eval x := fun x hx => eval_put (looks_operand a1 x hx)
  have gi : gd ops oi (s.put oy.dst u) = gd ops oi s := gd_put a1
  have hrlt : ∀ r ∈ roots s oy.op, r < s.σ.length := fun r hr => by
    obtain ⟨x, hx, hroot⟩ := List.mem_filterMap.1 hr
    have hv := hi.eval x
    generalize s.eval x = xv at hv hroot
    generalize a.eval x = av at hv
    cases hv with
    | own h1 _ _ _ => simp only [V.root, Option.some.injEq] at hroot; subst hroot; exact (List.getElem?_eq_some_iff.1 h1).1
    | ptr h1 _ _ _ => simp only [V.root, Option.some.injEq] at hroot; subst hroot; exact (List.getElem?_eq_some_iff.1 h1).1
    | map h1 => simp only [V.root, Option.some.injEq] at hroot; subst hroot; exact (List.getElem?_eq_some_iff.1 h1).1
    | t _ => simp [V.root] at hroot
    | nil0 _ => simp [V.root] at hroot
    | fz _ _ _ _ => simp [V.root] at hroot
    | fn _ _ => simp [V.root] at hroot
    | errN => simp [V.root] at hroot
    | errS _ _ => simp [V.root] at hroot
    | agg _ _ => simp [V.root] at hroot
    | tup _ _ => simp [V.root] at hroot
    | undef _ => simp [V.root] at hroot
    | skip => simp [V.root] at hroot
  -- y, behind i: it gives what it gave
  have after : ∀ (v : V) (σ' : List Ob) (h' : Nat) (L' : Lst), (∀ r ∈ roots s oy.op, σ'[r]? = s.σ[r]?) → vcR W0 P ops C l L' K ⟨((s.put oy.dst u).put oi.dst v).env, σ', h'⟩ → (∀ p, p ∈ (y, roots s oy.op) :: L' ↔ p ∈ (y, roots s oy.op) :: L') →
      ∀ L2 : Lst, (∀ p ∈ ((y, roots s oy.op) :: L2), p ∈ L') → vcR W0 P ops C (y :: l) L2 K ⟨(s.put oi.dst v).env, σ', h'⟩ := fun v σ' h' L' hσ hk _ L2 hL => by
    unfold vcR
    rw [hy]
    simp only [if_pos hq]
    have ey : ∀ x ∈ oy.op.operands, (⟨(s.put oi.dst v).env, σ', h'⟩ : St).eval x = s.eval x := fun x hx => by
      rw [eval_env]
      exact eval_put (looks_operand a3 x hx)
    have hQY : QY P ops oy ⟨(s.put oi.dst v).env, σ', h'⟩ u := by
      have hg : gd ops oy (⟨(s.put oi.dst v).env, σ', h'⟩ : St) = gd ops oy s := by rw [gd_env]; exact gd_put a3
      rcases hu with ⟨h1, h2⟩ | ⟨h1, h2⟩
      · exact .inl ⟨by rw [hg]; exact h1, by rw [evalQ_congr ey hσ]; exact h2⟩
      · exact .inr ⟨by rw [hg]; exact h1, h2⟩
    refine hQY.op hq ?_
    have hst : (⟨(s.put oi.dst v).env, σ', h'⟩ : St).put oy.dst u = ⟨((s.put oy.dst u).put oi.dst v).env, σ', h'⟩ := by
      rw [put_comm s a2]
      cases oy.dst <;> rfl
    rw [hst, roots_congr ey]
    exact vcR_L l _ _ _ hL hk
  unfold vcOp at h ⊢
  rw [gi] at h
  revert h
  cases hgi : gd ops oi s with
  | none => exact fun h => h.elim
  | some b =>
    cases b with
    | false =>
      intro h
      have := after .skip s.σ s.h _ (fun _ _ => rfl) (by
        have e : (⟨((s.put oy.dst u).put oi.dst .skip).env, s.σ, s.h⟩ : St) = (s.put oy.dst u).put oi.dst .skip := by cases oy.dst <;> cases oi.dst <;> rfl
        rw [e]
        exact h) (fun _ => Iff.rfl) (if isQuiet oi.op then (i, roots s oi.op) :: L else L) (fun p hp => by
          by_cases hqi : isQuiet oi.op = true
          · rw [if_pos hqi] at hp ⊢
            rw [roots_congr ei]
            simp only [List.mem_cons] at hp ⊢
            rcases hp with h1 | h1 | h1
            · exact .inr (.inl h1)
            · exact .inl h1
            · exact .inr (.inr h1)
          · rw [if_neg hqi] at hp ⊢
            exact hp)
      have e : (⟨(s.put oi.dst .skip).env, s.σ, s.h⟩ : St) = s.put oi.dst .skip := by cases oi.dst <;> rfl
      rw [e] at this
      exact this
    | true =>
      intro h
      simp only at h ⊢
      by_cases hqi : isQuiet oi.op = true
      · rw [if_pos hqi] at h ⊢
        unfold vcRun at h ⊢
        rw [if_pos hqi] at h ⊢
        rw [evalQ_congr ei (fun r _ => by rw [put_σ])] at h
        revert h
        cases evalQ P s oi.op with
        | none => exact fun h => h.elim
        | some v =>
          intro h
          simp only [put_σ, put_h] at h ⊢
          refine after v s.σ s.h _ (fun _ _ => rfl) h (fun _ => Iff.rfl) _ (fun p hp => ?_)
          rw [roots_congr ei]
          simp only [List.mem_cons] at hp ⊢
          rcases hp with h1 | h1 | h1
          · exact .inr (.inl h1)
          · exact .inl h1
          · exact .inr (.inr h1)
      · rw [if_neg hqi] at h ⊢
        have h2 := vcRun_congr ei (put_σ _ _ _) (put_h _ _ _) h
        refine vcRun_mono (fun ts ht => ckL_sub (fun p hp => List.mem_cons_of_mem _ hp) ht) (fun v σ' h' k => ?_) (vcRun_touch (by simpa using hqi) h2)
        obtain ⟨k1, ts, k2, k3⟩ := k
        refine after v σ' h' _ (fun r hr => k3 r (hrlt r hr) ?_) k1 (fun _ => Iff.rfl) _ (fun p hp => hp)
        rcases k2 (y, roots s oy.op) List.mem_cons_self with h3 | h3
        · exact absurd h3 hC
        · exact h3 r hr

/-- An operation is brought to the front, past quiet ones. -/
theorem vcR_front (hX : ∀ b, X b → b < w0.heap.size) (hd : ∀ (j : Nat) (o : Oper) (t : Nat), ops[j]? = some o → o.dst = some t → t < N) {i : Nat} {oi : Oper} (hio : ops[i]? = some oi) : ∀ (l1 l2 : List Nat) (L : Lst) (a : Act) (s : St), Inv w0 av0 X N a w s →
    (∀ y ∈ l1, ∃ oy, ops[y]? = some oy ∧ isQuiet oy.op = true ∧ oy.apart ops oi = true ∧ y ∉ C.getD i []) → vcR W0 P ops C (l1 ++ i :: l2) L K s → vcR W0 P ops C (i :: (l1 ++ l2)) L K s
  | [], l2, L, a, s, hi, _, h => h
  | y :: l1, l2, L, a, s, hi, hl, h => by
    obtain ⟨oy, hy, hq, hap, hC⟩ := hl y (by simp)
    refine vcR_swap hi hy hio hq hap hC ?_
    rw [List.cons_append] at h
    unfold vcR at h ⊢
    rw [hy] at h ⊢
    simp only at h ⊢
    obtain ⟨u, hu, h⟩ := QY.of_op hq h
    refine hu.op hq ?_
    have hput : ∃ x, Inv w0 av0 X N (a.put oy.dst x) w (s.put oy.dst u) := by
      rcases hu with ⟨_, h2⟩ | ⟨_, rfl⟩
      · obtain ⟨val, _, h3⟩ := evalQ_sound hi h2
        exact ⟨val, hi.put (fun t ht => hd y oy t hy ht) h3⟩
      · exact ⟨_, hi.put (fun t ht => hd y oy t hy ht) .skip⟩
    obtain ⟨x, hinv⟩ := hput
    exact vcR_front hX hd hio l1 l2 _ _ _ hinv (fun z hz => hl z (by simp [hz])) h
end
end Go.VL
namespace Go.VL
set_option linter.unusedVariables false
set_option linter.unusedSimpArgs false

/-- The operations that bind ahead. -/
def edges (o : Oper) : List Nat := (o.after.toList.filter (Region.binds .any ·)).map (·.on)
def closL (ops : Array Oper) : List (List Nat) := ops.toList.foldl (fun acc o => acc ++ [(edges o).flatMap fun j => j :: acc.getD j []]) []
def cOk (ops : Array Oper) (C : List (List Nat)) : Bool :=
  (List.range C.length).all fun i => (C.getD i []).all fun z => match ops[i]? with
    | some o => (edges o).any fun j => decide (j < i) && (z == j || (C.getD j []).contains z)
    | none => false
def rOk (ops : Array Oper) (C : List (List Nat)) (y i : Nat) : Bool := (C.getD i []).contains y || match ops[y]?, ops[i]? with
  | some oy, some oi => isQuiet oy.op && oy.apart ops oi
  | _, _ => false
def pwOk (R : Nat → Nat → Bool) : List Nat → Bool
  | [] => true
  | x :: l => l.all (R x) && pwOk R l
def eOk (ops : Array Oper) : Bool := (List.range ops.size).all fun i => match ops[i]? with | some o => (edges o).all (· < i) | none => true
def drOk (ops : Array Oper) (C : List (List Nat)) (ord : List Nat) : Bool :=
  cOk ops C && eOk ops && pwOk (rOk ops C) ord && pwOk (fun x y => x != y) ord && ord.all (· < ops.size) && (List.range ops.size).all ord.contains

/-- The order that is walked: quiet operations as soon as they may, then the first other one. -/
def ordGo (ops : Array Oper) : Nat → List Nat → List Nat → List Nat
  | 0, done, _ => done.reverse
  | n + 1, done, pend =>
    let ready := pend.filter fun i => match ops[i]? with | some o => (edges o).all done.contains | none => true
    match (ready.find? fun i => match ops[i]? with | some o => isQuiet o.op | none => true).or ready.head? with
    | some i => ordGo ops n (i :: done) (pend.filter (· != i))
    | none => done.reverse
def ordOf (ops : Array Oper) : List Nat := ordGo ops ops.size [] (List.range ops.size)

theorem mem_edges {o : Oper} {j : Nat} : j ∈ edges o ↔ ∃ e ∈ o.after, Region.binds .any e = true ∧ e.on = j := by
  simp [edges, and_assoc]

theorem pwOk_spec {R : Nat → Nat → Bool} : ∀ {l : List Nat}, pwOk R l = true → l.Pairwise fun x y => R x y = true
  | [], _ => .nil
  | x :: l, h => by
    simp only [pwOk, Bool.and_eq_true, List.all_eq_true] at h
    exact .cons h.1 (pwOk_spec h.2)

section
variable {W0 : World} {P : Program} {ops : Array Oper} {C : List (List Nat)} {w0 : World} {av0 X : Nat → Prop} {N : Nat} {K : St → Prop} {Q : Exit → Act → World → Prop}

theorem cOk_spec (h : cOk ops C = true) {i z : Nat} (hz : z ∈ C.getD i []) : ∃ o, ops[i]? = some o ∧ ∃ j ∈ edges o, j < i ∧ (z = j ∨ z ∈ C.getD j []) := by
  have hi : i < C.length := by
    rcases Nat.lt_or_ge i C.length with h1 | h1
    · exact h1
    · rw [List.getD_eq_getElem?_getD, List.getElem?_eq_none h1] at hz
      cases hz
  have h2 := List.all_eq_true.1 (List.all_eq_true.1 h i (List.mem_range.2 hi)) z hz
  split at h2
  · rename_i o ho
    obtain ⟨j, h3, h4⟩ := List.any_eq_true.1 h2
    simp only [Bool.and_eq_true, decide_eq_true_eq, Bool.or_eq_true, beq_iff_eq, List.contains_iff_mem] at h4
    exact ⟨o, ho, j, h3, h4⟩
  · cases h2

/-- What is done has its binding forerunners done. -/
def Closed (ops : Array Oper) (listed : Array Bool) : Prop := ∀ (j : Nat) (o : Oper), ops[j]? = some o → listed.getD j true = true → ∀ x ∈ edges o, listed.getD x false = true

theorem Closed.clos (hc : cOk ops C = true) {listed : Array Bool} (h : Closed ops listed) : ∀ (i : Nat) (z : Nat), listed.getD i false = true → z ∈ C.getD i [] → listed.getD z false = true := by
  intro i
  induction i using Nat.strongRecOn with
  | _ i ih =>
    intro z hl hz
    obtain ⟨o, ho, j, hj, hlt, h1⟩ := cOk_spec hc hz
    have hlt' : listed.getD i true = true := by
      rw [Array.getD_eq_getD_getElem?] at hl ⊢
      revert hl
      cases listed[i]? <;> simp
    have hjl := h i o ho hlt' j hj
    rcases h1 with rfl | h1
    · exact hjl
    · exact ih j hlt z hjl h1

theorem region_any (hX : ∀ b, X b → b < w0.heap.size) (hB : BaseA W0 w0 av0) (hd : ∀ (j : Nat) (o : Oper) (t : Nat), ops[j]? = some o → o.dst = some t → t < N) (hc : cOk ops C = true) (he : eOk ops = true)
    (hQ : ∀ a w s, Inv w0 av0 X N a w s → K s → Q .normal a w) : ∀ (n : Nat) (rem : List Nat) (listed : Array Bool) (L : Lst) (a : Act) (w : World) (s : St), rem.length = n → listed.size = ops.size →
    (∀ j, j ∈ rem ↔ listed.getD j true = false) → rem.Pairwise (fun x y => rOk ops C x y = true) → rem.Nodup → Closed ops listed → Inv w0 av0 X N a w s → vcR W0 P ops C rem L K s → wpAny P .any ops Q n listed a w := by
  intro n
  induction n with
  | zero =>
    intro rem listed L a w s hn hsz hrem hpw hnd hcl hi h
    have : rem = [] := List.length_eq_zero_iff.1 hn
    subst this
    refine ⟨?_, hQ a w s hi h⟩
    refine List.eq_nil_iff_forall_not_mem.2 fun j hj => ?_
    exact absurd ((hrem j).2 (mem_ready.1 hj).1) (by simp)
  | succ n ih =>
    intro rem listed L a w s hn hsz hrem hpw hnd hcl hi h
    refine ⟨fun hnone => ?_, fun i hir => ?_⟩
    · exfalso
      have key : ∀ j, j ∈ rem → False := by
        intro j
        induction j using Nat.strongRecOn with
        | _ j ihj =>
          intro hj
          have hjl := (hrem j).1 hj
          have hjs : j < ops.size := by
            rcases Nat.lt_or_ge j ops.size with h1 | h1
            · exact h1
            · rw [Array.getD_eq_getD_getElem?, Array.getElem?_eq_none (by omega)] at hjl
              cases hjl
          have ho : ops[j]? = some ops[j] := Array.getElem?_eq_getElem hjs
          have hej := List.all_eq_true.1 he j (List.mem_range.2 hjs)
          rw [ho] at hej
          simp only [List.all_eq_true, decide_eq_true_eq] at hej
          refine List.not_mem_nil (hnone ▸ mem_ready.2 ⟨hjl, ops[j], ho, fun e hem heb => ?_⟩ : j ∈ ([] : List Nat))
          have hlt := hej e.on (mem_edges.2 ⟨e, hem, heb, rfl⟩)
          cases hx : listed.getD e.on true with
          | false => exact (ihj e.on hlt ((hrem e.on).2 hx)).elim
          | true =>
            rw [Array.getD_eq_getD_getElem?, Array.getElem?_eq_getElem (by omega)] at hx ⊢
            exact hx
      cases rem with
      | nil => simp at hn
      | cons x l => exact key x List.mem_cons_self
    · obtain ⟨hil, oi, hio, hall⟩ := mem_ready.1 hir
      obtain ⟨l1, l2, rfl⟩ := List.append_of_mem ((hrem i).2 hil)
      have hedge : ∀ x ∈ edges oi, listed.getD x false = true := fun x hx => by
        obtain ⟨e, h1, h2, rfl⟩ := mem_edges.1 hx
        exact hall e h1 h2
      have hCi : ∀ y, y ∈ C.getD i [] → listed.getD y false = true := fun y hy => by
        obtain ⟨o, ho, j, hj, hlt, h1⟩ := cOk_spec hc hy
        rw [hio] at ho
        cases ho
        rcases h1 with rfl | h1
        · exact hedge y hj
        · exact hcl.clos hc j y (hedge j hj) h1
      have hfront := vcR_front hX hd hio l1 l2 L a s hi (fun y hy => ?_) h
      · unfold vcR at hfront
        rw [hio] at hfront
        simp only at hfront
        refine wpOp_mono (fun a' w' ⟨s', h1, h2⟩ => ?_) (vcOp_sound hi (hi.hX hX) hB hd hio hfront)
        have hnd' := List.nodup_append.1 hnd
        have hni : i ∉ l1 ∧ i ∉ l2 := ⟨fun h => hnd'.2.2 i h i List.mem_cons_self rfl, (List.nodup_cons.1 hnd'.2.1).1⟩
        have hsub : (l1 ++ l2).Sublist (l1 ++ i :: l2) := List.Sublist.append (List.Sublist.refl _) (List.sublist_cons_self i l2)
        refine ih (l1 ++ l2) _ _ a' w' s' ?_ (by simpa using hsz) (fun j => ?_) (hpw.sublist hsub) (hnd.sublist hsub) ?_ h1 h2
        · simp only [List.length_append, List.length_cons] at hn ⊢
          omega
        · by_cases hji : j = i
          · subst hji
            have : j < ops.size := (Array.getElem?_eq_some_iff.1 hio).1
            simp [hni, Array.getElem?_setIfInBounds, hsz, this]
          · rw [getD_set_ne true (Ne.symm hji), ← hrem j]
            simp [hji]
        · intro j o ho hjl x hx
          by_cases hji : j = i
          · subst hji
            rw [hio] at ho
            cases ho
            exact getD_set_true (hedge x hx)
          · rw [getD_set_ne true (Ne.symm hji)] at hjl
            exact getD_set_true (hcl j o ho hjl x hx)
      · have hyr : y ∈ l1 ++ i :: l2 := List.mem_append_left _ hy
        have hyl := (hrem y).1 hyr
        have hnot : y ∉ C.getD i [] := fun hyc => by
          have := hCi y hyc
          rw [Array.getD_eq_getD_getElem?] at this hyl
          revert this hyl
          cases listed[y]? <;> simp
        have hR := (List.pairwise_append.1 hpw).2.2 y hy i List.mem_cons_self
        unfold rOk at hR
        simp only [Bool.or_eq_true, List.contains_iff_mem] at hR
        rcases hR with h1 | h1
        · exact absurd h1 hnot
        · rw [hio] at h1
          cases hoy : ops[y]? with
          | none => rw [hoy] at h1; cases h1
          | some oy =>
            rw [hoy] at h1
            simp only [Bool.and_eq_true] at h1
            exact ⟨oy, rfl, h1.1, h1.2, hnot⟩

theorem wp_region_drawn (hm : P.follows .mixedOrders = true) (hX : ∀ b, X b → b < w0.heap.size) (hB : BaseA W0 w0 av0) (hd : ∀ (j : Nat) (o : Oper) (t : Nat), ops[j]? = some o → o.dst = some t → t < N) {ord : List Nat} (ho : drOk ops C ord = true)
    (hQ : ∀ a w s, Inv w0 av0 X N a w s → K s → Q .normal a w) {a : Act} {w : World} {s : St} (hi : Inv w0 av0 X N a w s) (h : vcR W0 P ops C ord [] K s) {id : Nat} : (Code.region id ops true).wp P Q a w := by
  simp only [drOk, Bool.and_eq_true] at ho
  obtain ⟨⟨⟨⟨⟨h1, h2⟩, h3⟩, h4⟩, h5⟩, h6⟩ := ho
  have hnd : ord.Nodup := (pwOk_spec h4).imp (by simp)
  have hmem : ∀ j, j ∈ ord ↔ j < ops.size := fun j => ⟨fun hj => by simpa using List.all_eq_true.1 h5 j hj, fun hj => by simpa using List.all_eq_true.1 h6 j (List.mem_range.2 hj)⟩
  have hlen : ord.length = ops.size := by
    have h7 : ord.Perm (List.range ops.size) := (List.perm_ext_iff_of_nodup hnd List.nodup_range).2 fun j => by rw [hmem, List.mem_range]
    simpa using h7.length_eq
  refine wp_region_any hm (region_any (C := C) (K := K) hX hB hd h1 h2 hQ ops.size ord _ [] a _ s hlen (by simp) (fun j => ?_) (pwOk_spec h3) hnd ?_ hi.drew h)
  · rw [hmem, Array.getD_eq_getD_getElem?]
    by_cases hj : j < ops.size <;> simp [hj]
  · intro j o ho hl
    have : j < ops.size := (Array.getElem?_eq_some_iff.1 ho).1
    simp [this] at hl
end

/-! ### two operations that touch, in either order -/
def rOkx (ops : Array Oper) (C : List (List Nat)) (u v x y : Nat) : Bool := rOk ops C x y || (x == u && (y == v || (C.getD y []).contains v))
/-- Two orders, in which u stands ahead of v and v ahead of u: together they stand for all. -/
def drOk2 (ops : Array Oper) (C : List (List Nat)) (u v : Nat) (oa ob : List Nat) : Bool :=
  cOk ops C && eOk ops && pwOk (rOkx ops C u v) oa && pwOk (rOkx ops C v u) ob && pwOk (fun x y => x != y) oa && pwOk (fun x y => x != y) ob && oa.all (· < ops.size) && ob.all (· < ops.size) && (List.range ops.size).all oa.contains && (List.range ops.size).all ob.contains && decide (u < ops.size) && decide (v < ops.size) &&
    (List.range ops.size).all fun i => i == u || i == v || (match ops[i]? with | some o => isQuiet o.op | none => true) || (C.getD i []).contains u || (C.getD i []).contains v

section
variable {W0 : World} {P : Program} {ops : Array Oper} {C : List (List Nat)} {w0 : World} {av0 X : Nat → Prop} {N : Nat} {K : St → Prop} {Q : Exit → Act → World → Prop}

theorem vcOp_and {o : Oper} {tc tc' : List Nat → Prop} {K K' : St → Prop} {s : St} (hq : isQuiet o.op = true) (h : vcOp W0 P ops o tc K s) (h' : vcOp W0 P ops o tc' K' s) : vcOp W0 P ops o tc (fun s => K s ∧ K' s) s := by
  obtain ⟨u, hu, h1⟩ := QY.of_op hq h
  obtain ⟨u', hu', h2⟩ := QY.of_op hq h'
  have : u = u' := by
    rcases hu with ⟨a, b⟩ | ⟨a, b⟩ <;> rcases hu' with ⟨c, d⟩ | ⟨c, d⟩
    · rw [b] at d; exact Option.some.inj d
    · rw [a] at c; cases c
    · rw [a] at c; cases c
    · rw [b, d]
  subst this
  exact hu.op hq ⟨h1, h2⟩

theorem region_pick (hX : ∀ b, X b → b < w0.heap.size) (hd : ∀ (j : Nat) (o : Oper) (t : Nat), ops[j]? = some o → o.dst = some t → t < N) (hc : cOk ops C = true) {listed : Array Bool} {i : Nat} {oi : Oper} (hio : ops[i]? = some oi) (hedge : ∀ x ∈ edges oi, listed.getD x false = true)
    {l1 l2 : List Nat} {L : Lst} {a : Act} {w : World} {s : St} (hrem : ∀ j ∈ l1, listed.getD j true = false) (hcl : Closed ops listed) (hR : ∀ y ∈ l1, y ∉ C.getD i [] → rOk ops C y i = true) (hi : Inv w0 av0 X N a w s) (h : vcR W0 P ops C (l1 ++ i :: l2) L K s) :
    vcOp W0 P ops oi (ckL C L i) (vcR W0 P ops C (l1 ++ l2) (if isQuiet oi.op then (i, roots s oi.op) :: L else L) K) s := by
  have hCi : ∀ y, y ∈ C.getD i [] → listed.getD y false = true := fun y hy => by
    obtain ⟨o, ho, j, hj, hlt, h1⟩ := cOk_spec hc hy
    rw [hio] at ho
    cases ho
    rcases h1 with rfl | h1
    · exact hedge y hj
    · exact hcl.clos hc j y (hedge j hj) h1
  have hfront := vcR_front hX hd hio l1 l2 L a s hi (fun y hy => ?_) h
  · unfold vcR at hfront
    rw [hio] at hfront
    exact hfront
  · have hyl := hrem y hy
    have hnot : y ∉ C.getD i [] := fun hyc => by
      have := hCi y hyc
      rw [Array.getD_eq_getD_getElem?] at this hyl
      revert this hyl
      cases listed[y]? <;> simp
    have hR := hR y hy hnot
    unfold rOk at hR
    simp only [Bool.or_eq_true, List.contains_iff_mem] at hR
    rcases hR with h1 | h1
    · exact absurd h1 hnot
    · rw [hio] at h1
      cases hoy : ops[y]? with
      | none => rw [hoy] at h1; cases h1
      | some oy =>
        rw [hoy] at h1
        simp only [Bool.and_eq_true] at h1
        exact ⟨oy, rfl, h1.1, h1.2, hnot⟩
theorem listed_next {listed : Array Bool} {i : Nat} {oi : Oper} (hio : ops[i]? = some oi) (hsz : listed.size = ops.size) {l1 l2 : List Nat} (hrem : ∀ j, j ∈ l1 ++ i :: l2 ↔ listed.getD j true = false) (hnd : (l1 ++ i :: l2).Nodup) : ∀ j, j ∈ l1 ++ l2 ↔ (listed.setIfInBounds i true).getD j true = false := by
  intro j
  have hnd' := List.nodup_append.1 hnd
  have hni : i ∉ l1 ∧ i ∉ l2 := ⟨fun h => hnd'.2.2 i h i List.mem_cons_self rfl, (List.nodup_cons.1 hnd'.2.1).1⟩
  by_cases hji : j = i
  · subst hji
    have : j < ops.size := (Array.getElem?_eq_some_iff.1 hio).1
    simp [hni, Array.getElem?_setIfInBounds, hsz, this]
  · rw [getD_set_ne true (Ne.symm hji), ← hrem j]
    simp [hji]
theorem closed_next {listed : Array Bool} {i : Nat} {oi : Oper} (hio : ops[i]? = some oi) (hedge : ∀ x ∈ edges oi, listed.getD x false = true) (hcl : Closed ops listed) : Closed ops (listed.setIfInBounds i true) := by
  intro j o ho hjl x hx
  by_cases hji : j = i
  · subst hji
    rw [hio] at ho
    cases ho
    exact getD_set_true (hedge x hx)
  · rw [getD_set_ne true (Ne.symm hji)] at hjl
    exact getD_set_true (hcl j o ho hjl x hx)
theorem nodup_pick {l1 l2 : List Nat} {i : Nat} (h : (l1 ++ i :: l2).Nodup) : (l1 ++ l2).Nodup ∧ i ∉ l1 ++ l2 := by
  have hnd' := List.nodup_append.1 h
  refine ⟨h.sublist (List.Sublist.append (List.Sublist.refl _) (List.sublist_cons_self i l2)), fun hm => ?_⟩
  rcases List.mem_append.1 hm with h1 | h1
  · exact hnd'.2.2 i h1 i List.mem_cons_self rfl
  · exact (List.nodup_cons.1 hnd'.2.1).1 h1

theorem region_any2 (hX : ∀ b, X b → b < w0.heap.size) (hB : BaseA W0 w0 av0) (hd : ∀ (j : Nat) (o : Oper) (t : Nat), ops[j]? = some o → o.dst = some t → t < N) (hc : cOk ops C = true) (he : eOk ops = true)
    (hQ : ∀ a w s, Inv w0 av0 X N a w s → K s → Q .normal a w) {u v : Nat} (hone : ∀ (i : Nat) (o : Oper), ops[i]? = some o → i = u ∨ i = v ∨ isQuiet o.op = true ∨ u ∈ C.getD i [] ∨ v ∈ C.getD i []) :
    ∀ (n : Nat) (ra rb : List Nat) (listed : Array Bool) (LA LB : Lst) (a : Act) (w : World) (s : St), ra.length = n → rb.length = n → listed.size = ops.size →
    (∀ j, j ∈ ra ↔ listed.getD j true = false) → (∀ j, j ∈ rb ↔ listed.getD j true = false) → ra.Pairwise (fun x y => rOkx ops C u v x y = true) → rb.Pairwise (fun x y => rOkx ops C v u x y = true) → ra.Nodup → rb.Nodup → u ∈ ra → v ∈ ra → Closed ops listed →
    Inv w0 av0 X N a w s → vcR W0 P ops C ra LA K s → vcR W0 P ops C rb LB K s → wpAny P .any ops Q n listed a w := by
  intro n
  induction n with
  | zero =>
    intro ra rb listed LA LB a w s hn hnb hsz hra hrb hpa hpb hna hnb' hu hv hcl hi ha hb
    rw [List.length_eq_zero_iff.1 hn] at hu
    cases hu
  | succ n ih =>
    intro ra rb listed LA LB a w s hn hnb hsz hra hrb hpa hpb hna hnb' hu hv hcl hi ha hb
    refine ⟨fun hnone => ?_, fun i hir => ?_⟩
    · exfalso
      have key : ∀ j, j ∈ ra → False := by
        intro j
        induction j using Nat.strongRecOn with
        | _ j ihj =>
          intro hj
          have hjl := (hra j).1 hj
          have hjs : j < ops.size := by
            rcases Nat.lt_or_ge j ops.size with h1 | h1
            · exact h1
            · rw [Array.getD_eq_getD_getElem?, Array.getElem?_eq_none (by omega)] at hjl
              cases hjl
          have ho : ops[j]? = some ops[j] := Array.getElem?_eq_getElem hjs
          have hej := List.all_eq_true.1 he j (List.mem_range.2 hjs)
          rw [ho] at hej
          simp only [List.all_eq_true, decide_eq_true_eq] at hej
          refine List.not_mem_nil (hnone ▸ mem_ready.2 ⟨hjl, ops[j], ho, fun e hem heb => ?_⟩ : j ∈ ([] : List Nat))
          have hlt := hej e.on (mem_edges.2 ⟨e, hem, heb, rfl⟩)
          cases hx : listed.getD e.on true with
          | false => exact (ihj e.on hlt ((hra e.on).2 hx)).elim
          | true =>
            rw [Array.getD_eq_getD_getElem?, Array.getElem?_eq_getElem (by omega)] at hx ⊢
            exact hx
      exact key u hu
    · obtain ⟨hil, oi, hio, hall⟩ := mem_ready.1 hir
      have hedge : ∀ x ∈ edges oi, listed.getD x false = true := fun x hx => by
        obtain ⟨e, h1, h2, rfl⟩ := mem_edges.1 hx
        exact hall e h1 h2
      have hul := (hra u).1 hu
      have hvl := (hra v).1 hv
      have hno : ∀ z, listed.getD z true = false → z ∉ C.getD i [] := fun z hz hzc => by
        obtain ⟨o, ho, j, hj, hlt, h1⟩ := cOk_spec hc hzc
        rw [hio] at ho
        cases ho
        have h2 : listed.getD z false = true := by
          rcases h1 with rfl | h1
          · exact hedge z hj
          · exact hcl.clos hc j z (hedge j hj) h1
        rw [Array.getD_eq_getD_getElem?] at h2 hz
        revert h2 hz
        cases listed[z]? <;> simp
      -- one order is picked: u or v is carried out
      have one : ∀ (r : List Nat) (L : Lst) (u v : Nat), i = u → r.length = n + 1 → (∀ j, j ∈ r ↔ listed.getD j true = false) → r.Pairwise (fun x y => rOkx ops C u v x y = true) → r.Nodup → vcR W0 P ops C r L K s →
          wpOp P ops Q i (wpAny P .any ops Q n (listed.setIfInBounds i true)) a w := fun r L u v hiu hn hr hp hnd h => by
        obtain ⟨l1, l2, rfl⟩ := List.append_of_mem ((hr i).2 hil)
        obtain ⟨hnd1, hni⟩ := nodup_pick hnd
        have hsub : (l1 ++ l2).Sublist (l1 ++ i :: l2) := List.Sublist.append (List.Sublist.refl _) (List.sublist_cons_self i l2)
        have hop := region_pick hX hd hc hio hedge (fun j hj => (hr j).1 (List.mem_append_left _ hj)) hcl (fun y hy _ => by
          have h1 := (List.pairwise_append.1 hp).2.2 y hy i List.mem_cons_self
          unfold rOkx at h1
          have hyu : (y == u) = false := by
            rw [beq_eq_false_iff_ne]
            intro e
            exact hni (List.mem_append_left _ (by rw [hiu, ← e]; exact hy))
          rw [hyu, Bool.false_and, Bool.or_false] at h1
          exact h1) hi h
        refine wpOp_mono (fun a' w' ⟨s', h1, h2⟩ => ?_) (vcOp_sound hi (hi.hX hX) hB hd hio hop)
        refine region_any hX hB hd hc he hQ n (l1 ++ l2) _ _ a' w' s' (by simp only [List.length_append, List.length_cons] at hn ⊢; omega) (by simpa using hsz) (listed_next hio hsz hr hnd) ?_ hnd1 (closed_next hio hedge hcl) h1 h2
        refine (hp.sublist hsub).imp_of_mem (fun {x y} hx hy hxy => ?_)
        unfold rOkx at hxy
        have hxu : (x == u) = false := by
          rw [beq_eq_false_iff_ne]
          intro e
          exact hni (by rw [hiu, ← e]; exact hx)
        rw [hxu, Bool.false_and, Bool.or_false] at hxy
        exact hxy
      by_cases hiu : i = u
      · exact one ra LA u v hiu hn hra hpa hna ha
      · by_cases hiv : i = v
        · exact one rb LB v u hiv hnb hrb hpb hnb' hb
        · have hq : isQuiet oi.op = true := by
            rcases hone i oi hio with h1 | h1 | h1 | h1 | h1
            · exact absurd h1 hiu
            · exact absurd h1 hiv
            · exact h1
            · exact absurd h1 (hno u hul)
            · exact absurd h1 (hno v hvl)
          have both : ∀ (r : List Nat) (L : Lst) (u v : Nat), i ≠ v → v ∉ C.getD i [] → (∀ j, j ∈ r ↔ listed.getD j true = false) → r.Pairwise (fun x y => rOkx ops C u v x y = true) → vcR W0 P ops C r L K s → ∃ l1 l2, r = l1 ++ i :: l2 ∧ vcOp W0 P ops oi (ckL C L i) (vcR W0 P ops C (l1 ++ l2) (if isQuiet oi.op then (i, roots s oi.op) :: L else L) K) s := fun r L u v hiv hvn hr hp h => by
            obtain ⟨l1, l2, rfl⟩ := List.append_of_mem ((hr i).2 hil)
            refine ⟨l1, l2, rfl, region_pick hX hd hc hio hedge (fun j hj => (hr j).1 (List.mem_append_left _ hj)) hcl (fun y hy _ => ?_) hi h⟩
            have h1 := (List.pairwise_append.1 hp).2.2 y hy i List.mem_cons_self
            unfold rOkx at h1
            rw [beq_eq_false_iff_ne.2 hiv, Bool.false_or] at h1
            have : (C.getD i []).contains v = false := by
              cases hcv : (C.getD i []).contains v with
              | false => rfl
              | true => exact absurd (List.contains_iff_mem.1 hcv) hvn
            rw [this, Bool.and_false, Bool.or_false] at h1
            exact h1
          obtain ⟨p1, p2, rfl, hA⟩ := both ra LA u v hiv (hno v hvl) hra hpa ha
          obtain ⟨q1, q2, rfl, hBb⟩ := both rb LB v u hiu (hno u hul) hrb hpb hb
          have hsubA : (p1 ++ p2).Sublist (p1 ++ i :: p2) := List.Sublist.append (List.Sublist.refl _) (List.sublist_cons_self i p2)
          have hsubB : (q1 ++ q2).Sublist (q1 ++ i :: q2) := List.Sublist.append (List.Sublist.refl _) (List.sublist_cons_self i q2)
          have hmem : ∀ z, z ≠ i → z ∈ p1 ++ i :: p2 → z ∈ p1 ++ p2 := fun z hz hm => by
            simp only [List.mem_append, List.mem_cons] at hm ⊢
            rcases hm with h | h | h
            · exact .inl h
            · exact absurd h hz
            · exact .inr h
          refine wpOp_mono (fun a' w' ⟨s', h1, h2, h3⟩ => ?_) (vcOp_sound hi (hi.hX hX) hB hd hio (vcOp_and hq hA hBb))
          exact ih (p1 ++ p2) (q1 ++ q2) _ _ _ a' w' s' (by simp only [List.length_append, List.length_cons] at hn ⊢; omega) (by simp only [List.length_append, List.length_cons] at hnb ⊢; omega) (by simpa using hsz) (listed_next hio hsz hra hna) (listed_next hio hsz hrb hnb')
            (hpa.sublist hsubA) (hpb.sublist hsubB) (nodup_pick hna).1 (nodup_pick hnb').1 (hmem u (Ne.symm hiu) hu) (hmem v (Ne.symm hiv) hv) (closed_next hio hedge hcl) h1 h2 h3

theorem wp_region_drawn2 (hm : P.follows .mixedOrders = true) (hX : ∀ b, X b → b < w0.heap.size) (hB : BaseA W0 w0 av0) (hd : ∀ (j : Nat) (o : Oper) (t : Nat), ops[j]? = some o → o.dst = some t → t < N) {u v : Nat} {oa ob : List Nat} (ho : drOk2 ops C u v oa ob = true)
    (hQ : ∀ a w s, Inv w0 av0 X N a w s → K s → Q .normal a w) {a : Act} {w : World} {s : St} (hi : Inv w0 av0 X N a w s) (ha : vcR W0 P ops C oa [] K s) (hb : vcR W0 P ops C ob [] K s) {id : Nat} : (Code.region id ops true).wp P Q a w := by
  simp only [drOk2, Bool.and_eq_true, decide_eq_true_eq] at ho
  obtain ⟨⟨⟨⟨⟨⟨⟨⟨⟨⟨⟨⟨h1, h2⟩, h3⟩, h4⟩, h5⟩, h6⟩, h7⟩, h8⟩, h9⟩, h10⟩, h11⟩, h12⟩, h13⟩ := ho
  have memOf : ∀ l : List Nat, (l.all (· < ops.size)) = true → (List.range ops.size).all l.contains = true → ∀ j, j ∈ l ↔ j < ops.size := fun l p q j => ⟨fun hj => by simpa using List.all_eq_true.1 p j hj, fun hj => by simpa using List.all_eq_true.1 q j (List.mem_range.2 hj)⟩
  have lenOf : ∀ l : List Nat, l.Nodup → (∀ j, j ∈ l ↔ j < ops.size) → l.length = ops.size := fun l p q => by
    have h7 : l.Perm (List.range ops.size) := (List.perm_ext_iff_of_nodup p List.nodup_range).2 fun j => by rw [q, List.mem_range]
    simpa using h7.length_eq
  have na : oa.Nodup := (pwOk_spec h5).imp (by simp)
  have nb : ob.Nodup := (pwOk_spec h6).imp (by simp)
  have ma := memOf oa h7 h9
  have mb := memOf ob h8 h10
  have hone : ∀ (i : Nat) (o : Oper), ops[i]? = some o → i = u ∨ i = v ∨ isQuiet o.op = true ∨ u ∈ C.getD i [] ∨ v ∈ C.getD i [] := fun i o hio => by
    have h := List.all_eq_true.1 h13 i (List.mem_range.2 (Array.getElem?_eq_some_iff.1 hio).1)
    rw [hio] at h
    simp only [Bool.or_eq_true, beq_iff_eq, List.contains_iff_mem] at h
    rcases h with (((h | h) | h) | h) | h
    · exact .inl h
    · exact .inr (.inl h)
    · exact .inr (.inr (.inl h))
    · exact .inr (.inr (.inr (.inl h)))
    · exact .inr (.inr (.inr (.inr h)))
  have start : ∀ l : List Nat, (∀ j, j ∈ l ↔ j < ops.size) → ∀ j, j ∈ l ↔ (Array.replicate ops.size false).getD j true = false := fun l hl j => by
    rw [hl, Array.getD_eq_getD_getElem?]
    by_cases hj : j < ops.size <;> simp [hj]
  refine wp_region_any hm (region_any2 (C := C) (K := K) hX hB hd h1 h2 hQ hone ops.size oa ob _ [] [] a _ s (lenOf oa na ma) (lenOf ob nb mb) (by simp) (start oa ma) (start ob mb) (pwOk_spec h3) (pwOk_spec h4) na nb ((ma u).2 h11) ((ma v).2 h12) ?_ hi.drew ha hb)
  intro j o ho hl
  have : j < ops.size := (Array.getElem?_eq_some_iff.1 ho).1
  simp [this] at hl
end
end Go.VL
namespace Go.VL
set_option linter.unusedVariables false
set_option linter.unusedSimpArgs false

/-- Some objects kept (under new numbers), some frozen, the rest forgotten. -/
def St.gc (s : St) (keep bor : List Nat) : St := ⟨fun t => (s.env t).loc s.σ keep bor, locObs s.σ keep bor, s.h⟩

theorem Inv.gc {w0 : World} {av0 X : Nat → Prop} {N : Nat} {a : Act} {w : World} {s : St} (hi : Inv w0 av0 X N a w s) {keep bor : List Nat} (hn : keep.Nodup) (hk : ∀ r ∈ keep, r < s.σ.length) (hd : ∀ r ∈ keep, r ∉ bor) : Inv w0 av0 X N a w (s.gc keep bor) := by
  obtain ⟨h1, h2⟩ := hi.hp.loc (X' := X) hk hn hd (fun b hb => .inl hb)
  refine ⟨h1, fun t => (hi.env t).loc hi.hp hk h2, hi.h, hi.h0, hi.fr, fun r o ho => ?_, hi.defers, hi.sz⟩
  obtain ⟨r', o', _, h4, rfl⟩ := locObs_cases hk ho
  rw [Ob.loc_g]
  exact hi.own r' o' h4

/-- J holds, as it is or of fewer objects. -/
def gcd (J : St → Prop) (s : St) : Prop := J s ∨ ∃ keep bor : List Nat, keep.Nodup ∧ (∀ r ∈ keep, r < s.σ.length) ∧ (∀ r ∈ keep, r ∉ bor) ∧ J (s.gc keep bor)

/-- Every temporary that is written has its place. -/
def dstOk (N : Nat) : Code → Bool
  | .skip => true
  | .region _ ops _ => ops.all fun o => match o.dst with | some t => t < N | none => true
  | .seq a b => dstOk N a && dstOk N b
  | .cond _ a b => dstOk N a && dstOk N b
  | .block _ c => dstOk N c
  | .loop c => dstOk N c
  | .exit _ => true
  | .ret => true
  | _ => false

def thenK (x : St → Prop) (K : Exit → St → Prop) : Exit → St → Prop
  | .normal, s => x s
  | e, s => K e s
def blockK (id : Nat) (K : Exit → St → Prop) : Exit → St → Prop
  | .exit id', s => if id' = id then K .normal s else K (.exit id') s
  | e, s => K e s

def vcC (W0 : World) (P : Program) : Code → (Exit → St → Prop) → St → Prop
  | .skip, K, s => K .normal s
  | .region _ ops draw, K, s => if draw then (∃ ord, drOk ops (closL ops) ord = true ∧ vcR W0 P ops (closL ops) ord [] (K .normal) s) ∨ (∃ u v oa ob, drOk2 ops (closL ops) u v oa ob = true ∧ vcR W0 P ops (closL ops) oa [] (K .normal) s ∧ vcR W0 P ops (closL ops) ob [] (K .normal) s) else vcOps W0 P ops ops.toList (K .normal) s
  | .seq a b, K, s => vcC W0 P a (thenK (gcd (vcC W0 P b K)) K) s
  | .cond c a b, K, s => match s.eval c with
    | .t (.bool t) => (t = true → vcC W0 P a K s) ∧ (t = false → vcC W0 P b K s)
    | _ => False
  | .block id c, K, s => vcC W0 P c (blockK id K) s
  | .loop c, K, s => ∃ (I : Nat → St → Prop) (n : Nat), gcd (I n) s ∧ ∀ n s, I n s → vcC W0 P c (thenK (fun s' => ∃ m, m < n ∧ gcd (I m) s') K) s
  | .exit id, K, s => K (.exit id) s
  | .ret, K, s => K .ret s
  | _, _, _ => False

theorem filterMap_range {α : Type} : ∀ (l : List α), (List.range l.length).filterMap (l[·]?) = l := by
  intro l
  induction l with
  | nil => rfl
  | cons x l ih =>
    rw [List.length_cons, List.range_succ_eq_map, List.filterMap_cons]
    simp only [List.getElem?_cons_zero, List.filterMap_map]
    congr 1

section
variable {W0 : World} {P : Program} {w0 : World} {av0 X : Nat → Prop} {N : Nat}

theorem least {p : Nat → Prop} (h : ∃ n, p n) : ∃ m, p m ∧ ∀ k, p k → m ≤ k := by
  obtain ⟨n, hn⟩ := h
  induction n using Nat.strongRecOn with
  | _ n ih =>
    by_cases hx : ∃ k, k < n ∧ p k
    · obtain ⟨k, hk, hp⟩ := hx
      exact ih k hk hp
    · exact ⟨n, hn, fun k hk => Nat.le_of_not_lt fun hlt => hx ⟨k, hlt, hk⟩⟩

theorem gcd_sound {J : St → Prop} {a : Act} {w : World} {s : St} (hi : Inv w0 av0 X N a w s) (h : gcd J s) : ∃ s', Inv w0 av0 X N a w s' ∧ J s' := by
  rcases h with h | ⟨keep, bor, h1, h2, h3, h4⟩
  · exact ⟨s, hi, h⟩
  · exact ⟨_, hi.gc h1 h2 h3, h4⟩

theorem vcC_sound (hm : P.follows .mixedOrders = true) (hX : ∀ b, X b → b < w0.heap.size) (hB : BaseA W0 w0 av0) : ∀ (c : Code) (K : Exit → St → Prop) (Q : Exit → Act → World → Prop) (a : Act) (w : World) (s : St), dstOk N c = true →
    (∀ e a w s, Inv w0 av0 X N a w s → K e s → Q e a w) → Inv w0 av0 X N a w s → vcC W0 P c K s → c.wp P Q a w := by
  have hdst : ∀ {ops : Array Oper} {id d}, dstOk N (.region id ops d) = true → ∀ (j : Nat) (o : Oper) (t : Nat), ops[j]? = some o → o.dst = some t → t < N := fun {ops id d} h j o t ho ht => by
    simp only [dstOk, Array.all_eq_true_iff_forall_mem] at h
    have := h o (Array.mem_of_getElem? ho)
    rw [ht] at this
    simpa using this
  intro c
  induction c with
  | skip => exact fun K Q a w s hN hQ hi h => wp_skip (hQ _ _ _ _ hi h)
  | region id ops draw =>
    intro K Q a w s hN hQ hi h
    unfold vcC at h
    split at h
    · rename_i hdraw
      subst hdraw
      rcases h with ⟨ord, h1, h2⟩ | ⟨u, v, oa, ob, h1, h2, h3⟩
      · exact wp_region_drawn hm hX hB (hdst hN) h1 (fun a w s hi h => hQ _ _ _ _ hi h) hi h2
      · exact wp_region_drawn2 hm hX hB (hdst hN) h1 (fun a w s hi h => hQ _ _ _ _ hi h) hi h2 h3
    · rename_i hdraw
      have : draw = false := by simpa using hdraw
      subst this
      refine wp_region (vcOps_sound hX hB (hdst hN) (fun a w s hi h => hQ _ _ _ _ hi h) _ a w s hi ?_)
      have he : (List.range ops.size).filterMap (ops[·]?) = ops.toList := by
        have := filterMap_range ops.toList
        simpa using this
      rw [he]
      exact h
  | seq x y ihx ihy =>
    intro K Q a w s hN hQ hi h
    simp only [dstOk, Bool.and_eq_true] at hN
    refine wp_seq (ihx _ _ a w s hN.1 (fun e a w s hi h => ?_) hi h)
    cases e with
    | normal =>
      obtain ⟨s', h1, h2⟩ := gcd_sound hi h
      exact ihy K Q a w s' hN.2 hQ h1 h2
    | _ => exact hQ _ a w s hi h
  | cond c x y ihx ihy =>
    intro K Q a w s hN hQ hi h
    simp only [dstOk, Bool.and_eq_true] at hN
    unfold vcC at h
    split at h
    · rename_i t ht
      have hv := (ht ▸ hi.eval c).bool_inv
      refine wp_cond hv ?_
      cases t with
      | true => exact ihx K Q a w s hN.1 hQ hi (h.1 rfl)
      | false => exact ihy K Q a w s hN.2 hQ hi (h.2 rfl)
    · exact h.elim
  | block id c ih =>
    intro K Q a w s hN hQ hi h
    refine wp_block (ih _ _ a w s hN (fun e a w s hi h => ?_) hi h)
    cases e with
    | exit id' =>
      simp only [blockK] at h
      simp only [Exit.inBlock]
      split at h
      · rename_i h1; rw [if_pos h1]; exact hQ _ _ _ _ hi h
      · rename_i h1; rw [if_neg h1]; exact hQ _ _ _ _ hi h
    | _ => exact hQ _ _ _ _ hi h
  | loop c ih =>
    intro K Q a w s hN hQ hi h
    obtain ⟨I, n, h0, hround⟩ := h
    classical
    let J : Act → World → Nat → Prop := fun a w n => ∃ s, Inv w0 av0 X N a w s ∧ I n s
    refine wp_loop (fun a w => ∃ n, J a w n) (fun a w => if h : ∃ n, J a w n then (least h).choose else 0) ?_ (fun a w hJ => ?_)
    · obtain ⟨s', h1, h2⟩ := gcd_sound hi h0
      exact ⟨n, s', h1, h2⟩
    · simp only [dif_pos hJ]
      obtain ⟨s1, hi1, hI⟩ := (least hJ).choose_spec.1
      refine ih _ _ a w s1 hN (fun e a' w' s2 hi2 h2 => ?_) hi1 (hround _ s1 hI)
      cases e with
      | normal =>
        obtain ⟨m, hm2, h3⟩ := h2
        obtain ⟨s3, h4, h5⟩ := gcd_sound hi2 h3
        have hex : ∃ n, J a' w' n := ⟨m, s3, h4, h5⟩
        refine ⟨hex, ?_⟩
        rw [dif_pos hex]
        exact Nat.lt_of_le_of_lt ((least hex).choose_spec.2 m ⟨s3, h4, h5⟩) hm2
      | _ => exact hQ _ _ _ _ hi2 h2
  | exit id => exact fun K Q a w s hN hQ hi h => wp_exit (hQ _ _ _ _ hi h)
  | ret => exact fun K Q a w s hN hQ hi h => wp_ret (hQ _ _ _ _ hi h)
  | _ => intro K Q a w s hN hQ hi h; exact h.elim
end

/-! ### contracts -/
def resQ (P : Program) (s : St) : ResultVar → Option V
  | .tmp t => some (s.env t)
  | .cell a t => loadQ P s t (s.env a)
/-- One result as it is, others as a tuple. -/
def tupV : List V → V
  | [v] => v
  | l => .tup l

def resV (tmps : Array Value) : ResultVar → Sem Value
  | .tmp t => pure (tmps.getD t undef)
  | .cell x t => do loadVar t (← asAddr (tmps.getD x undef))
theorem results_eq (fn : Func) (tmps : Array Value) : results fn tmps = (do let vs ← fn.results.mapM (resV tmps); pure (if h : vs.size = 1 then vs[0] else .tuple vs)) := rfl

theorem resQ_sound {P : Program} {w0 : World} {av0 X : Nat → Prop} {N : Nat} {a : Act} {w : World} {s : St} (hi : Inv w0 av0 X N a w s) : ∀ (l : List ResultVar) (vs : List V), l.mapM (resQ P s) = some vs →
    ∃ xs : List Value, (l.mapM (resV a.tmps)).run P w = .ok xs w ∧ xs.length = vs.length ∧ ∀ (i : Nat) (v : V), vs[i]? = some v → VR w X s.σ v (xs.getD i undef)
  | [], vs, h => by
    simp only [List.mapM_nil, Option.pure_def, Option.some.injEq] at h
    subst h
    exact ⟨[], rfl, rfl, fun i v hv => by simp at hv⟩
  | r :: l, vs, h => by
    rw [List.mapM_cons] at h
    simp only [Option.bind_eq_bind, Option.bind_eq_some_iff, Option.pure_def, Option.some.injEq] at h
    obtain ⟨v, hv, l2, hl2, rfl⟩ := h
    obtain ⟨xs, h1, h2, h3⟩ := resQ_sound hi l l2 hl2
    have hone : ∃ x, (resV a.tmps r).run P w = .ok x w ∧ VR w X s.σ v x := by
      cases r with
      | tmp t =>
        simp only [resQ, Option.some.injEq] at hv
        subst hv
        exact ⟨_, rfl, hi.env t⟩
      | cell x t =>
        simp only [resQ] at hv
        obtain ⟨y, h4, h5⟩ := loadQ_sound hi hv (hi.env x)
        refine ⟨y, ?_, h5⟩
        show (do loadVar t (← asAddr (a.tmps.getD x undef)) : Sem Value).run P w = _
        generalize a.tmps.getD x undef = z at h4
        unfold Instr.loadAt Instr.sureAddr at h4
        unfold asAddr
        split at h4
        · exact h4
        · simp [stuck] at h4
    obtain ⟨x, h6, h7⟩ := hone
    refine ⟨x :: xs, ?_, by simp [h2], fun i u hu => ?_⟩
    · rw [List.mapM_cons]
      simp only [Sem.run_bind, h6, Result.andThen_ok, h1, Sem.run_pure]
    · cases i with
      | zero => simp only [List.getElem?_cons_zero, Option.some.injEq] at hu; subst hu; simpa using h7
      | succ i => simpa using h3 i u (by simpa using hu)

def envOf (args : List V) : Nat → V := fun t => args.getD t .undef

/-- What must hold where a function returns: its result, and the objects that it was given or hands back. -/
def retK (P : Program) (rs : List ResultVar) (σ0 : List Ob) (h0 : Nat) (R : Nat → Nat → V → List Ob → Prop) (s : St) : Prop :=
  ∃ vs, rs.mapM (resQ P s) = some vs ∧ ∃ keep bor : List Nat, keep.Nodup ∧ (∀ r ∈ keep, r < s.σ.length) ∧ (∀ r ∈ keep, r ∉ bor) ∧
    (∀ hi, s.h ≤ hi → R h0 hi ((tupV vs).loc s.σ keep bor) (locObs s.σ keep bor)) ∧
    (∀ (r : Nat) (o : Ob), σ0[r]? = some o → ∃ o' : Ob, (locObs s.σ keep bor)[r]? = some o' ∧ o.le o')
def retE (P : Program) (rs : List ResultVar) (σ0 : List Ob) (h0 : Nat) (R : Nat → Nat → V → List Ob → Prop) : Exit → St → Prop
  | .normal, s | .ret, s => retK P rs σ0 h0 R s
  | _, _ => False

theorem Ctr.of_vc {W0 : World} {P : Program} {f : FuncId} {fn : Func} {c : Code} {rs : List ResultVar} {args : List V} {σ : List Ob} {R : Nat → Nat → V → List Ob → Prop} (hm : P.follows .mixedOrders = true) (hf : P.funcs[f]? = some fn) (hb : fn.body = some c) (hrs : fn.results.toList = rs)
    (hc : callable P f = true) (hd : dstOk fn.ntmps c = true) (hl : args.length ≤ fn.ntmps) (h : ∀ h0, vcC W0 P c (retE P rs σ h0 R) ⟨envOf args, σ, h0⟩) : Ctr W0 P f args σ R := by
  refine ⟨hc, fun w X vs hX ha hp => calls_of_wp hf hb ?_⟩
  obtain ⟨hvl, hva⟩ := ha
  refine vcC_sound (w0 := w) (av0 := fun b => ∃ (r : Nat) (o : Ob), σ[r]? = some o ∧ o.g = b) (N := fn.ntmps) hm hX.1 ⟨hX.2.1, fun b ⟨r, o, h1, h2⟩ => h2 ▸ hX.2.2 r o h1⟩ c _ _ _ w _ hd ?_ ?_ (h w.heap.size)
  · intro e a w' s hi hK
    have key : retK P rs σ w.heap.size R s → a.defers = [] ∧ ∃ v, (results fn a.tmps).run P w' = .ok v w' ∧ ∃ (v' : Value) (r : V) (σ' : List Ob), Ending.returned v = .returned v' ∧ R w.heap.size w'.heap.size r σ' ∧ VR w' X σ' r v' ∧ Heap w' X σ' ∧ Fr w (fun b => ∃ (r : Nat) (o : Ob), σ[r]? = some o ∧ o.g = b) w' ∧
      (∀ (r : Nat) (o : Ob), σ[r]? = some o → ∃ o' : Ob, σ'[r]? = some o' ∧ o.le o') ∧
      (∀ (r : Nat) (o : Ob), σ'[r]? = some o → (∃ (r' : Nat) (o' : Ob), σ[r']? = some o' ∧ o.g = o'.g) ∨ w.heap.size ≤ o.g) := by
      subst hrs
      rintro ⟨vs', h1, keep, bor, h2, h3, h4, h5, h6⟩
      obtain ⟨xs, g1, g2, g3⟩ := resQ_sound hi _ _ h1
      obtain ⟨k1, k2⟩ := hi.hp.loc (X' := X) h3 h2 h4 (fun b hb => .inl hb)
      refine ⟨hi.defers, (if h : xs.toArray.size = 1 then xs.toArray[0] else .tuple xs.toArray), ?_, _, (tupV vs').loc s.σ keep bor, locObs s.σ keep bor, rfl, h5 _ hi.h, ?_, k1, hi.fr, h6, ?_⟩
      · rw [results_eq]
        rw [Array.mapM_eq_mapM_toList]
        rw [map_eq_pure_bind]
        simp only [bind_assoc, pure_bind]
        simp only [Sem.run_bind, g1, Result.andThen_ok, Sem.run_pure]
      · refine VR.loc ?_ hi.hp h3 k2
        match vs', g2, g3 with
        | [v], g2, g3 =>
          match xs, g2 with
          | [x], _ => simpa [tupV] using g3 0 v rfl
        | [], g2, g3 =>
          match xs, g2 with
          | [], _ => exact .tup rfl (fun i c hc => by simp at hc)
        | u :: v :: l, g2, g3 =>
          match xs, g2 with
          | x :: y :: l', g2 =>
            simp only [List.size_toArray, List.length_cons]
            rw [dif_neg (by omega)]
            exact .tup (by simp at g2 ⊢; omega) (fun i c hc => by simpa using g3 i c hc)
      · intro r o ho
        obtain ⟨r', o', _, h8, rfl⟩ := locObs_cases h3 ho
        rw [Ob.loc_g]
        rcases hi.own r' o' h8 with ⟨r2, o2, h9, h10⟩ | h9
        · exact .inl ⟨r2, o2, h9, h10.symm⟩
        · exact .inr h9
    cases e with
    | normal => exact key hK
    | ret => exact key hK
    | _ => exact hK.elim
  · refine ⟨hp, fun t => ?_, Nat.le_refl _, Nat.le_refl _, Fr.refl _ _, fun r o ho => .inl ⟨r, o, ho, rfl⟩, rfl, ?_⟩
    · show VR w X σ (args.getD t .undef) _
      by_cases ht : t < args.length
      · have h1 := hva t args[t] (List.getElem?_eq_getElem ht)
        rw [List.getD_eq_getElem?_getD, List.getElem?_eq_getElem ht]
        simp only [Option.getD_some]
        rw [Array.getD_eq_getD_getElem?] at h1 ⊢
        rwa [Array.getElem?_append_left (by omega)]
      · rw [List.getD_eq_getElem?_getD, List.getElem?_eq_none (by omega)]
        exact .undef _
    · simp only [Array.size_append, Array.size_replicate]
      omega
end Go.VL
namespace Go.VL
set_option linter.unusedVariables false
set_option linter.unusedSimpArgs false

/-- A list of operations, each with a mark: may it write what others read? -/
def vcX (W0 : World) (P : Program) (ops : Array Oper) : List (Oper × Bool) → (St → Prop) → St → Prop
  | [], K, s => K s
  | (o, b) :: l, K, s => vcOp W0 P ops o (fun ts => b = true ∨ ts = []) (vcX W0 P ops l K) s

theorem vcX_ops {W0 : World} {P : Program} {ops : Array Oper} {K : St → Prop} : ∀ (l : List Oper) (s : St), vcX W0 P ops (l.map (·, true)) K s → vcOps W0 P ops l K s
  | [], s, h => h
  | o :: l, s, h => vcOp_mono (fun _ _ => trivial) (fun s h => vcX_ops l s h) h

/-- An order with marks: is every mark earned? -/
def marksOk (ops : Array Oper) (C : List (List Nat)) : List (Nat × Bool) → List Nat → Bool
  | [], _ => true
  | (i, b) :: l, L => (!b || L.all fun y => (C.getD i []).contains y) && marksOk ops C l (match ops[i]? with | some o => if isQuiet o.op then i :: L else L | none => L)
def dOk (ops : Array Oper) (ord : List (Nat × Bool)) : Bool := drOk ops (closL ops) (ord.map (·.1)) && marksOk ops (closL ops) ord []
def pk (ops : Array Oper) : List (Nat × Bool) → List (Oper × Bool)
  | [] => []
  | (i, b) :: l => match ops[i]? with | some o => (o, b) :: pk ops l | none => pk ops l

theorem vcX_R {W0 : World} {P : Program} {ops : Array Oper} {C : List (List Nat)} {K : St → Prop} : ∀ (ord : List (Nat × Bool)) (L : List Nat) (L' : Lst) (s : St), marksOk ops C ord L = true → (∀ p ∈ L', p.1 ∈ L) → vcX W0 P ops (pk ops ord) K s → vcR W0 P ops C (ord.map (·.1)) L' K s
  | [], _, _, _, _, _, h => h
  | (i, b) :: l, L, L', s, hm, hs, h => by
    rw [List.map_cons]
    unfold vcR
    unfold pk at h
    simp only [marksOk, Bool.and_eq_true] at hm
    obtain ⟨hm1, hm2⟩ := hm
    cases ho : ops[i]? with
    | none => simp only [ho] at h hm2 ⊢; exact vcX_R l L L' s hm2 hs h
    | some o =>
      simp only [ho] at h hm2 ⊢
      refine vcOp_mono (fun ts ht => ?_) (fun s1 h1 => vcX_R l _ _ s1 hm2 (fun p hp => ?_) h1) h
      · intro p hp
        rcases ht with rfl | rfl
        · refine .inl ?_
          simp only [Bool.not_true, Bool.false_or] at hm1
          have := List.all_eq_true.1 hm1 p.1 (hs p hp)
          simpa using this
        · exact .inr (fun r _ h => by cases h)
      · by_cases hq : isQuiet o.op = true
        · rw [if_pos hq] at hp ⊢
          rcases List.mem_cons.1 hp with rfl | h2
          · exact List.mem_cons_self
          · exact List.mem_cons_of_mem _ (hs p h2)
        · rw [if_neg hq] at hp ⊢
          exact hs p hp

theorem gcd_mono {J J' : St → Prop} (h : ∀ s, J s → J' s) {s : St} (hj : gcd J s) : gcd J' s := by
  rcases hj with hj | ⟨keep, bor, h1, h2, h3, h4⟩
  · exact .inl (h s hj)
  · exact .inr ⟨keep, bor, h1, h2, h3, h _ h4⟩
theorem vcOps_mono {W0 : World} {P : Program} {ops : Array Oper} {K K' : St → Prop} (hK : ∀ s, K s → K' s) : ∀ (l : List Oper) (s : St), vcOps W0 P ops l K s → vcOps W0 P ops l K' s
  | [], s, h => hK s h
  | o :: l, s, h => vcOp_mono (fun _ h => h) (fun s h => vcOps_mono hK l s h) h
theorem vcR_mono {W0 : World} {P : Program} {ops : Array Oper} {C : List (List Nat)} {K K' : St → Prop} (hK : ∀ s, K s → K' s) : ∀ (l : List Nat) (L : Lst) (s : St), vcR W0 P ops C l L K s → vcR W0 P ops C l L K' s
  | [], _, s, h => hK s h
  | i :: l, L, s, h => by
    unfold vcR at h ⊢
    cases ho : ops[i]? with
    | none => rw [ho] at h; exact vcR_mono hK l L s h
    | some o => rw [ho] at h; exact vcOp_mono (fun _ h => h) (fun s h => vcR_mono hK l _ s h) h
theorem vcC_mono {W0 : World} {P : Program} {K K' : Exit → St → Prop} (hK : ∀ e s, K e s → K' e s) : ∀ (c : Code) (s : St), vcC W0 P c K s → vcC W0 P c K' s := by
  have tm : ∀ {x x' : St → Prop} {K K' : Exit → St → Prop}, (∀ s, x s → x' s) → (∀ e s, K e s → K' e s) → ∀ e s, thenK x K e s → thenK x' K' e s := fun hx hk e s h => by
    cases e <;> first | exact hx s h | exact hk _ s h
  intro c
  induction c generalizing K K' with
  | skip => exact fun s h => hK _ s h
  | region id ops draw =>
    intro s h
    unfold vcC at h ⊢
    split at h
    · rename_i hd
      rw [if_pos hd]
      rcases h with ⟨ord, h1, h2⟩ | ⟨u, v, oa, ob, h1, h2, h3⟩
      · exact .inl ⟨ord, h1, vcR_mono (hK _) _ _ s h2⟩
      · exact .inr ⟨u, v, oa, ob, h1, vcR_mono (hK _) _ _ s h2, vcR_mono (hK _) _ _ s h3⟩
    · rename_i hd
      rw [if_neg hd]
      exact vcOps_mono (hK _) _ s h
  | seq a b iha ihb => exact fun s h => iha (tm (fun s h => gcd_mono (ihb hK) h) hK) s h
  | cond c a b iha ihb =>
    intro s h
    unfold vcC at h ⊢
    split at h
    · exact ⟨fun ht => iha hK s (h.1 ht), fun ht => ihb hK s (h.2 ht)⟩
    · exact h.elim
  | block id c ih =>
    refine fun s h => ih (fun e s h => ?_) s h
    cases e with
    | exit id' =>
      simp only [blockK] at h ⊢
      split
      · rename_i hx; rw [if_pos hx] at h; exact hK _ s h
      · rename_i hx; rw [if_neg hx] at h; exact hK _ s h
    | _ => exact hK _ s h
  | loop c ih =>
    rintro s ⟨I, n, h0, hr⟩
    exact ⟨I, n, h0, fun n s hI => ih (tm (fun s h => h) hK) s (hr n s hI)⟩
  | exit id => exact fun s h => hK _ s h
  | ret => exact fun s h => hK _ s h
  | _ => exact fun s h => h.elim
section
variable {W0 : World} {P : Program} {K : Exit → St → Prop} {s : St}

theorem vc_seq {a b : Code} (h : ∀ K' : St → Prop, (∀ s, vcC W0 P b K s → K' s) → vcC W0 P a (thenK K' K) s) : vcC W0 P (.seq a b) K s :=
  h _ (fun s h => .inl h)
/-- The same, where some objects are frozen or forgotten in between. -/
theorem vc_seqG {a b : Code} (h : ∀ K' : St → Prop, (∀ s, vcC W0 P b K s → K' s) → (∀ s keep bor, keep.Nodup → (∀ r ∈ keep, r < s.σ.length) → (∀ r ∈ keep, r ∉ bor) → vcC W0 P b K (s.gc keep bor) → K' s) → vcC W0 P a (thenK K' K) s) : vcC W0 P (.seq a b) K s :=
  h _ (fun s h => .inl h) (fun s keep bor h1 h2 h3 h4 => .inr ⟨keep, bor, h1, h2, h3, h4⟩)
theorem vc_reg {id : Nat} {l : List Oper} (h : vcX W0 P l.toArray (l.map (·, true)) (K .normal) s) : vcC W0 P (.region id l.toArray false) K s := by
  unfold vcC
  rw [if_neg (by simp)]
  exact vcX_ops l s h
theorem vc_regD {id : Nat} {l : List Oper} (ord : List (Nat × Bool)) (hd : dOk l.toArray ord = true) (h : vcX W0 P l.toArray (pk l.toArray ord) (K .normal) s) : vcC W0 P (.region id l.toArray true) K s := by
  unfold vcC
  rw [if_pos rfl]
  simp only [dOk, Bool.and_eq_true] at hd
  exact .inl ⟨_, hd.1, vcX_R _ _ _ s hd.2 (fun p hp => by cases hp) h⟩
def dOk2 (ops : Array Oper) (u v : Nat) (oa ob : List (Nat × Bool)) : Bool := drOk2 ops (closL ops) u v (oa.map (·.1)) (ob.map (·.1)) && marksOk ops (closL ops) oa [] && marksOk ops (closL ops) ob []
/-- The same, where two operations touch and either may come first. -/
theorem vc_regD2 {id : Nat} {l : List Oper} (u v : Nat) (oa ob : List (Nat × Bool)) (hd : dOk2 l.toArray u v oa ob = true) (h1 : vcX W0 P l.toArray (pk l.toArray oa) (K .normal) s) (h2 : vcX W0 P l.toArray (pk l.toArray ob) (K .normal) s) : vcC W0 P (.region id l.toArray true) K s := by
  unfold vcC
  rw [if_pos rfl]
  simp only [dOk2, Bool.and_eq_true] at hd
  exact .inr ⟨u, v, _, _, hd.1.1, vcX_R _ _ _ s hd.1.2 (fun p hp => by cases hp) h1, vcX_R _ _ _ s hd.2 (fun p hp => by cases hp) h2⟩
/-- A place where the state is described anew. -/
theorem vc_seqJ {a b : Code} (J : St → Prop) (h1 : vcC W0 P a (thenK J K) s) (h2 : ∀ s, J s → vcC W0 P b K s) : vcC W0 P (.seq a b) K s := by
  refine vcC_mono (fun e s h => ?_) a s h1
  cases e with
  | normal => exact .inl (h2 s h)
  | _ => exact h
theorem vc_cond {c : Operand} {a b : Code} {t : Bool} (hc : s.eval c = .t (.bool t)) (h1 : t = true → vcC W0 P a K s) (h2 : t = false → vcC W0 P b K s) : vcC W0 P (.cond c a b) K s := by
  unfold vcC
  rw [hc]
  exact ⟨h1, h2⟩
theorem vc_skip (h : K .normal s) : vcC W0 P .skip K s := h
theorem vc_ret (h : K .ret s) : vcC W0 P .ret K s := h
theorem vc_exit {id : Nat} (h : K (.exit id) s) : vcC W0 P (.exit id) K s := h
theorem vc_block {id : Nat} {c : Code} (h : vcC W0 P c (blockK id K) s) : vcC W0 P (.block id c) K s := h
/-- A loop by a relation with a number that falls. -/
theorem vc_loop {c : Code} (I : Nat → St → Prop) (n : Nat) (h0 : I n s) (h : ∀ n s, I n s → ∀ K' : St → Prop, (∀ m s, m < n → I m s → K' s) → vcC W0 P c (thenK K' K) s) : vcC W0 P (.loop c) K s :=
  ⟨I, n, .inl h0, fun n s hI => h n s hI _ (fun m s hm hI => ⟨m, hm, .inl hI⟩)⟩
/-- The same, where some objects are frozen or forgotten as it begins, and round by round. -/
theorem vc_loopB {c : Code} (I : Nat → St → Prop) (n : Nat) (keep bor : List Nat) (hn : keep.Nodup) (hl : ∀ r ∈ keep, r < s.σ.length) (hd : ∀ r ∈ keep, r ∉ bor) (h0 : I n (s.gc keep bor)) (h : ∀ n s, I n s → ∀ K' : St → Prop, (∀ m s, m < n → I m s → K' s) → vcC W0 P c (thenK K' K) s) : vcC W0 P (.loop c) K s :=
  ⟨I, n, .inr ⟨keep, bor, hn, hl, hd, h0⟩, fun n s hi => vcC_mono (fun e s hs => by cases e <;> exact hs) c s (h n s hi (fun s' => ∃ m, m < n ∧ gcd (I m) s') (fun m s hm hi => ⟨m, hm, .inl hi⟩))⟩
/-- The same, where some objects are frozen or forgotten round by round. -/
theorem vc_loopG {c : Code} (I : Nat → St → Prop) (n : Nat) (h0 : I n s) (h : ∀ n s, I n s → ∀ K' : St → Prop, (∀ m s, m < n → I m s → K' s) →
    (∀ m s keep bor, m < n → keep.Nodup → (∀ r ∈ keep, r < s.σ.length) → (∀ r ∈ keep, r ∉ bor) → I m (s.gc keep bor) → K' s) → vcC W0 P c (thenK K' K) s) : vcC W0 P (.loop c) K s :=
  ⟨I, n, .inl h0, fun n s hI => h n s hI _ (fun m s hm hI => ⟨m, hm, .inl hI⟩) (fun m s keep bor hm h1 h2 h3 hI => ⟨m, hm, .inr ⟨keep, bor, h1, h2, h3, hI⟩⟩)⟩
end

/-! ### operations -/
section
variable {W0 : World} {P : Program} {ops : Array Oper} {l : List (Oper × Bool)} {K : St → Prop} {s : St} {e : Nat → V} {σ : List Ob} {h : Nat}

def vcXQ (W0 : World) (P : Program) (ops : Array Oper) (l : List (Oper × Bool)) (K : St → Prop) (s : St) (d : Option Tmp) : Option V → Prop
  | some v => vcX W0 P ops l K (s.put d v)
  | none => False

theorem vcX_nil : vcX W0 P ops [] K s = K s := rfl
theorem vcX_q {d : Option Tmp} {op : Op} {ty : TypeId} {pos : String} {af : Array Edge} {b : Bool} (hq : isQuiet op = true) : vcX W0 P ops ((⟨d, op, ty, pos, af, none⟩, b) :: l) K s = vcXQ W0 P ops l K s d (evalQ P s op) := by
  simp only [vcX, vcOp, gd, vcRun, if_pos hq]
  unfold vcXQ
  cases evalQ P s op with
  | none => rfl
  | some v => simp only; cases d <;> rfl
theorem vcXQ_some {d : Tmp} {v : V} : vcXQ W0 P ops l K ⟨e, σ, h⟩ (some d) (some v) = vcX W0 P ops l K ⟨upd e d v, σ, h⟩ := rfl
theorem vcXQ_some0 {v : V} : vcXQ W0 P ops l K ⟨e, σ, h⟩ none (some v) = vcX W0 P ops l K ⟨e, σ, h⟩ := rfl

/-- An operation with a guard. -/
def vcXG (W0 : World) (P : Program) (ops : Array Oper) (l : List (Oper × Bool)) (K : St → Prop) (s : St) (o : Oper) (b want : Bool) : V → Prop
  | .t (.bool t) => if t = want then vcX W0 P ops (({ o with guard := none }, b) :: l) K s else vcX W0 P ops l K (s.put o.dst .skip)
  | .skip => vcX W0 P ops l K (s.put o.dst .skip)
  | _ => False
def guardV (ops : Array Oper) (s : St) (j : Nat) : V := match (ops[j]?).bind (·.dst) with | some t => s.env t | none => .undef
theorem x_guard {d : Option Tmp} {op : Op} {ty : TypeId} {pos : String} {af : Array Edge} {b want : Bool} {j : Nat} : vcX W0 P ops ((⟨d, op, ty, pos, af, some (j, want)⟩, b) :: l) K s = vcXG W0 P ops l K s ⟨d, op, ty, pos, af, none⟩ b want (guardV ops s j) := by
  simp only [vcX, vcOp, gd]
  unfold guardV
  cases ht : (ops[j]?).bind (·.dst) with
  | none => rfl
  | some t =>
    simp only
    generalize s.env t = v
    cases v with
    | t x =>
      cases x with
      | bool t' =>
        cases t' <;> cases want <;> rfl
      | _ => rfl
    | _ => rfl
/-- A list of operations in two parts. -/
theorem vcX_append : ∀ (l1 l2 : List (Oper × Bool)) (K : St → Prop) (s : St), vcX W0 P ops (l1 ++ l2) K s = vcX W0 P ops l1 (vcX W0 P ops l2 K) s
  | [], l2, K, s => rfl
  | (o, b) :: l1, l2, K, s => by
    show vcOp W0 P ops o _ (vcX W0 P ops (l1 ++ l2) K) s = vcOp W0 P ops o _ (vcX W0 P ops l1 (vcX W0 P ops l2 K)) s
    rw [funext (vcX_append l1 l2 K)]
theorem vcX_mono {K K' : St → Prop} (hK : ∀ s, K s → K' s) : ∀ (l : List (Oper × Bool)) (s : St), vcX W0 P ops l K s → vcX W0 P ops l K' s
  | [], s, h => hK s h
  | (o, b) :: l, s, h => vcOp_mono (fun _ h => h) (fun s h => vcX_mono hK l s h) h
theorem vcX_cut (n : Nat) (h : ∀ K' : St → Prop, (∀ s, vcX W0 P ops (l.drop n) K s → K' s) → vcX W0 P ops (l.take n) K' s) : vcX W0 P ops l K s := by
  rw [← List.take_append_drop n l, vcX_append]
  exact h _ (fun s h => h)
theorem vcX_bool {t : Bool} {d : Tmp} (h1 : t = true → vcX W0 P ops l K ⟨upd e d (.t (.bool true)), σ, h⟩) (h2 : t = false → vcX W0 P ops l K ⟨upd e d (.t (.bool false)), σ, h⟩) : vcX W0 P ops l K ⟨upd e d (.t (.bool t)), σ, h⟩ := by
  cases t with
  | true => exact h1 rfl
  | false => exact h2 rfl

theorem vcX_alloc {d : Tmp} {t : TypeId} {ty : TypeId} {pos : String} {af : Array Edge} {b : Bool} {z : List V} (hz : tZero P t = some z) :
    vcX W0 P ops ((⟨some d, .alloc t, ty, pos, af, none⟩, b) :: l) K ⟨e, σ, h⟩ = ∀ g, h ≤ g → vcX W0 P ops l K ⟨upd e d (.ptr σ.length 0 0 0), σ ++ [.row g 0 z.length z.length [z]], g + 1⟩ := by
  simp only [vcX, vcOp, gd, vcRun, isQuiet, vcE, hz, touched]
  simp [St.put]
theorem vcX_box {d : Tmp} {t : TypeId} {x : Operand} {ty : TypeId} {pos : String} {af : Array Edge} {b : Bool} :
    vcX W0 P ops ((⟨some d, .box t x, ty, pos, af, none⟩, b) :: l) K ⟨e, σ, h⟩ = ((St.eval ⟨e, σ, h⟩ x).isVal = true ∧ ∀ g, h ≤ g → vcX W0 P ops l K ⟨upd e d (.ptr σ.length 0 0 0), σ ++ [.row g 0 (St.eval ⟨e, σ, h⟩ x).cells.length (St.eval ⟨e, σ, h⟩ x).cells.length [(St.eval ⟨e, σ, h⟩ x).cells]], g + 1⟩) := by
  simp only [vcX, vcOp, gd, vcRun, isQuiet, vcE, touched]
  simp [St.put]
theorem vcX_makeSlice {d : Tmp} {t t' : TypeId} {x y : Operand} {ty : TypeId} {pos : String} {af : Array Edge} {b : Bool} {z : List V} {sz bs : Nat} {k k' : IntKind} {n m : Int} (h1 : tElem P t = some t') (h2 : tSize P t' = some sz) (h3 : tZero P t' = some z) (h4 : tBytes P t' = some bs)
    (hx : St.eval ⟨e, σ, h⟩ x = .t (.int k n)) (hy : St.eval ⟨e, σ, h⟩ y = .t (.int k' m)) :
    vcX W0 P ops ((⟨some d, .makeSlice t x y, ty, pos, af, none⟩, b) :: l) K ⟨e, σ, h⟩ = (z.length = sz ∧ 0 < sz ∧ 0 ≤ n ∧ n ≤ m ∧ m ≤ 9223372036854775807 ∧ (bs : Int) * m ≤ 281474976710656 ∧
      ∀ g, h ≤ g → vcX W0 P ops l K ⟨upd e d (.own σ.length 0 0 n.toNat), σ ++ [.row g 0 sz (m.toNat * sz) (List.replicate n.toNat z)], g + 1⟩) := by
  simp only [vcX, vcOp, gd, vcRun, isQuiet, vcE, touched, h1, h2, h3, h4, hx, hy]
  simp [St.put]
theorem vcX_store {d : Option Tmp} {t : TypeId} {p x : Operand} {ty : TypeId} {pos : String} {af : Array Edge} {n r ver i j g v sz m : Nat} {es : List (List V)} {el : List V} (h1 : tSize P t = some n) (hp : St.eval ⟨e, σ, h⟩ p = .ptr r ver i j)
    (hr : σ[r]? = some (.row g v sz m es)) (hi : es[i]? = some el) :
    vcX W0 P ops ((⟨none, .store t p x, ty, pos, af, none⟩, true) :: l) K ⟨e, σ, h⟩ = (ver = v ∧ (St.eval ⟨e, σ, h⟩ x).solid = true ∧ (St.eval ⟨e, σ, h⟩ x).cells.length = n ∧ j + n ≤ el.length ∧
      vcX W0 P ops l K ⟨e, σ.set r (.row g v sz m (es.set i (setV el j (St.eval ⟨e, σ, h⟩ x).cells))), h⟩) := by
  simp only [vcX, vcOp, gd, vcRun, isQuiet, vcE, touched, h1, hp, hr, hi]
  simp [St.put]
theorem vcX_append_nil {d : Tmp} {x y : Operand} {t t2 t' : TypeId} {ty : TypeId} {pos : String} {af : Array Edge} {sz bs : Nat} {z : List V} {b : Bool} {es : List (List V)} (h1 : tElem P t = some t') (h2 : tSize P t' = some sz) (h3 : tZero P t' = some z) (h4 : tBytes P t' = some bs)
    (hx : St.eval ⟨e, σ, h⟩ x = .nil0) (hy : appElems P ⟨e, σ, h⟩ sz (some z) t2 (St.eval ⟨e, σ, h⟩ y) = some es) :
    vcX W0 P ops ((⟨some d, .call ⟨.builtin .append, #[x, y], #[t, t2]⟩, ty, pos, af, none⟩, b) :: l) K ⟨e, σ, h⟩ = (z.length = sz ∧ 0 < sz ∧ 0 < bs ∧ (∀ e ∈ es, e.length = sz ∧ ∀ c ∈ e, V.leaf c = true) ∧ 2 * es.length * bs ≤ 281474976710656 ∧
      (if es.length = 0 then vcX W0 P ops l K ⟨upd e d .nil0, σ, h⟩ else ∀ g n, h ≤ g → vcX W0 P ops l K ⟨upd e d (.own σ.length 0 0 es.length), σ ++ [.row g 0 sz n es], g + 1⟩)) := by
  simp only [vcX, vcOp, gd, vcRun, isQuiet, isApp, vcE, touched, h1, h2, h3, h4, hx, Option.getD_some, hy]
  simp [St.put, V.root, hx]
theorem vcX_append_own {d : Tmp} {x y : Operand} {t t2 t' : TypeId} {ty : TypeId} {pos : String} {af : Array Edge} {sz bs r ver len g v sz' m : Nat} {z : List V} {es es0 : List (List V)} (h1 : tElem P t = some t') (h2 : tSize P t' = some sz) (h3 : tZero P t' = some z) (h4 : tBytes P t' = some bs)
    (hx : St.eval ⟨e, σ, h⟩ x = .own r ver 0 len) (hr : σ[r]? = some (.row g v sz' m es0)) (hy : appElems P ⟨e, σ, h⟩ sz (some z) t2 (St.eval ⟨e, σ, h⟩ y) = some es) :
    vcX W0 P ops ((⟨some d, .call ⟨.builtin .append, #[x, y], #[t, t2]⟩, ty, pos, af, none⟩, true) :: l) K ⟨e, σ, h⟩ = (z.length = sz ∧ 0 < sz ∧ 0 < bs ∧ (∀ e ∈ es, e.length = sz ∧ ∀ c ∈ e, V.leaf c = true) ∧ ver = v ∧ sz' = sz ∧ 2 * (len + es.length) * bs ≤ 281474976710656 ∧
      ∀ g' n' h', (g' = g ∧ h' = h) ∨ (h ≤ g' ∧ h' = g' + 1) → vcX W0 P ops l K ⟨upd e d (.own r (ver + 1) 0 (len + es.length)), σ.set r (.row g' (ver + 1) sz n' (es0.take len ++ es)), h'⟩) := by
  simp only [vcX, vcOp, gd, vcRun, isQuiet, isApp, vcE, touched, h1, h2, h3, h4, hx, Option.getD_some, hy, hr]
  simp [St.put]
end

/-! ### calls -/
mutual
/-- A value with none of one's own objects. -/
def V.pure : V → Bool
  | .t _ => true
  | .nil0 => true
  | .err _ => true
  | .agg cs => V.pures cs
  | .tup vs => V.pures vs
  | .fn _ caps => V.pures caps
  | _ => false
def V.pures : List V → Bool
  | [] => true
  | v :: l => V.pure v && V.pures l
end
mutual
theorem V.pure_loc (σ : List Ob) (fp bor : List Nat) : ∀ v : V, v.pure = true → v.loc σ fp bor = v
  | .t _, _ => rfl
  | .nil0, _ => rfl
  | .err _, _ => rfl
  | .agg cs, h => by rw [V.loc, V.pures_loc σ fp bor cs (by simpa [V.pure] using h)]
  | .tup cs, h => by rw [V.loc, V.pures_loc σ fp bor cs (by simpa [V.pure] using h)]
  | .fn f cs, h => by rw [V.loc, V.pures_loc σ fp bor cs (by simpa [V.pure] using h)]
  | .own .., h => by simp [V.pure] at h
  | .ptr .., h => by simp [V.pure] at h
  | .fz .., h => by simp [V.pure] at h
  | .map .., h => by simp [V.pure] at h
  | .undef, h => by simp [V.pure] at h
  | .skip, h => by simp [V.pure] at h
theorem V.pures_loc (σ : List Ob) (fp bor : List Nat) : ∀ l : List V, V.pures l = true → V.locs σ fp bor l = l
  | [], _ => rfl
  | v :: l, h => by
    simp only [V.pures, Bool.and_eq_true] at h
    rw [V.locs, V.pure_loc σ fp bor v h.1, V.pures_loc σ fp bor l h.2]
end
mutual
theorem V.pure_back (fp : List Nat) (n : Nat) : ∀ v : V, v.pure = true → v.back fp n = v
  | .t _, _ => rfl
  | .nil0, _ => rfl
  | .err _, _ => rfl
  | .agg cs, h => by rw [V.back, V.pures_back fp n cs (by simpa [V.pure] using h)]
  | .tup cs, h => by rw [V.back, V.pures_back fp n cs (by simpa [V.pure] using h)]
  | .fn f cs, h => by rw [V.back, V.pures_back fp n cs (by simpa [V.pure] using h)]
  | .own .., h => by simp [V.pure] at h
  | .ptr .., h => by simp [V.pure] at h
  | .fz .., h => by simp [V.pure] at h
  | .map .., h => by simp [V.pure] at h
  | .undef, h => by simp [V.pure] at h
  | .skip, h => by simp [V.pure] at h
theorem V.pures_back (fp : List Nat) (n : Nat) : ∀ l : List V, V.pures l = true → V.backs fp n l = l
  | [], _ => rfl
  | v :: l, h => by
    simp only [V.pures, Bool.and_eq_true] at h
    rw [V.backs, V.pure_back fp n v h.1, V.pures_back fp n l h.2]
end
theorem V.pures_t (l : List T) : V.pures (l.map .t) = true := by induction l with | nil => rfl | cons x l ih => simp [V.pures, V.pure, ih]

/-- A function over frozen data: it gives a value with Q, made of frozen data, and leaves nothing else. -/
def FCtr (W0 : World) (P : Program) (f : FuncId) (args : List V) (Q : V → Prop) : Prop := Ctr W0 P f args [] fun _ _ r σ => Q r ∧ r.pure = true ∧ σ = []

theorem FCtr.mono {W0 : World} {P : Program} {f : FuncId} {args : List V} {Q Q' : V → Prop} (h : FCtr W0 P f args Q) (hq : ∀ v, Q v → Q' v) : FCtr W0 P f args Q' := by
  refine ⟨h.1, fun w X vs hX ha hp cs => ?_⟩
  obtain ⟨e, w', fr, ⟨v, r, σ', h1, ⟨h2, h3, h4⟩, h5⟩, h6⟩ := h.2 w X vs hX ha hp cs
  exact ⟨e, w', fr, ⟨v, r, σ', h1, ⟨hq r h2, h3, h4⟩, h5⟩, h6⟩

section
variable {W0 : World} {P : Program} {ops : Array Oper} {l : List (Oper × Bool)} {K : St → Prop} {s : St} {e : Nat → V} {σ : List Ob} {h : Nat}

/-- A call over frozen data: some of one's own objects are lent ('bor') as frozen data. -/
theorem vcX_callB {d : Option Tmp} {f : FuncId} {as : Array Operand} {tys : Array TypeId} {ty : TypeId} {pos : String} {af : Array Edge} {b : Bool} {fop : Operand} {caps : List V} (bor : List Nat) (args : List V) (Q : V → Prop) (hf : St.eval ⟨e, σ, h⟩ fop = .fn f caps)
    (ha : (as.toList.map (St.eval ⟨e, σ, h⟩) ++ caps).map (V.loc σ [] bor) = args) (hc : FCtr W0 P f args Q)
    (hk : ∀ r h', h ≤ h' → Q r → r.pure = true → (∀ q ∈ bor, ∀ o : Ob, σ[q]? = some o → o.g ∉ r.ids) ∧ vcX W0 P ops l K ⟨((⟨e, σ, h⟩ : St).put d r).env, σ, h'⟩) :
    vcX W0 P ops ((⟨d, .call ⟨.value fop, as, tys⟩, ty, pos, af, none⟩, b) :: l) K ⟨e, σ, h⟩ := by
  simp only [vcX, vcOp, gd, vcRun, isQuiet, isApp, vcCall, hf]
  rw [if_neg (by simp), if_neg (by simp)]
  refine ⟨[], bor, args, _, .nil, (fun r hr => by cases hr), (fun r hr => by cases hr), .inr rfl, ?_, hc, fun lo hi r σ1 h1 h2 ⟨h3, h4, h5⟩ => ?_⟩
  · rw [← ha]
    exact Subs.refl _
  · subst h5
    obtain ⟨k1, k2⟩ := hk r hi (by omega) h3 h4
    refine ⟨fun q hq o ho _ => ⟨k1 q hq o ho, fun o1 ho1 => by cases ho1⟩, ?_⟩
    rw [V.pure_back _ _ _ h4, backObs_nil]
    exact k2
/-- The same, with nothing lent. -/
theorem vcX_call {d : Tmp} {f : FuncId} {as : Array Operand} {tys : Array TypeId} {ty : TypeId} {pos : String} {af : Array Edge} {b : Bool} {fop : Operand} (args : List V) (Q : V → Prop) (hc : FCtr W0 P f args Q) (hf : St.eval ⟨e, σ, h⟩ fop = .fn f [])
    (ha : as.toList.map (St.eval ⟨e, σ, h⟩) = args) (hp : V.pures args = true)
    (hk : ∀ r h', h ≤ h' → Q r → r.pure = true → vcX W0 P ops l K ⟨upd e d r, σ, h'⟩) :
    vcX W0 P ops ((⟨some d, .call ⟨.value fop, as, tys⟩, ty, pos, af, none⟩, b) :: l) K ⟨e, σ, h⟩ := by
  refine vcX_callB [] args Q hf ?_ hc (fun r h' h1 h2 h3 => ⟨(fun q hq => by cases hq), hk r h' h1 h2 h3⟩)
  rw [List.append_nil, ha, ← V.locs_eq, V.pures_loc _ _ _ _ hp]
end
end Go.VL
namespace Go.VL
set_option linter.unusedVariables false
set_option linter.unusedSimpArgs false
section
variable {W0 : World} {P : Program} {ops : Array Oper} {l : List (Oper × Bool)} {K : St → Prop} {e : Nat → V} {σ : List Ob} {h : Nat} {d : Tmp} {ty : TypeId} {pos : String} {af : Array Edge} {b : Bool}

theorem x_move {x : Operand} : vcX W0 P ops ((⟨some d, .move x, ty, pos, af, none⟩, b) :: l) K ⟨e, σ, h⟩ = vcX W0 P ops l K ⟨upd e d (St.eval ⟨e, σ, h⟩ x), σ, h⟩ := by rw [vcX_q rfl]; rfl
theorem x_assign {x : Operand} : vcX W0 P ops ((⟨some d, .assign x, ty, pos, af, none⟩, b) :: l) K ⟨e, σ, h⟩ = vcX W0 P ops l K ⟨upd e d (St.eval ⟨e, σ, h⟩ x), σ, h⟩ := by rw [vcX_q rfl]; rfl
theorem x_pick {c x y : Operand} : vcX W0 P ops ((⟨some d, .pick c x y, ty, pos, af, none⟩, b) :: l) K ⟨e, σ, h⟩ = vcXQ W0 P ops l K ⟨e, σ, h⟩ (some d) (match St.eval ⟨e, σ, h⟩ c with | .t (.bool true) => some (St.eval ⟨e, σ, h⟩ x) | .t (.bool false) => some (St.eval ⟨e, σ, h⟩ y) | _ => none) := by rw [vcX_q rfl]; rfl
theorem x_load {t : TypeId} {x : Operand} : vcX W0 P ops ((⟨some d, .load t x, ty, pos, af, none⟩, b) :: l) K ⟨e, σ, h⟩ = vcXQ W0 P ops l K ⟨e, σ, h⟩ (some d) (loadQ P ⟨e, σ, h⟩ t (St.eval ⟨e, σ, h⟩ x)) := by rw [vcX_q rfl]; rfl
theorem x_nilCheck {x : Operand} : vcX W0 P ops ((⟨some d, .nilCheck x, ty, pos, af, none⟩, b) :: l) K ⟨e, σ, h⟩ = vcXQ W0 P ops l K ⟨e, σ, h⟩ (some d) (nilCheckQ ⟨e, σ, h⟩ (St.eval ⟨e, σ, h⟩ x)) := by rw [vcX_q rfl]; rfl
theorem x_bin {op : BinOp} {t t' : TypeId} {x y : Operand} : vcX W0 P ops ((⟨some d, .binOp op t x y t', ty, pos, af, none⟩, b) :: l) K ⟨e, σ, h⟩ = vcXQ W0 P ops l K ⟨e, σ, h⟩ (some d) (opQ P op t (St.eval ⟨e, σ, h⟩ x) (St.eval ⟨e, σ, h⟩ y) (isConst y)) := by rw [vcX_q rfl]; rfl
theorem x_un {op : UnOp} {t : TypeId} {x : Operand} : vcX W0 P ops ((⟨some d, .unOp op t x, ty, pos, af, none⟩, b) :: l) K ⟨e, σ, h⟩ = vcXQ W0 P ops l K ⟨e, σ, h⟩ (some d) (opU op (St.eval ⟨e, σ, h⟩ x)) := by rw [vcX_q rfl]; rfl
theorem x_conv {t t' : TypeId} {x : Operand} : vcX W0 P ops ((⟨some d, .convert t t' x, ty, pos, af, none⟩, b) :: l) K ⟨e, σ, h⟩ = vcXQ W0 P ops l K ⟨e, σ, h⟩ (some d) (convQ P ⟨e, σ, h⟩ t t' (St.eval ⟨e, σ, h⟩ x)) := by rw [vcX_q rfl]; rfl
theorem x_func {f : FuncId} {caps : Array Operand} : vcX W0 P ops ((⟨some d, .makeFunc (.func f) #[] caps, ty, pos, af, none⟩, b) :: l) K ⟨e, σ, h⟩ = vcX W0 P ops l K ⟨upd e d (.fn f (caps.toList.map (St.eval ⟨e, σ, h⟩))), σ, h⟩ := by rw [vcX_q rfl]; rfl
theorem x_fieldAddr {t : TypeId} {x : Operand} {f : Nat} : vcX W0 P ops ((⟨some d, .fieldAddr t x f, ty, pos, af, none⟩, b) :: l) K ⟨e, σ, h⟩ = vcXQ W0 P ops l K ⟨e, σ, h⟩ (some d) (fieldAddrQ P ⟨e, σ, h⟩ t (St.eval ⟨e, σ, h⟩ x) f) := by rw [vcX_q rfl]; rfl
theorem x_field {t : TypeId} {x : Operand} {f : Nat} : vcX W0 P ops ((⟨some d, .field t x f, ty, pos, af, none⟩, b) :: l) K ⟨e, σ, h⟩ = vcXQ W0 P ops l K ⟨e, σ, h⟩ (some d) (fieldQ P t (St.eval ⟨e, σ, h⟩ x) f) := by rw [vcX_q rfl]; rfl
theorem x_indexAddr {t : TypeId} {x i : Operand} : vcX W0 P ops ((⟨some d, .indexAddr t x i, ty, pos, af, none⟩, b) :: l) K ⟨e, σ, h⟩ = vcXQ W0 P ops l K ⟨e, σ, h⟩ (some d) (indexAddrQ P ⟨e, σ, h⟩ t (St.eval ⟨e, σ, h⟩ x) (St.eval ⟨e, σ, h⟩ i)) := by rw [vcX_q rfl]; rfl
theorem x_index {t : TypeId} {x i : Operand} : vcX W0 P ops ((⟨some d, .index t x i, ty, pos, af, none⟩, b) :: l) K ⟨e, σ, h⟩ = vcXQ W0 P ops l K ⟨e, σ, h⟩ (some d) (indexQ P t (St.eval ⟨e, σ, h⟩ x) (St.eval ⟨e, σ, h⟩ i)) := by rw [vcX_q rfl]; rfl
theorem x_extract {x : Operand} {i : Nat} : vcX W0 P ops ((⟨some d, .extract x i, ty, pos, af, none⟩, b) :: l) K ⟨e, σ, h⟩ = vcXQ W0 P ops l K ⟨e, σ, h⟩ (some d) (extractQ (St.eval ⟨e, σ, h⟩ x) i) := by rw [vcX_q rfl]; rfl
theorem x_build {t : TypeId} {parts : Array (Nat × Operand)} : vcX W0 P ops ((⟨some d, .build t parts, ty, pos, af, none⟩, b) :: l) K ⟨e, σ, h⟩ = vcXQ W0 P ops l K ⟨e, σ, h⟩ (some d) (if tFields P t then buildQ P t (parts.toList.map fun p => (p.1, St.eval ⟨e, σ, h⟩ p.2)) else none) := by rw [vcX_q rfl]; rfl
theorem x_slice {t : TypeId} {x : Operand} {lo hi : Option Operand} : vcX W0 P ops ((⟨some d, .slice t x lo hi none, ty, pos, af, none⟩, b) :: l) K ⟨e, σ, h⟩ = vcXQ W0 P ops l K ⟨e, σ, h⟩ (some d) (sliceQ P ⟨e, σ, h⟩ t (St.eval ⟨e, σ, h⟩ x) (lo.map (St.eval ⟨e, σ, h⟩)) (hi.map (St.eval ⟨e, σ, h⟩))) := by rw [vcX_q rfl]; rfl
theorem x_len {t : TypeId} {x : Operand} : vcX W0 P ops ((⟨some d, .call ⟨.builtin .len, #[x], #[t]⟩, ty, pos, af, none⟩, b) :: l) K ⟨e, σ, h⟩ = vcXQ W0 P ops l K ⟨e, σ, h⟩ (some d) (lenQ P ⟨e, σ, h⟩ t (St.eval ⟨e, σ, h⟩ x)) := by rw [vcX_q rfl]; rfl
theorem x_cap {t : TypeId} {x : Operand} : vcX W0 P ops ((⟨some d, .call ⟨.builtin .cap, #[x], #[t]⟩, ty, pos, af, none⟩, b) :: l) K ⟨e, σ, h⟩ = vcXQ W0 P ops l K ⟨e, σ, h⟩ (some d) (capQ P t (St.eval ⟨e, σ, h⟩ x)) := by rw [vcX_q rfl]; rfl
theorem x_max {t : Array TypeId} {x y : Operand} : vcX W0 P ops ((⟨some d, .call ⟨.builtin .max, #[x, y], t⟩, ty, pos, af, none⟩, b) :: l) K ⟨e, σ, h⟩ = vcXQ W0 P ops l K ⟨e, σ, h⟩ (some d) (maxQ (St.eval ⟨e, σ, h⟩ x) (St.eval ⟨e, σ, h⟩ y)) := by
  rw [vcX_q rfl]
  congr 1
theorem x_min {t : Array TypeId} {x y : Operand} : vcX W0 P ops ((⟨some d, .call ⟨.builtin .min, #[x, y], t⟩, ty, pos, af, none⟩, b) :: l) K ⟨e, σ, h⟩ = vcXQ W0 P ops l K ⟨e, σ, h⟩ (some d) (minQ (St.eval ⟨e, σ, h⟩ x) (St.eval ⟨e, σ, h⟩ y)) := by
  rw [vcX_q rfl]
  congr 1

/-! ### operands -/
theorem ev_tmp {s : St} {t : Nat} : s.eval (.tmp t) = s.env t := rfl
theorem ev_int {s : St} {k : IntKind} {n : Int} : s.eval (.const (.int k n)) = .t (.int k n) := rfl
theorem ev_bool {s : St} {t : Bool} : s.eval (.const (.bool t)) = .t (.bool t) := rfl
theorem ev_str {s : St} {x : ByteArray} : s.eval (.const (.string x)) = .t (.str x) := rfl
theorem ev_nil {s : St} : s.eval (.const (.slice none 0 0)) = .nil0 := rfl
theorem ev_err {s : St} : s.eval (.const .nilIface) = .err false := rfl
theorem ev_agg {s : St} {cs : Array Value} : s.eval (.const (.agg cs)) = .agg (cs.toList.map V.ofLeaf) := rfl
theorem ev_func {s : St} {f : Nat} : s.eval (.func f) = .fn f [] := rfl
theorem envOf0 {v : V} {l : List V} : envOf (v :: l) 0 = v := rfl
theorem envOfS {v : V} {l : List V} {n : Nat} : envOf (v :: l) (n + 1) = envOf l n := rfl

/-! ### values -/
/-- The size of a slice type's element. -/
def esize (P : Program) (t : TypeId) : Option Nat := match tElem P t with | some e => tSize P e | none => none
section
variable {s : St} {t : TypeId}
theorem q_at_sl {g : Nat} {es : List (List T)} {k : IntKind} {n : Nat} : indexAddrQ P s t (.t (.sl g es)) (.t (.int k (n : Int))) = match esize P t with
    | some sz => (match es[n]? with | some x => if x.length = sz then some (.fz x 0) else none | none => none)
    | none => none := by
  unfold indexAddrQ esize
  cases tElem P t with
  | none => rfl
  | some t' =>
    simp only
    cases tSize P t' with
    | none => rfl
    | some sz =>
      simp only [Int.toNat_natCast]
      by_cases hn : n < es.length
      · rw [List.getElem?_eq_getElem hn]
        simp [hn]
      · rw [List.getElem?_eq_none (by omega), if_neg (by omega)]
theorem q_at_own {r ver off len : Nat} {k : IntKind} {n : Nat} (h : n < len) : indexAddrQ P s t (.own r ver off len) (.t (.int k (n : Int))) = match esize P t with
    | some sz => (match s.σ[r]? with | some (.row _ v sz' _ _) => if ver = v ∧ sz' = sz then some (.ptr r ver (off + n) 0) else none | _ => none)
    | none => none := by
  unfold indexAddrQ esize
  cases tElem P t with
  | none => rfl
  | some t' =>
    simp only
    cases tSize P t' with
    | none => rfl
    | some sz =>
      simp only [Int.toNat_natCast, Int.natCast_nonneg, true_and, Int.ofNat_lt, h, and_true]
      rfl
theorem q_at_str {x : ByteArray} {k : IntKind} {n : Nat} (h : n < x.size) : indexQ P t (.t (.str x)) (.t (.int k (n : Int))) = if tStr P t = true then some (.t (.int .u8 (byteAt x n))) else none := by
  simp only [indexQ, Int.toNat_natCast, Int.natCast_nonneg, true_and, Int.ofNat_lt, h, and_true]
theorem q_at_sl0 {g : Nat} {es : List (List T)} {k : IntKind} : indexAddrQ P s t (.t (.sl g es)) (.t (.int k 0)) = match esize P t with
    | some sz => (match es[0]? with | some x => if x.length = sz then some (.fz x 0) else none | none => none)
    | none => none := q_at_sl (n := 0)
theorem q_at_own0 {r ver off len : Nat} {k : IntKind} (h : 0 < len) : indexAddrQ P s t (.own r ver off len) (.t (.int k 0)) = match esize P t with
    | some sz => (match s.σ[r]? with | some (.row _ v sz' _ _) => if ver = v ∧ sz' = sz then some (.ptr r ver (off + 0) 0) else none | _ => none)
    | none => none := q_at_own (n := 0) h
theorem q_at_str0 {x : ByteArray} {k : IntKind} (h : 0 < x.size) : indexQ P t (.t (.str x)) (.t (.int k 0)) = if tStr P t = true then some (.t (.int .u8 (byteAt x 0))) else none := q_at_str (n := 0) h
theorem sliceB_none {d y : Nat} : sliceB none d y = some d := rfl
theorem sliceB_nat {k : IntKind} {n d y : Nat} (h : n ≤ y) : sliceB (some (.t (.int k (n : Int)))) d y = some n := by
  simp only [sliceB, Int.toNat_natCast, Int.natCast_nonneg, true_and, Int.ofNat_le, h, if_true]
theorem sliceB_0 {k : IntKind} {d y : Nat} : sliceB (some (.t (.int k 0))) d y = some 0 := sliceB_nat (n := 0) (Nat.zero_le _)
theorem sliceB_1 {k : IntKind} {d y : Nat} (h : 1 ≤ y) : sliceB (some (.t (.int k 1))) d y = some 1 := sliceB_nat (n := 1) h
theorem q_slice_str {x : ByteArray} {lo hi : Option V} : sliceQ P s t (.t (.str x)) lo hi = if tStr P t = true then (match sliceB hi x.size x.size with
      | some h => (match sliceB lo 0 h with | some l => some (.t (.str (x.extract l h))) | none => none)
      | none => none) else none := by
  simp only [sliceQ]
  cases sliceB hi x.size x.size with
  | none => rfl
  | some h => simp only; cases sliceB lo 0 h <;> rfl
end
end
end Go.VL
namespace Go.VL
set_option linter.unusedVariables false
set_option linter.unusedSimpArgs false
section
variable {W0 : World} {P : Program} {ops : Array Oper} {l : List (Oper × Bool)} {K : St → Prop} {e : Nat → V} {σ : List Ob} {h : Nat} {d : Tmp} {ty : TypeId} {pos : String} {af : Array Edge} {b : Bool}

/-- A new object. -/
def vcXN (W0 : World) (P : Program) (ops : Array Oper) (l : List (Oper × Bool)) (K : St → Prop) (e : Nat → V) (σ : List Ob) (h : Nat) (d : Tmp) : Option (List V) → Prop
  | some z => ∀ g, h ≤ g → vcX W0 P ops l K ⟨upd e d (.ptr σ.length 0 0 0), σ ++ [.row g 0 z.length z.length [z]], g + 1⟩
  | none => False
theorem vcXN_some {z : List V} : vcXN W0 P ops l K e σ h d (some z) = ∀ g, h ≤ g → vcX W0 P ops l K ⟨upd e d (.ptr σ.length 0 0 0), σ ++ [.row g 0 z.length z.length [z]], g + 1⟩ := rfl
theorem x_alloc {t : TypeId} : vcX W0 P ops ((⟨some d, .alloc t, ty, pos, af, none⟩, b) :: l) K ⟨e, σ, h⟩ = vcXN W0 P ops l K e σ h d (tZero P t) := by
  cases hz : tZero P t with
  | none =>
    simp only [vcX, vcOp, gd, vcRun, isQuiet, vcE, hz, touched]
    simp [vcXN]
  | some z => rw [vcX_alloc hz]; rfl
def boxQ (v : V) : Option (List V) := if v.isVal = true then some v.cells else none
theorem boxQ_agg {cs : List V} : boxQ (.agg cs) = some cs := rfl
theorem boxQ_t {x : T} : boxQ (.t x) = some [.t x] := rfl
theorem boxQ_nil : boxQ .nil0 = some [.nil0] := rfl
theorem boxQ_fn {f : FuncId} {cs : List V} : boxQ (.fn f cs) = some [.fn f cs] := rfl
theorem boxQ_own {r ver off n : Nat} : boxQ (.own r ver off n) = some [.own r ver off n] := rfl
theorem boxQ_ptr {r ver off n : Nat} : boxQ (.ptr r ver off n) = some [.ptr r ver off n] := rfl
theorem x_box {t : TypeId} {x : Operand} : vcX W0 P ops ((⟨some d, .box t x, ty, pos, af, none⟩, b) :: l) K ⟨e, σ, h⟩ = vcXN W0 P ops l K e σ h d (boxQ (St.eval ⟨e, σ, h⟩ x)) := by
  rw [vcX_box]
  unfold boxQ
  by_cases hv : (St.eval ⟨e, σ, h⟩ x).isVal = true
  · rw [if_pos hv]; simp [hv, vcXN]
  · rw [if_neg hv]; simp [hv, vcXN]

/-- May a slice of so many elements be made? -/
def mkOk (z : List V) (sz bs : Nat) (n m : Int) : Prop := z.length = sz ∧ 0 < sz ∧ 0 ≤ n ∧ n ≤ m ∧ m ≤ 9223372036854775807 ∧ (bs : Int) * m ≤ 281474976710656
def vcXM (W0 : World) (P : Program) (ops : Array Oper) (l : List (Oper × Bool)) (K : St → Prop) (e : Nat → V) (σ : List Ob) (h : Nat) (d : Tmp) (osz : Option Nat) (oz : Option (List V)) (obs : Option Nat) (vn vm : V) : Prop := match osz, oz, obs, vn, vm with
  | some sz, some z, some bs, .t (.int _ n), .t (.int _ m) => mkOk z sz bs n m ∧ ∀ g, h ≤ g → vcX W0 P ops l K ⟨upd e d (.own σ.length 0 0 n.toNat), σ ++ [.row g 0 sz (m.toNat * sz) (List.replicate n.toNat z)], g + 1⟩
  | _, _, _, _, _ => False
theorem vcXM_some {sz bs : Nat} {z : List V} {k k' : IntKind} {n m : Int} : vcXM W0 P ops l K e σ h d (some sz) (some z) (some bs) (.t (.int k n)) (.t (.int k' m)) = (mkOk z sz bs n m ∧ ∀ g, h ≤ g → vcX W0 P ops l K ⟨upd e d (.own σ.length 0 0 n.toNat), σ ++ [.row g 0 sz (m.toNat * sz) (List.replicate n.toNat z)], g + 1⟩) := rfl
def ezero (P : Program) (t : TypeId) : Option (List V) := match tElem P t with | some e => tZero P e | none => none
def ebytes (P : Program) (t : TypeId) : Option Nat := match tElem P t with | some e => tBytes P e | none => none
theorem x_makeSlice {t : TypeId} {x y : Operand} : vcX W0 P ops ((⟨some d, .makeSlice t x y, ty, pos, af, none⟩, b) :: l) K ⟨e, σ, h⟩ = vcXM W0 P ops l K e σ h d (esize P t) (ezero P t) (ebytes P t) (St.eval ⟨e, σ, h⟩ x) (St.eval ⟨e, σ, h⟩ y) := by
  simp only [vcX, vcOp, gd, vcRun, isQuiet, vcE, touched, esize, ezero, ebytes]
  cases tElem P t with
  | none => simp [vcXM]
  | some t' =>
    simp only
    cases tSize P t' with
    | none => simp [vcXM]
    | some sz =>
      cases tZero P t' with
      | none => simp [vcXM]
      | some z =>
        cases tBytes P t' with
        | none => simp [vcXM]
        | some bs =>
          generalize St.eval ⟨e, σ, h⟩ x = vx
          generalize St.eval ⟨e, σ, h⟩ y = vy
          cases vx with
          | t a =>
            cases a with
            | int k n =>
              cases vy with
              | t c =>
                cases c with
                | int k' m => simp [vcXM, mkOk, St.put, and_assoc]
                | _ => simp [vcXM]
              | _ => simp [vcXM]
            | _ => simp [vcXM]
          | _ => simp [vcXM]

/-- The objects behind a store. -/
def stQ (P : Program) (σ : List Ob) (t : TypeId) (p x : V) : Option (List Ob) := match tSize P t, p with
  | some n, .ptr r ver i j => (match σ[r]? with
    | some (.row g v sz m es) => (match es[i]? with
      | some el => if ver = v ∧ x.solid = true ∧ x.cells.length = n ∧ j + n ≤ el.length then some (σ.set r (.row g v sz m (es.set i (setV el j x.cells)))) else none
      | none => none)
    | _ => none)
  | _, _ => none
def vcXS (W0 : World) (P : Program) (ops : Array Oper) (l : List (Oper × Bool)) (K : St → Prop) (e : Nat → V) (h : Nat) : Option (List Ob) → Prop
  | some σ' => vcX W0 P ops l K ⟨e, σ', h⟩
  | none => False
theorem vcXS_some {σ' : List Ob} : vcXS W0 P ops l K e h (some σ') = vcX W0 P ops l K ⟨e, σ', h⟩ := rfl
theorem x_store {t : TypeId} {p x : Operand} : vcX W0 P ops ((⟨none, .store t p x, ty, pos, af, none⟩, true) :: l) K ⟨e, σ, h⟩ = vcXS W0 P ops l K e h (stQ P σ t (St.eval ⟨e, σ, h⟩ p) (St.eval ⟨e, σ, h⟩ x)) := by
  simp only [vcX, vcOp, gd, vcRun, isQuiet, vcE, touched, stQ]
  generalize St.eval ⟨e, σ, h⟩ p = vp
  cases tSize P t with
  | none => simp [vcXS]
  | some n =>
    cases vp with
    | ptr r ver i j =>
      simp only
      cases hr : σ[r]? with
      | none => simp [vcXS]
      | some o =>
        cases o with
        | map => simp [vcXS]
        | row g v sz m es =>
          simp only
          cases es[i]? with
          | none => simp [vcXS]
          | some el =>
            simp only
            simp only [Bool.false_eq_true, if_false]
            generalize St.eval ⟨e, σ, h⟩ x = vx
            by_cases hc : ver = v ∧ vx.solid = true ∧ vx.cells.length = n ∧ j + n ≤ el.length
            · rw [if_pos hc]
              obtain ⟨h1, h2, h3, h4⟩ := hc
              simp [vcXS, h1, h2, h3, h4, St.put]
            · rw [if_neg hc]
              simp only [vcXS]
              exact eq_false fun hx => hc ⟨hx.2.1, hx.2.2.1, hx.2.2.2.1, hx.2.2.2.2.1⟩
    | _ => simp [vcXS]
end

/-! ### whole numbers -/
theorem w64 {n : Int} (h : -9223372036854775808 ≤ n ∧ n ≤ 9223372036854775807) : IntKind.i64.wrap n = n := by rw [IntKind.wrap_i64]; omega
theorem drop_of_get {α : Type} {l : List α} {n : Nat} {x : α} (h : l[n]? = some x) : l.drop n = x :: l.drop (n + 1) := by
  obtain ⟨h1, h2⟩ := List.getElem?_eq_some_iff.1 h
  rw [List.drop_eq_getElem_cons h1, h2]
theorem drop_get {α : Type} {l : List α} {n : Nat} (h : n < l.length) : l.drop n = l[n] :: l.drop (n + 1) := List.drop_eq_getElem_cons h
end Go.VL
