/- VL, part 9: one operation; regions in the text's order. -/
import Derived.Test.YtlooiifgbiedeaaV8
namespace Go.VL
set_option linter.unusedVariables false
set_option linter.unusedSimpArgs false

/-- The objects that an operation writes. -/
def touched (s : St) : Op → List Nat
  | .store _ p _ => (s.eval p).root.toList
  | .call c => match c.args[0]? with | some x => (s.eval x).root.toList | none => []
  | _ => []

/-- One operation that is carried out: what it asks, of what holds of its result and the objects behind it. -/
def vcRun (P : Program) (s : St) (op : Op) (tc : List Nat → Prop) (K : V → List Ob → Nat → Prop) : Prop :=
  if isQuiet op then match evalQ P s op with | some v => K v s.σ s.h | none => False
  else match op with
    | .call c => if isApp c.callee then tc (touched s (.call c)) ∧ vcE P s (.call c) K else vcCall P s c tc K
    | op => tc (touched s op) ∧ vcE P s op K

/-- Is an operation with a guard carried out? -/
def gd (ops : Array Oper) (o : Oper) (s : St) : Option Bool := match o.guard with
  | none => some true
  | some (j, b) => match (ops[j]?).bind (·.dst) with
    | none => none
    | some t => match s.env t with | .t (.bool b') => some (b' == b) | .skip => some false | _ => none

def vcOp (P : Program) (ops : Array Oper) (o : Oper) (tc : List Nat → Prop) (K : St → Prop) (s : St) : Prop := match gd ops o s with
  | some true => vcRun P s o.op tc (fun v σ h => K ⟨(s.put o.dst v).env, σ, h⟩)
  | some false => K (s.put o.dst .skip)
  | none => False

section
variable {P : Program} {w0 : World} {av0 X : Nat → Prop} {N : Nat} {a : Act} {w : World} {s : St}

theorem St.put_env_σ (s : St) (d : Option Tmp) (v : V) (σ : List Ob) (h : Nat) : ({ (⟨s.env, σ, h⟩ : St) with } : St).put d v = ⟨(s.put d v).env, σ, h⟩ := by cases d <;> rfl

theorem vcRun_sound (hi : Inv w0 av0 X N a w s) (hX : ∀ b, X b → b < w.heap.size) {o : Oper} (hd : ∀ t, o.dst = some t → t < N) {tc : List Nat → Prop} {K : V → List Ob → Nat → Prop} (h : vcRun P s o.op tc K) {Q : Exit → Act → World → Prop} :
    o.wp P a w (fun a' w' => ∃ (v : V) (σ' : List Ob) (h' : Nat), Inv w0 av0 X N a' w' ⟨(s.put o.dst v).env, σ', h'⟩ ∧ K v σ' h') Q := by
  have fin : ∀ (val : Value) (w' : World) (v : V) (σ' : List Ob) (h' : Nat), Inv w0 av0 X N a w' ⟨s.env, σ', h'⟩ → VR w' X σ' v val → K v σ' h' →
      ∃ (v : V) (σ' : List Ob) (h' : Nat), Inv w0 av0 X N (a.put o.dst val) w' ⟨(s.put o.dst v).env, σ', h'⟩ ∧ K v σ' h' := fun val w' v σ' h' h1 h2 h3 => by
    refine ⟨v, σ', h', ?_, h3⟩
    have := h1.put hd h2
    rwa [St.put_env_σ] at this
  have give : ∀ {m : Sem Value}, (execOp a.eval o = do pure (.value (← m))) → Gives P w0 av0 X N a w s m K → o.wp P a w (fun a' w' => ∃ (v : V) (σ' : List Ob) (h' : Nat), Inv w0 av0 X N a' w' ⟨(s.put o.dst v).env, σ', h'⟩ ∧ K v σ' h') Q := fun {m} he ⟨val, w', v, σ', h', h1, h2, h3, h4⟩ => by
    unfold Oper.wp
    rw [he]
    simp only [Sem.run_bind, h1, Result.andThen_ok, Sem.run_pure, Oper.upon_value]
    exact fin val w' v σ' h' h2 h3 h4
  obtain ⟨dst, op, ty, pos, after, guard⟩ := o
  simp only at h hd fin give
  unfold vcRun at h
  by_cases hq : isQuiet op = true
  · rw [if_pos hq] at h
    split at h
    · rename_i v hv
      obtain ⟨val, h1, h2⟩ := evalQ_sound (P := P) (o := ⟨dst, op, ty, pos, after, guard⟩) hi hv
      unfold Oper.wp
      rw [h1, Oper.upon_value]
      exact fin val w v s.σ s.h hi h2 h
    · exact h.elim
  · rw [if_neg hq] at h
    clear hq
    cases op
    case call c =>
      simp only at h
      by_cases hc : isApp c.callee = true
      · rw [if_pos hc] at h
        refine give ?_ (gives_append (ty := ty) hi hX hc h.2)
        obtain ⟨callee, args, ts⟩ := c
        cases callee <;> simp only [isApp, Bool.false_eq_true] at hc
        rename_i b
        cases b <;> simp only [Bool.false_eq_true] at hc
        rfl
      · rw [if_neg hc] at h
        exact vcCall_sound hi hX (o := ⟨dst, .call c, ty, pos, after, guard⟩) rfl h (fun val w' v σ' h' h1 h2 h3 => fin val w' v σ' h' h1 h2 h3)
    case alloc t => exact give rfl (gives_alloc hi hX h.2)
    case box t x => exact give rfl (gives_box hi hX h.2)
    case buildSlice t len parts => exact give rfl (gives_buildSlice hi hX h.2)
    case makeSlice t l c => exact give rfl (gives_makeSlice hi hX h.2)
    case store t p x =>
      obtain ⟨w', σ', h', h1, h2, h3⟩ := gives_store hi h.2
      have he : (execOp a.eval ⟨dst, .store t p x, ty, pos, after, guard⟩).run P w = .ok .skip w' := by
        show (do (Instr.storeAt t (a.eval p) (a.eval x)); pure Next.skip : Sem Next).run P w = _
        simp [h1]
      unfold Oper.wp
      rw [he, Oper.upon_skip]
      exact fin _ w' .skip σ' h' h2 .skip h3
    all_goals exact h.2.elim

/-- A guard's answer, as the machine sees it. -/
theorem gd_sound (hi : Inv w0 av0 X N a w s) {ops : Array Oper} (hd : ∀ (j : Nat) (o : Oper) (t : Nat), ops[j]? = some o → o.dst = some t → t < N) {o : Oper} {b : Bool} (h : gd ops o s = some b) : Region.wanted o (yielded ops a.tmps) = b := by
  unfold gd at h
  unfold Region.wanted
  cases hg : o.guard with
  | none =>
    rw [hg] at h
    simpa using h
  | some jb =>
    obtain ⟨j, want⟩ := jb
    rw [hg] at h
    simp only at h ⊢
    cases ht : (ops[j]?).bind (·.dst) with
    | none => rw [ht] at h; cases h
    | some t =>
      rw [ht] at h
      simp only at h
      have htN : t < a.tmps.size := by
        rw [hi.sz]
        cases hoj : ops[j]? with
        | none => rw [hoj] at ht; cases ht
        | some oj => rw [hoj] at ht; exact hd j oj t hoj ht
      have hy : yielded ops a.tmps j = match a.tmps.getD t Go.undef with | .bool b => some b | _ => none := by
        unfold yielded
        rw [ht]
        simp only [Option.bind_some]
        rw [Array.getD_eq_getD_getElem?, Array.getElem?_eq_getElem htN]
        simp only [Option.getD_some]
        split <;> simp_all
      have hv := hi.env t
      split at h
      · rename_i b' hb'
        simp only [Option.some.injEq] at h
        rw [hb'] at hv
        rw [hy, hv.bool_inv]
        rw [← h]
        cases b' <;> cases want <;> rfl
      · rename_i hb'
        simp only [Option.some.injEq] at h
        rw [hb'] at hv
        generalize a.tmps.getD t Go.undef = z at hv hy
        cases hv
        rw [hy, ← h]
        rfl
      · cases h

theorem vcOp_sound (hi : Inv w0 av0 X N a w s) (hX : ∀ b, X b → b < w.heap.size) {ops : Array Oper} (hd : ∀ (j : Nat) (o : Oper) (t : Nat), ops[j]? = some o → o.dst = some t → t < N) {i : Nat} {o : Oper} (ho : ops[i]? = some o)
    {tc : List Nat → Prop} {K : St → Prop} (h : vcOp P ops o tc K s) {Q : Exit → Act → World → Prop} : wpOp P ops Q i (fun a' w' => ∃ s', Inv w0 av0 X N a' w' s' ∧ K s') a w := by
  unfold vcOp at h
  unfold wpOp
  rw [ho]
  simp only
  split at h
  · rename_i hg
    rw [gd_sound hi hd hg]
    simp only [if_true]
    exact .inl (Oper.wp_mono (fun a' w' ⟨v, σ', h', h1, h2⟩ => ⟨_, h1, h2⟩) (vcRun_sound hi hX (fun t ht => hd i o t ho ht) h))
  · rename_i hg
    rw [gd_sound hi hd hg]
    simp only [Bool.false_eq_true, if_false]
    exact ⟨_, hi.put (fun t ht => hd i o t ho ht) .skip, h⟩
  · exact h.elim
end

/-- The operations of a region in the text's order. -/
def vcOps (P : Program) (ops : Array Oper) : List Oper → (St → Prop) → St → Prop
  | [], K, s => K s
  | o :: l, K, s => vcOp P ops o (fun _ => True) (vcOps P ops l K) s

theorem Inv.hX {w0 : World} {av0 X : Nat → Prop} {N : Nat} {a : Act} {w : World} {s : St} (hi : Inv w0 av0 X N a w s) (hX : ∀ b, X b → b < w0.heap.size) : ∀ b, X b → b < w.heap.size := fun b hb => Nat.lt_of_lt_of_le (hX b hb) hi.fr.size

theorem vcOps_sound {P : Program} {w0 : World} {av0 X : Nat → Prop} {N : Nat} (hX : ∀ b, X b → b < w0.heap.size) {ops : Array Oper} (hd : ∀ (j : Nat) (o : Oper) (t : Nat), ops[j]? = some o → o.dst = some t → t < N) {Q : Exit → Act → World → Prop} {K : St → Prop}
    (hQ : ∀ a w s, Inv w0 av0 X N a w s → K s → Q .normal a w) : ∀ (l : List Nat) (a : Act) (w : World) (s : St), Inv w0 av0 X N a w s → vcOps P ops (l.filterMap (ops[·]?)) K s → wpOps P ops Q l a w
  | [], a, w, s, hi, h => hQ a w s hi h
  | i :: l, a, w, s, hi, h => by
    rw [wpOps_cons]
    cases ho : ops[i]? with
    | none =>
      unfold wpOp
      rw [ho]
      simp only [List.filterMap_cons, ho] at h
      exact vcOps_sound hX hd hQ l a w s hi h
    | some o =>
      simp only [List.filterMap_cons, ho, vcOps] at h
      exact wpOp_mono (fun a' w' ⟨s', h1, h2⟩ => vcOps_sound hX hd hQ l a' w' s' h1 h2) (vcOp_sound hi (hi.hX hX) hd ho h)
end Go.VL
