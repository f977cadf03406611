/- VL, part 14: steps for proofs by rewriting. -/
import Derived.Test.YtlooiifgbiedeaaV13
namespace Go.VL
set_option linter.unusedVariables false
set_option linter.unusedSimpArgs false

/-- A list of operations, each with a mark: may it write what others read? -/
def vcX (P : Program) (ops : Array Oper) : List (Oper × Bool) → (St → Prop) → St → Prop
  | [], K, s => K s
  | (o, b) :: l, K, s => vcOp P ops o (fun ts => b = true ∨ ts = []) (vcX P ops l K) s

theorem vcX_ops {P : Program} {ops : Array Oper} {K : St → Prop} : ∀ (l : List Oper) (s : St), vcX P ops (l.map (·, true)) K s → vcOps P ops l K s
  | [], s, h => h
  | o :: l, s, h => vcOp_mono (fun _ _ => trivial) (fun s h => vcX_ops l s h) h

/-- An order with marks: is every mark earned? -/
def marksOk (ops : Array Oper) (C : List (List Nat)) : List (Nat × Bool) → List Nat → Bool
  | [], _ => true
  | (i, b) :: l, L => (!b || L.all fun y => (C.getD i []).contains y) && marksOk ops C l (match ops[i]? with | some o => if isQuiet o.op then i :: L else L | none => L)
def dOk (ops : Array Oper) (ord : List (Nat × Bool)) : Bool := drOk ops (closL ops) (ord.map (·.1)) && marksOk ops (closL ops) ord []
def pk (ops : Array Oper) : List (Nat × Bool) → List (Oper × Bool)
  | [] => []
  | (i, b) :: l => match ops[i]? with | some o => (o, b) :: pk ops l | none => pk ops l

theorem vcX_R {P : Program} {ops : Array Oper} {C : List (List Nat)} {K : St → Prop} : ∀ (ord : List (Nat × Bool)) (L : List Nat) (L' : Lst) (s : St), marksOk ops C ord L = true → (∀ p ∈ L', p.1 ∈ L) → vcX P ops (pk ops ord) K s → vcR P ops C (ord.map (·.1)) L' K s
  | [], _, _, _, _, _, h => h
  | (i, b) :: l, L, L', s, hm, hs, h => by
    rw [List.map_cons]
    unfold vcR
    unfold pk at h
    simp only [marksOk, Bool.and_eq_true] at hm
    obtain ⟨hm1, hm2⟩ := hm
    cases ho : ops[i]? with
    | none => simp only [ho] at h hm2 ⊢; exact vcX_R l L L' s hm2 hs h
    | some o =>
      simp only [ho] at h hm2 ⊢
      refine vcOp_mono (fun ts ht => ?_) (fun s1 h1 => vcX_R l _ _ s1 hm2 (fun p hp => ?_) h1) h
      · intro p hp
        rcases ht with rfl | rfl
        · refine .inl ?_
          simp only [Bool.not_true, Bool.false_or] at hm1
          have := List.all_eq_true.1 hm1 p.1 (hs p hp)
          simpa using this
        · exact .inr (fun r _ h => by cases h)
      · by_cases hq : isQuiet o.op = true
        · rw [if_pos hq] at hp ⊢
          rcases List.mem_cons.1 hp with rfl | h2
          · exact List.mem_cons_self
          · exact List.mem_cons_of_mem _ (hs p h2)
        · rw [if_neg hq] at hp ⊢
          exact hs p hp

theorem gcd_mono {J J' : St → Prop} (h : ∀ s, J s → J' s) {s : St} (hj : gcd J s) : gcd J' s := by
  rcases hj with hj | ⟨keep, bor, h1, h2, h3, h4⟩
  · exact .inl (h s hj)
  · exact .inr ⟨keep, bor, h1, h2, h3, h _ h4⟩
theorem vcOps_mono {P : Program} {ops : Array Oper} {K K' : St → Prop} (hK : ∀ s, K s → K' s) : ∀ (l : List Oper) (s : St), vcOps P ops l K s → vcOps P ops l K' s
  | [], s, h => hK s h
  | o :: l, s, h => vcOp_mono (fun _ h => h) (fun s h => vcOps_mono hK l s h) h
theorem vcR_mono {P : Program} {ops : Array Oper} {C : List (List Nat)} {K K' : St → Prop} (hK : ∀ s, K s → K' s) : ∀ (l : List Nat) (L : Lst) (s : St), vcR P ops C l L K s → vcR P ops C l L K' s
  | [], _, s, h => hK s h
  | i :: l, L, s, h => by
    unfold vcR at h ⊢
    cases ho : ops[i]? with
    | none => rw [ho] at h; exact vcR_mono hK l L s h
    | some o => rw [ho] at h; exact vcOp_mono (fun _ h => h) (fun s h => vcR_mono hK l _ s h) h
theorem vcC_mono {P : Program} {K K' : Exit → St → Prop} (hK : ∀ e s, K e s → K' e s) : ∀ (c : Code) (s : St), vcC P c K s → vcC P c K' s := by
  have tm : ∀ {x x' : St → Prop} {K K' : Exit → St → Prop}, (∀ s, x s → x' s) → (∀ e s, K e s → K' e s) → ∀ e s, thenK x K e s → thenK x' K' e s := fun hx hk e s h => by
    cases e <;> first | exact hx s h | exact hk _ s h
  intro c
  induction c generalizing K K' with
  | skip => exact fun s h => hK _ s h
  | region id ops draw =>
    intro s h
    unfold vcC at h ⊢
    split at h
    · rename_i hd
      rw [if_pos hd]
      obtain ⟨ord, h1, h2⟩ := h
      exact ⟨ord, h1, vcR_mono (hK _) _ _ s h2⟩
    · rename_i hd
      rw [if_neg hd]
      exact vcOps_mono (hK _) _ s h
  | seq a b iha ihb => exact fun s h => iha (tm (fun s h => gcd_mono (ihb hK) h) hK) s h
  | cond c a b iha ihb =>
    intro s h
    unfold vcC at h ⊢
    split at h
    · exact ⟨fun ht => iha hK s (h.1 ht), fun ht => ihb hK s (h.2 ht)⟩
    · exact h.elim
  | block id c ih =>
    refine fun s h => ih (fun e s h => ?_) s h
    cases e with
    | exit id' =>
      simp only [blockK] at h ⊢
      split
      · rename_i hx; rw [if_pos hx] at h; exact hK _ s h
      · rename_i hx; rw [if_neg hx] at h; exact hK _ s h
    | _ => exact hK _ s h
  | loop c ih =>
    rintro s ⟨I, n, h0, hr⟩
    exact ⟨I, n, h0, fun n s hI => ih (tm (fun s h => h) hK) s (hr n s hI)⟩
  | exit id => exact fun s h => hK _ s h
  | ret => exact fun s h => hK _ s h
  | _ => exact fun s h => h.elim
section
variable {P : Program} {K : Exit → St → Prop} {s : St}

theorem vc_seq {a b : Code} (h : ∀ K' : St → Prop, (∀ s, vcC P b K s → K' s) → vcC P a (thenK K' K) s) : vcC P (.seq a b) K s :=
  h _ (fun s h => .inl h)
/-- The same, where some objects are frozen or forgotten in between. -/
theorem vc_seqG {a b : Code} (h : ∀ K' : St → Prop, (∀ s, vcC P b K s → K' s) → (∀ s keep bor, keep.Nodup → (∀ r ∈ keep, r < s.σ.length) → (∀ r ∈ keep, r ∉ bor) → vcC P b K (s.gc keep bor) → K' s) → vcC P a (thenK K' K) s) : vcC P (.seq a b) K s :=
  h _ (fun s h => .inl h) (fun s keep bor h1 h2 h3 h4 => .inr ⟨keep, bor, h1, h2, h3, h4⟩)
theorem vc_reg {id : Nat} {l : List Oper} (h : vcX P l.toArray (l.map (·, true)) (K .normal) s) : vcC P (.region id l.toArray false) K s := by
  unfold vcC
  rw [if_neg (by simp)]
  exact vcX_ops l s h
theorem vc_regD {id : Nat} {l : List Oper} (ord : List (Nat × Bool)) (hd : dOk l.toArray ord = true) (h : vcX P l.toArray (pk l.toArray ord) (K .normal) s) : vcC P (.region id l.toArray true) K s := by
  unfold vcC
  rw [if_pos rfl]
  simp only [dOk, Bool.and_eq_true] at hd
  exact ⟨_, hd.1, vcX_R _ _ _ s hd.2 (fun p hp => by cases hp) h⟩
/-- A place where the state is described anew. -/
theorem vc_seqJ {a b : Code} (J : St → Prop) (h1 : vcC P a (thenK J K) s) (h2 : ∀ s, J s → vcC P b K s) : vcC P (.seq a b) K s := by
  refine vcC_mono (fun e s h => ?_) a s h1
  cases e with
  | normal => exact .inl (h2 s h)
  | _ => exact h
theorem vc_cond {c : Operand} {a b : Code} {t : Bool} (hc : s.eval c = .t (.bool t)) (h1 : t = true → vcC P a K s) (h2 : t = false → vcC P b K s) : vcC P (.cond c a b) K s := by
  unfold vcC
  rw [hc]
  exact ⟨h1, h2⟩
theorem vc_skip (h : K .normal s) : vcC P .skip K s := h
theorem vc_ret (h : K .ret s) : vcC P .ret K s := h
theorem vc_exit {id : Nat} (h : K (.exit id) s) : vcC P (.exit id) K s := h
theorem vc_block {id : Nat} {c : Code} (h : vcC P c (blockK id K) s) : vcC P (.block id c) K s := h
/-- A loop by a relation with a number that falls. -/
theorem vc_loop {c : Code} (I : Nat → St → Prop) (n : Nat) (h0 : I n s) (h : ∀ n s, I n s → ∀ K' : St → Prop, (∀ m s, m < n → I m s → K' s) → vcC P c (thenK K' K) s) : vcC P (.loop c) K s :=
  ⟨I, n, .inl h0, fun n s hI => h n s hI _ (fun m s hm hI => ⟨m, hm, .inl hI⟩)⟩
/-- The same, where some objects are frozen or forgotten as it begins, and round by round. -/
theorem vc_loopB {c : Code} (I : Nat → St → Prop) (n : Nat) (keep bor : List Nat) (hn : keep.Nodup) (hl : ∀ r ∈ keep, r < s.σ.length) (hd : ∀ r ∈ keep, r ∉ bor) (h0 : I n (s.gc keep bor)) (h : ∀ n s, I n s → ∀ K' : St → Prop, (∀ m s, m < n → I m s → K' s) → vcC P c (thenK K' K) s) : vcC P (.loop c) K s :=
  ⟨I, n, .inr ⟨keep, bor, hn, hl, hd, h0⟩, fun n s hi => vcC_mono (fun e s hs => by cases e <;> exact hs) c s (h n s hi (fun s' => ∃ m, m < n ∧ gcd (I m) s') (fun m s hm hi => ⟨m, hm, .inl hi⟩))⟩
/-- The same, where some objects are frozen or forgotten round by round. -/
theorem vc_loopG {c : Code} (I : Nat → St → Prop) (n : Nat) (h0 : I n s) (h : ∀ n s, I n s → ∀ K' : St → Prop, (∀ m s, m < n → I m s → K' s) →
    (∀ m s keep bor, m < n → keep.Nodup → (∀ r ∈ keep, r < s.σ.length) → (∀ r ∈ keep, r ∉ bor) → I m (s.gc keep bor) → K' s) → vcC P c (thenK K' K) s) : vcC P (.loop c) K s :=
  ⟨I, n, .inl h0, fun n s hI => h n s hI _ (fun m s hm hI => ⟨m, hm, .inl hI⟩) (fun m s keep bor hm h1 h2 h3 hI => ⟨m, hm, .inr ⟨keep, bor, h1, h2, h3, hI⟩⟩)⟩
end

/-! ### operations -/
section
variable {P : Program} {ops : Array Oper} {l : List (Oper × Bool)} {K : St → Prop} {s : St} {e : Nat → V} {σ : List Ob} {h : Nat}

def vcXQ (P : Program) (ops : Array Oper) (l : List (Oper × Bool)) (K : St → Prop) (s : St) (d : Option Tmp) : Option V → Prop
  | some v => vcX P ops l K (s.put d v)
  | none => False

theorem vcX_nil : vcX P ops [] K s = K s := rfl
theorem vcX_q {d : Option Tmp} {op : Op} {ty : TypeId} {pos : String} {af : Array Edge} {b : Bool} (hq : isQuiet op = true) : vcX P ops ((⟨d, op, ty, pos, af, none⟩, b) :: l) K s = vcXQ P ops l K s d (evalQ P s op) := by
  simp only [vcX, vcOp, gd, vcRun, if_pos hq]
  unfold vcXQ
  cases evalQ P s op with
  | none => rfl
  | some v => simp only; cases d <;> rfl
theorem vcXQ_some {d : Tmp} {v : V} : vcXQ P ops l K ⟨e, σ, h⟩ (some d) (some v) = vcX P ops l K ⟨upd e d v, σ, h⟩ := rfl
theorem vcXQ_some0 {v : V} : vcXQ P ops l K ⟨e, σ, h⟩ none (some v) = vcX P ops l K ⟨e, σ, h⟩ := rfl

/-- An operation with a guard. -/
def vcXG (P : Program) (ops : Array Oper) (l : List (Oper × Bool)) (K : St → Prop) (s : St) (o : Oper) (b want : Bool) : V → Prop
  | .t (.bool t) => if t = want then vcX P ops (({ o with guard := none }, b) :: l) K s else vcX P ops l K (s.put o.dst .skip)
  | .skip => vcX P ops l K (s.put o.dst .skip)
  | _ => False
def guardV (ops : Array Oper) (s : St) (j : Nat) : V := match (ops[j]?).bind (·.dst) with | some t => s.env t | none => .undef
theorem x_guard {d : Option Tmp} {op : Op} {ty : TypeId} {pos : String} {af : Array Edge} {b want : Bool} {j : Nat} : vcX P ops ((⟨d, op, ty, pos, af, some (j, want)⟩, b) :: l) K s = vcXG P ops l K s ⟨d, op, ty, pos, af, none⟩ b want (guardV ops s j) := by
  simp only [vcX, vcOp, gd]
  unfold guardV
  cases ht : (ops[j]?).bind (·.dst) with
  | none => rfl
  | some t =>
    simp only
    generalize s.env t = v
    cases v with
    | t x =>
      cases x with
      | bool t' =>
        cases t' <;> cases want <;> rfl
      | _ => rfl
    | _ => rfl
/-- A list of operations in two parts. -/
theorem vcX_append : ∀ (l1 l2 : List (Oper × Bool)) (K : St → Prop) (s : St), vcX P ops (l1 ++ l2) K s = vcX P ops l1 (vcX P ops l2 K) s
  | [], l2, K, s => rfl
  | (o, b) :: l1, l2, K, s => by
    show vcOp P ops o _ (vcX P ops (l1 ++ l2) K) s = vcOp P ops o _ (vcX P ops l1 (vcX P ops l2 K)) s
    rw [funext (vcX_append l1 l2 K)]
theorem vcX_mono {K K' : St → Prop} (hK : ∀ s, K s → K' s) : ∀ (l : List (Oper × Bool)) (s : St), vcX P ops l K s → vcX P ops l K' s
  | [], s, h => hK s h
  | (o, b) :: l, s, h => vcOp_mono (fun _ h => h) (fun s h => vcX_mono hK l s h) h
theorem vcX_cut (n : Nat) (h : ∀ K' : St → Prop, (∀ s, vcX P ops (l.drop n) K s → K' s) → vcX P ops (l.take n) K' s) : vcX P ops l K s := by
  rw [← List.take_append_drop n l, vcX_append]
  exact h _ (fun s h => h)
theorem vcX_bool {t : Bool} {d : Tmp} (h1 : t = true → vcX P ops l K ⟨upd e d (.t (.bool true)), σ, h⟩) (h2 : t = false → vcX P ops l K ⟨upd e d (.t (.bool false)), σ, h⟩) : vcX P ops l K ⟨upd e d (.t (.bool t)), σ, h⟩ := by
  cases t with
  | true => exact h1 rfl
  | false => exact h2 rfl

theorem vcX_alloc {d : Tmp} {t : TypeId} {ty : TypeId} {pos : String} {af : Array Edge} {b : Bool} {z : List V} (hz : tZero P t = some z) :
    vcX P ops ((⟨some d, .alloc t, ty, pos, af, none⟩, b) :: l) K ⟨e, σ, h⟩ = ∀ g, h ≤ g → vcX P ops l K ⟨upd e d (.ptr σ.length 0 0 0), σ ++ [.row g 0 z.length z.length [z]], g + 1⟩ := by
  simp only [vcX, vcOp, gd, vcRun, isQuiet, vcE, hz, touched]
  simp [St.put]
theorem vcX_box {d : Tmp} {t : TypeId} {x : Operand} {ty : TypeId} {pos : String} {af : Array Edge} {b : Bool} :
    vcX P ops ((⟨some d, .box t x, ty, pos, af, none⟩, b) :: l) K ⟨e, σ, h⟩ = ((St.eval ⟨e, σ, h⟩ x).isVal = true ∧ ∀ g, h ≤ g → vcX P ops l K ⟨upd e d (.ptr σ.length 0 0 0), σ ++ [.row g 0 (St.eval ⟨e, σ, h⟩ x).cells.length (St.eval ⟨e, σ, h⟩ x).cells.length [(St.eval ⟨e, σ, h⟩ x).cells]], g + 1⟩) := by
  simp only [vcX, vcOp, gd, vcRun, isQuiet, vcE, touched]
  simp [St.put]
theorem vcX_makeSlice {d : Tmp} {t t' : TypeId} {x y : Operand} {ty : TypeId} {pos : String} {af : Array Edge} {b : Bool} {z : List V} {sz bs : Nat} {k k' : IntKind} {n m : Int} (h1 : tElem P t = some t') (h2 : tSize P t' = some sz) (h3 : tZero P t' = some z) (h4 : tBytes P t' = some bs)
    (hx : St.eval ⟨e, σ, h⟩ x = .t (.int k n)) (hy : St.eval ⟨e, σ, h⟩ y = .t (.int k' m)) :
    vcX P ops ((⟨some d, .makeSlice t x y, ty, pos, af, none⟩, b) :: l) K ⟨e, σ, h⟩ = (z.length = sz ∧ 0 < sz ∧ 0 ≤ n ∧ n ≤ m ∧ m ≤ 9223372036854775807 ∧ (bs : Int) * m ≤ 281474976710656 ∧
      ∀ g, h ≤ g → vcX P ops l K ⟨upd e d (.own σ.length 0 0 n.toNat), σ ++ [.row g 0 sz (m.toNat * sz) (List.replicate n.toNat z)], g + 1⟩) := by
  simp only [vcX, vcOp, gd, vcRun, isQuiet, vcE, touched, h1, h2, h3, h4, hx, hy]
  simp [St.put]
theorem vcX_buildSlice {d : Tmp} {t t' : TypeId} {n : Nat} {parts : Array (Nat × Operand)} {ty : TypeId} {pos : String} {af : Array Edge} {b : Bool} {z : List V} {sz : Nat} {es : List (List V)} (h1 : tElem P t = some t') (h2 : tSize P t' = some sz) (h3 : tZero P t' = some z)
    (hf : fillRow sz (List.replicate n z) (parts.toList.map fun p => (p.1, St.eval ⟨e, σ, h⟩ p.2)) = some es) :
    vcX P ops ((⟨some d, .buildSlice t n parts, ty, pos, af, none⟩, b) :: l) K ⟨e, σ, h⟩ = (z.length = sz ∧ 0 < sz ∧ n * sz ≤ 16777216 ∧
      ∀ g, h ≤ g → vcX P ops l K ⟨upd e d (.own σ.length 0 0 n), σ ++ [.row g 0 sz (n * sz) es], g + 1⟩) := by
  simp only [vcX, vcOp, gd, vcRun, isQuiet, vcE, touched, h1, h2, h3, hf]
  simp [St.put]
theorem vcX_store {d : Option Tmp} {t : TypeId} {p x : Operand} {ty : TypeId} {pos : String} {af : Array Edge} {n r ver i j g v sz m : Nat} {es : List (List V)} {el : List V} (h1 : tSize P t = some n) (hp : St.eval ⟨e, σ, h⟩ p = .ptr r ver i j)
    (hr : σ[r]? = some (.row g v sz m es)) (hi : es[i]? = some el) :
    vcX P ops ((⟨none, .store t p x, ty, pos, af, none⟩, true) :: l) K ⟨e, σ, h⟩ = (ver = v ∧ (St.eval ⟨e, σ, h⟩ x).solid = true ∧ (St.eval ⟨e, σ, h⟩ x).cells.length = n ∧ j + n ≤ el.length ∧
      vcX P ops l K ⟨e, σ.set r (.row g v sz m (es.set i (setV el j (St.eval ⟨e, σ, h⟩ x).cells))), h⟩) := by
  simp only [vcX, vcOp, gd, vcRun, isQuiet, vcE, touched, h1, hp, hr, hi]
  simp [St.put]
theorem vcX_append_nil {d : Tmp} {x y : Operand} {t t2 t' : TypeId} {ty : TypeId} {pos : String} {af : Array Edge} {sz bs : Nat} {z : List V} {b : Bool} {es : List (List V)} (h1 : tElem P t = some t') (h2 : tSize P t' = some sz) (h3 : tZero P t' = some z) (h4 : tBytes P t' = some bs)
    (hx : St.eval ⟨e, σ, h⟩ x = .nil0) (hy : appElems P ⟨e, σ, h⟩ sz (some z) t2 (St.eval ⟨e, σ, h⟩ y) = some es) :
    vcX P ops ((⟨some d, .call ⟨.builtin .append, #[x, y], #[t, t2]⟩, ty, pos, af, none⟩, b) :: l) K ⟨e, σ, h⟩ = (z.length = sz ∧ 0 < sz ∧ 0 < bs ∧ (∀ e ∈ es, e.length = sz ∧ ∀ c ∈ e, V.leaf c = true) ∧ 2 * es.length * bs ≤ 281474976710656 ∧
      (if es.length = 0 then vcX P ops l K ⟨upd e d .nil0, σ, h⟩ else ∀ g n, h ≤ g → vcX P ops l K ⟨upd e d (.own σ.length 0 0 es.length), σ ++ [.row g 0 sz n es], g + 1⟩)) := by
  simp only [vcX, vcOp, gd, vcRun, isQuiet, isApp, vcE, touched, h1, h2, h3, h4, hx, Option.getD_some, hy]
  simp [St.put, V.root, hx]
theorem vcX_append_own {d : Tmp} {x y : Operand} {t t2 t' : TypeId} {ty : TypeId} {pos : String} {af : Array Edge} {sz bs r ver len g v sz' m : Nat} {z : List V} {es es0 : List (List V)} (h1 : tElem P t = some t') (h2 : tSize P t' = some sz) (h3 : tZero P t' = some z) (h4 : tBytes P t' = some bs)
    (hx : St.eval ⟨e, σ, h⟩ x = .own r ver 0 len) (hr : σ[r]? = some (.row g v sz' m es0)) (hy : appElems P ⟨e, σ, h⟩ sz (some z) t2 (St.eval ⟨e, σ, h⟩ y) = some es) :
    vcX P ops ((⟨some d, .call ⟨.builtin .append, #[x, y], #[t, t2]⟩, ty, pos, af, none⟩, true) :: l) K ⟨e, σ, h⟩ = (z.length = sz ∧ 0 < sz ∧ 0 < bs ∧ (∀ e ∈ es, e.length = sz ∧ ∀ c ∈ e, V.leaf c = true) ∧ ver = v ∧ sz' = sz ∧ 2 * (len + es.length) * bs ≤ 281474976710656 ∧
      ∀ g' n' h', (g' = g ∧ h' = h) ∨ (h ≤ g' ∧ h' = g' + 1) → vcX P ops l K ⟨upd e d (.own r (ver + 1) 0 (len + es.length)), σ.set r (.row g' (ver + 1) sz n' (es0.take len ++ es)), h'⟩) := by
  simp only [vcX, vcOp, gd, vcRun, isQuiet, isApp, vcE, touched, h1, h2, h3, h4, hx, Option.getD_some, hy, hr]
  simp [St.put]
end

/-! ### calls -/
mutual
/-- A value with none of one's own objects. -/
def V.pure : V → Bool
  | .t _ => true
  | .nil0 => true
  | .err _ => true
  | .agg cs => V.pures cs
  | .tup vs => V.pures vs
  | .fn _ caps => V.pures caps
  | _ => false
def V.pures : List V → Bool
  | [] => true
  | v :: l => V.pure v && V.pures l
end
mutual
theorem V.pure_loc (σ : List Ob) (fp bor : List Nat) : ∀ v : V, v.pure = true → v.loc σ fp bor = v
  | .t _, _ => rfl
  | .nil0, _ => rfl
  | .err _, _ => rfl
  | .agg cs, h => by rw [V.loc, V.pures_loc σ fp bor cs (by simpa [V.pure] using h)]
  | .tup cs, h => by rw [V.loc, V.pures_loc σ fp bor cs (by simpa [V.pure] using h)]
  | .fn f cs, h => by rw [V.loc, V.pures_loc σ fp bor cs (by simpa [V.pure] using h)]
  | .own .., h => by simp [V.pure] at h
  | .ptr .., h => by simp [V.pure] at h
  | .fz .., h => by simp [V.pure] at h
  | .map .., h => by simp [V.pure] at h
  | .undef, h => by simp [V.pure] at h
  | .skip, h => by simp [V.pure] at h
theorem V.pures_loc (σ : List Ob) (fp bor : List Nat) : ∀ l : List V, V.pures l = true → V.locs σ fp bor l = l
  | [], _ => rfl
  | v :: l, h => by
    simp only [V.pures, Bool.and_eq_true] at h
    rw [V.locs, V.pure_loc σ fp bor v h.1, V.pures_loc σ fp bor l h.2]
end
mutual
theorem V.pure_back (fp : List Nat) (n : Nat) : ∀ v : V, v.pure = true → v.back fp n = v
  | .t _, _ => rfl
  | .nil0, _ => rfl
  | .err _, _ => rfl
  | .agg cs, h => by rw [V.back, V.pures_back fp n cs (by simpa [V.pure] using h)]
  | .tup cs, h => by rw [V.back, V.pures_back fp n cs (by simpa [V.pure] using h)]
  | .fn f cs, h => by rw [V.back, V.pures_back fp n cs (by simpa [V.pure] using h)]
  | .own .., h => by simp [V.pure] at h
  | .ptr .., h => by simp [V.pure] at h
  | .fz .., h => by simp [V.pure] at h
  | .map .., h => by simp [V.pure] at h
  | .undef, h => by simp [V.pure] at h
  | .skip, h => by simp [V.pure] at h
theorem V.pures_back (fp : List Nat) (n : Nat) : ∀ l : List V, V.pures l = true → V.backs fp n l = l
  | [], _ => rfl
  | v :: l, h => by
    simp only [V.pures, Bool.and_eq_true] at h
    rw [V.backs, V.pure_back fp n v h.1, V.pures_back fp n l h.2]
end
theorem V.pures_t (l : List T) : V.pures (l.map .t) = true := by induction l with | nil => rfl | cons x l ih => simp [V.pures, V.pure, ih]

/-- A function over frozen data: it gives a value with Q, made of frozen data, and leaves nothing else. -/
def FCtr (P : Program) (f : FuncId) (args : List V) (Q : V → Prop) : Prop := Ctr P f args [] fun _ _ r σ => Q r ∧ r.pure = true ∧ σ = []

theorem FCtr.mono {P : Program} {f : FuncId} {args : List V} {Q Q' : V → Prop} (h : FCtr P f args Q) (hq : ∀ v, Q v → Q' v) : FCtr P f args Q' := by
  refine ⟨h.1, fun w X vs hX ha hp cs => ?_⟩
  obtain ⟨e, w', fr, ⟨v, r, σ', h1, ⟨h2, h3, h4⟩, h5⟩, h6⟩ := h.2 w X vs hX ha hp cs
  exact ⟨e, w', fr, ⟨v, r, σ', h1, ⟨hq r h2, h3, h4⟩, h5⟩, h6⟩

section
variable {P : Program} {ops : Array Oper} {l : List (Oper × Bool)} {K : St → Prop} {s : St} {e : Nat → V} {σ : List Ob} {h : Nat}

/-- A call over frozen data: some of one's own objects are lent ('bor') as frozen data. -/
theorem vcX_callB {d : Option Tmp} {f : FuncId} {as : Array Operand} {tys : Array TypeId} {ty : TypeId} {pos : String} {af : Array Edge} {b : Bool} {fop : Operand} {caps : List V} (bor : List Nat) (args : List V) (Q : V → Prop) (hf : St.eval ⟨e, σ, h⟩ fop = .fn f caps)
    (ha : (as.toList.map (St.eval ⟨e, σ, h⟩) ++ caps).map (V.loc σ [] bor) = args) (hc : FCtr P f args Q)
    (hk : ∀ r h', h ≤ h' → Q r → r.pure = true → (∀ q ∈ bor, ∀ o : Ob, σ[q]? = some o → o.g ∉ r.ids) ∧ vcX P ops l K ⟨((⟨e, σ, h⟩ : St).put d r).env, σ, h'⟩) :
    vcX P ops ((⟨d, .call ⟨.value fop, as, tys⟩, ty, pos, af, none⟩, b) :: l) K ⟨e, σ, h⟩ := by
  simp only [vcX, vcOp, gd, vcRun, isQuiet, isApp, vcCall, hf]
  rw [if_neg (by simp), if_neg (by simp)]
  refine ⟨[], bor, args, _, .nil, (fun r hr => by cases hr), (fun r hr => by cases hr), .inr rfl, ?_, hc, fun lo hi r σ1 h1 h2 ⟨h3, h4, h5⟩ => ?_⟩
  · rw [← ha]
    exact Subs.refl _
  · subst h5
    obtain ⟨k1, k2⟩ := hk r hi (by omega) h3 h4
    refine ⟨fun q hq o ho _ => ⟨k1 q hq o ho, fun o1 ho1 => by cases ho1⟩, ?_⟩
    rw [V.pure_back _ _ _ h4, backObs_nil]
    exact k2
/-- The same, with nothing lent. -/
theorem vcX_call {d : Tmp} {f : FuncId} {as : Array Operand} {tys : Array TypeId} {ty : TypeId} {pos : String} {af : Array Edge} {b : Bool} {fop : Operand} (args : List V) (Q : V → Prop) (hc : FCtr P f args Q) (hf : St.eval ⟨e, σ, h⟩ fop = .fn f [])
    (ha : as.toList.map (St.eval ⟨e, σ, h⟩) = args) (hp : V.pures args = true)
    (hk : ∀ r h', h ≤ h' → Q r → r.pure = true → vcX P ops l K ⟨upd e d r, σ, h'⟩) :
    vcX P ops ((⟨some d, .call ⟨.value fop, as, tys⟩, ty, pos, af, none⟩, b) :: l) K ⟨e, σ, h⟩ := by
  refine vcX_callB [] args Q hf ?_ hc (fun r h' h1 h2 h3 => ⟨(fun q hq => by cases hq), hk r h' h1 h2 h3⟩)
  rw [List.append_nil, ha, ← V.locs_eq, V.pures_loc _ _ _ _ hp]
end
end Go.VL
