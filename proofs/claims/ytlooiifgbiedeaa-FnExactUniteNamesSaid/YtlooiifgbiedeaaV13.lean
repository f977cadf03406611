/- VL, part 13: code; contracts from code. -/
import Derived.Test.YtlooiifgbiedeaaV12
namespace Go.VL
set_option linter.unusedVariables false
set_option linter.unusedSimpArgs false

/-- Some objects kept (under new numbers), some frozen, the rest forgotten. -/
def St.gc (s : St) (keep bor : List Nat) : St := ⟨fun t => (s.env t).loc s.σ keep bor, locObs s.σ keep bor, s.h⟩

theorem Inv.gc {w0 : World} {av0 X : Nat → Prop} {N : Nat} {a : Act} {w : World} {s : St} (hi : Inv w0 av0 X N a w s) {keep bor : List Nat} (hn : keep.Nodup) (hk : ∀ r ∈ keep, r < s.σ.length) (hd : ∀ r ∈ keep, r ∉ bor) : Inv w0 av0 X N a w (s.gc keep bor) := by
  obtain ⟨h1, h2⟩ := hi.hp.loc (X' := X) hk hn hd (fun b hb => .inl hb)
  refine ⟨h1, fun t => (hi.env t).loc hi.hp hk h2, hi.h, hi.h0, hi.fr, fun r o ho => ?_, hi.defers, hi.sz⟩
  obtain ⟨r', o', _, h4, rfl⟩ := locObs_cases hk ho
  rw [Ob.loc_g]
  exact hi.own r' o' h4

/-- J holds, as it is or of fewer objects. -/
def gcd (J : St → Prop) (s : St) : Prop := J s ∨ ∃ keep bor : List Nat, keep.Nodup ∧ (∀ r ∈ keep, r < s.σ.length) ∧ (∀ r ∈ keep, r ∉ bor) ∧ J (s.gc keep bor)

/-- Every temporary that is written has its place. -/
def dstOk (N : Nat) : Code → Bool
  | .skip => true
  | .region _ ops _ => ops.all fun o => match o.dst with | some t => t < N | none => true
  | .seq a b => dstOk N a && dstOk N b
  | .cond _ a b => dstOk N a && dstOk N b
  | .block _ c => dstOk N c
  | .loop c => dstOk N c
  | .exit _ => true
  | .ret => true
  | _ => false

def thenK (x : St → Prop) (K : Exit → St → Prop) : Exit → St → Prop
  | .normal, s => x s
  | e, s => K e s
def blockK (id : Nat) (K : Exit → St → Prop) : Exit → St → Prop
  | .exit id', s => if id' = id then K .normal s else K (.exit id') s
  | e, s => K e s

def vcC (P : Program) : Code → (Exit → St → Prop) → St → Prop
  | .skip, K, s => K .normal s
  | .region _ ops draw, K, s => if draw then ∃ ord, drOk ops (closL ops) ord = true ∧ vcR P ops (closL ops) ord [] (K .normal) s else vcOps P ops ops.toList (K .normal) s
  | .seq a b, K, s => vcC P a (thenK (gcd (vcC P b K)) K) s
  | .cond c a b, K, s => match s.eval c with
    | .t (.bool t) => (t = true → vcC P a K s) ∧ (t = false → vcC P b K s)
    | _ => False
  | .block id c, K, s => vcC P c (blockK id K) s
  | .loop c, K, s => ∃ (I : Nat → St → Prop) (n : Nat), gcd (I n) s ∧ ∀ n s, I n s → vcC P c (thenK (fun s' => ∃ m, m < n ∧ gcd (I m) s') K) s
  | .exit id, K, s => K (.exit id) s
  | .ret, K, s => K .ret s
  | _, _, _ => False

theorem filterMap_range {α : Type} : ∀ (l : List α), (List.range l.length).filterMap (l[·]?) = l := by
  intro l
  induction l with
  | nil => rfl
  | cons x l ih =>
    rw [List.length_cons, List.range_succ_eq_map, List.filterMap_cons]
    simp only [List.getElem?_cons_zero, List.filterMap_map]
    congr 1

section
variable {P : Program} {w0 : World} {av0 X : Nat → Prop} {N : Nat}

theorem least {p : Nat → Prop} (h : ∃ n, p n) : ∃ m, p m ∧ ∀ k, p k → m ≤ k := by
  obtain ⟨n, hn⟩ := h
  induction n using Nat.strongRecOn with
  | _ n ih =>
    by_cases hx : ∃ k, k < n ∧ p k
    · obtain ⟨k, hk, hp⟩ := hx
      exact ih k hk hp
    · exact ⟨n, hn, fun k hk => Nat.le_of_not_lt fun hlt => hx ⟨k, hlt, hk⟩⟩

theorem gcd_sound {J : St → Prop} {a : Act} {w : World} {s : St} (hi : Inv w0 av0 X N a w s) (h : gcd J s) : ∃ s', Inv w0 av0 X N a w s' ∧ J s' := by
  rcases h with h | ⟨keep, bor, h1, h2, h3, h4⟩
  · exact ⟨s, hi, h⟩
  · exact ⟨_, hi.gc h1 h2 h3, h4⟩

theorem vcC_sound (hm : P.follows .mixedOrders = true) (hX : ∀ b, X b → b < w0.heap.size) : ∀ (c : Code) (K : Exit → St → Prop) (Q : Exit → Act → World → Prop) (a : Act) (w : World) (s : St), dstOk N c = true →
    (∀ e a w s, Inv w0 av0 X N a w s → K e s → Q e a w) → Inv w0 av0 X N a w s → vcC P c K s → c.wp P Q a w := by
  have hdst : ∀ {ops : Array Oper} {id d}, dstOk N (.region id ops d) = true → ∀ (j : Nat) (o : Oper) (t : Nat), ops[j]? = some o → o.dst = some t → t < N := fun {ops id d} h j o t ho ht => by
    simp only [dstOk, Array.all_eq_true_iff_forall_mem] at h
    have := h o (Array.mem_of_getElem? ho)
    rw [ht] at this
    simpa using this
  intro c
  induction c with
  | skip => exact fun K Q a w s hN hQ hi h => wp_skip (hQ _ _ _ _ hi h)
  | region id ops draw =>
    intro K Q a w s hN hQ hi h
    unfold vcC at h
    split at h
    · rename_i hdraw
      subst hdraw
      obtain ⟨ord, h1, h2⟩ := h
      exact wp_region_drawn hm hX (hdst hN) h1 (fun a w s hi h => hQ _ _ _ _ hi h) hi h2
    · rename_i hdraw
      have : draw = false := by simpa using hdraw
      subst this
      refine wp_region (vcOps_sound hX (hdst hN) (fun a w s hi h => hQ _ _ _ _ hi h) _ a w s hi ?_)
      have he : (List.range ops.size).filterMap (ops[·]?) = ops.toList := by
        have := filterMap_range ops.toList
        simpa using this
      rw [he]
      exact h
  | seq x y ihx ihy =>
    intro K Q a w s hN hQ hi h
    simp only [dstOk, Bool.and_eq_true] at hN
    refine wp_seq (ihx _ _ a w s hN.1 (fun e a w s hi h => ?_) hi h)
    cases e with
    | normal =>
      obtain ⟨s', h1, h2⟩ := gcd_sound hi h
      exact ihy K Q a w s' hN.2 hQ h1 h2
    | _ => exact hQ _ a w s hi h
  | cond c x y ihx ihy =>
    intro K Q a w s hN hQ hi h
    simp only [dstOk, Bool.and_eq_true] at hN
    unfold vcC at h
    split at h
    · rename_i t ht
      have hv := (ht ▸ hi.eval c).bool_inv
      refine wp_cond hv ?_
      cases t with
      | true => exact ihx K Q a w s hN.1 hQ hi (h.1 rfl)
      | false => exact ihy K Q a w s hN.2 hQ hi (h.2 rfl)
    · exact h.elim
  | block id c ih =>
    intro K Q a w s hN hQ hi h
    refine wp_block (ih _ _ a w s hN (fun e a w s hi h => ?_) hi h)
    cases e with
    | exit id' =>
      simp only [blockK] at h
      simp only [Exit.inBlock]
      split at h
      · rename_i h1; rw [if_pos h1]; exact hQ _ _ _ _ hi h
      · rename_i h1; rw [if_neg h1]; exact hQ _ _ _ _ hi h
    | _ => exact hQ _ _ _ _ hi h
  | loop c ih =>
    intro K Q a w s hN hQ hi h
    obtain ⟨I, n, h0, hround⟩ := h
    classical
    let J : Act → World → Nat → Prop := fun a w n => ∃ s, Inv w0 av0 X N a w s ∧ I n s
    refine wp_loop (fun a w => ∃ n, J a w n) (fun a w => if h : ∃ n, J a w n then (least h).choose else 0) ?_ (fun a w hJ => ?_)
    · obtain ⟨s', h1, h2⟩ := gcd_sound hi h0
      exact ⟨n, s', h1, h2⟩
    · simp only [dif_pos hJ]
      obtain ⟨s1, hi1, hI⟩ := (least hJ).choose_spec.1
      refine ih _ _ a w s1 hN (fun e a' w' s2 hi2 h2 => ?_) hi1 (hround _ s1 hI)
      cases e with
      | normal =>
        obtain ⟨m, hm2, h3⟩ := h2
        obtain ⟨s3, h4, h5⟩ := gcd_sound hi2 h3
        have hex : ∃ n, J a' w' n := ⟨m, s3, h4, h5⟩
        refine ⟨hex, ?_⟩
        rw [dif_pos hex]
        exact Nat.lt_of_le_of_lt ((least hex).choose_spec.2 m ⟨s3, h4, h5⟩) hm2
      | _ => exact hQ _ _ _ _ hi2 h2
  | exit id => exact fun K Q a w s hN hQ hi h => wp_exit (hQ _ _ _ _ hi h)
  | ret => exact fun K Q a w s hN hQ hi h => wp_ret (hQ _ _ _ _ hi h)
  | _ => intro K Q a w s hN hQ hi h; exact h.elim
end

/-! ### contracts -/
def resQ (P : Program) (s : St) : ResultVar → Option V
  | .tmp t => some (s.env t)
  | .cell a t => loadQ P s t (s.env a)
/-- One result as it is, others as a tuple. -/
def tupV : List V → V
  | [v] => v
  | l => .tup l

def resV (tmps : Array Value) : ResultVar → Sem Value
  | .tmp t => pure (tmps.getD t undef)
  | .cell x t => do loadVar t (← asAddr (tmps.getD x undef))
theorem results_eq (fn : Func) (tmps : Array Value) : results fn tmps = (do let vs ← fn.results.mapM (resV tmps); pure (if h : vs.size = 1 then vs[0] else .tuple vs)) := rfl

theorem resQ_sound {P : Program} {w0 : World} {av0 X : Nat → Prop} {N : Nat} {a : Act} {w : World} {s : St} (hi : Inv w0 av0 X N a w s) : ∀ (l : List ResultVar) (vs : List V), l.mapM (resQ P s) = some vs →
    ∃ xs : List Value, (l.mapM (resV a.tmps)).run P w = .ok xs w ∧ xs.length = vs.length ∧ ∀ (i : Nat) (v : V), vs[i]? = some v → VR w X s.σ v (xs.getD i undef)
  | [], vs, h => by
    simp only [List.mapM_nil, Option.pure_def, Option.some.injEq] at h
    subst h
    exact ⟨[], rfl, rfl, fun i v hv => by simp at hv⟩
  | r :: l, vs, h => by
    rw [List.mapM_cons] at h
    simp only [Option.bind_eq_bind, Option.bind_eq_some_iff, Option.pure_def, Option.some.injEq] at h
    obtain ⟨v, hv, l2, hl2, rfl⟩ := h
    obtain ⟨xs, h1, h2, h3⟩ := resQ_sound hi l l2 hl2
    have hone : ∃ x, (resV a.tmps r).run P w = .ok x w ∧ VR w X s.σ v x := by
      cases r with
      | tmp t =>
        simp only [resQ, Option.some.injEq] at hv
        subst hv
        exact ⟨_, rfl, hi.env t⟩
      | cell x t =>
        simp only [resQ] at hv
        obtain ⟨y, h4, h5⟩ := loadQ_sound hi hv (hi.env x)
        refine ⟨y, ?_, h5⟩
        show (do loadVar t (← asAddr (a.tmps.getD x undef)) : Sem Value).run P w = _
        generalize a.tmps.getD x undef = z at h4
        unfold Instr.loadAt Instr.sureAddr at h4
        unfold asAddr
        split at h4
        · exact h4
        · simp [stuck] at h4
    obtain ⟨x, h6, h7⟩ := hone
    refine ⟨x :: xs, ?_, by simp [h2], fun i u hu => ?_⟩
    · rw [List.mapM_cons]
      simp only [Sem.run_bind, h6, Result.andThen_ok, h1, Sem.run_pure]
    · cases i with
      | zero => simp only [List.getElem?_cons_zero, Option.some.injEq] at hu; subst hu; simpa using h7
      | succ i => simpa using h3 i u (by simpa using hu)

def envOf (args : List V) : Nat → V := fun t => args.getD t .undef

/-- What must hold where a function returns: its result, and the objects that it was given or hands back. -/
def retK (P : Program) (rs : List ResultVar) (σ0 : List Ob) (h0 : Nat) (R : Nat → Nat → V → List Ob → Prop) (s : St) : Prop :=
  ∃ vs, rs.mapM (resQ P s) = some vs ∧ ∃ keep bor : List Nat, keep.Nodup ∧ (∀ r ∈ keep, r < s.σ.length) ∧ (∀ r ∈ keep, r ∉ bor) ∧
    (∀ hi, s.h ≤ hi → R h0 hi ((tupV vs).loc s.σ keep bor) (locObs s.σ keep bor)) ∧
    (∀ (r : Nat) (o : Ob), σ0[r]? = some o → ∃ o' : Ob, (locObs s.σ keep bor)[r]? = some o' ∧ o.le o')
def retE (P : Program) (rs : List ResultVar) (σ0 : List Ob) (h0 : Nat) (R : Nat → Nat → V → List Ob → Prop) : Exit → St → Prop
  | .normal, s | .ret, s => retK P rs σ0 h0 R s
  | _, _ => False

theorem Ctr.of_vc {P : Program} {f : FuncId} {fn : Func} {c : Code} {rs : List ResultVar} {args : List V} {σ : List Ob} {R : Nat → Nat → V → List Ob → Prop} (hm : P.follows .mixedOrders = true) (hf : P.funcs[f]? = some fn) (hb : fn.body = some c) (hrs : fn.results.toList = rs)
    (hc : callable P f = true) (hd : dstOk fn.ntmps c = true) (hl : args.length ≤ fn.ntmps) (h : ∀ h0, vcC P c (retE P rs σ h0 R) ⟨envOf args, σ, h0⟩) : Ctr P f args σ R := by
  refine ⟨hc, fun w X vs hX ha hp => calls_of_wp hf hb ?_⟩
  obtain ⟨hvl, hva⟩ := ha
  refine vcC_sound (w0 := w) (av0 := fun b => ∃ (r : Nat) (o : Ob), σ[r]? = some o ∧ o.g = b) (N := fn.ntmps) hm hX c _ _ _ w _ hd ?_ ?_ (h w.heap.size)
  · intro e a w' s hi hK
    have key : retK P rs σ w.heap.size R s → a.defers = [] ∧ ∃ v, (results fn a.tmps).run P w' = .ok v w' ∧ ∃ (v' : Value) (r : V) (σ' : List Ob), Ending.returned v = .returned v' ∧ R w.heap.size w'.heap.size r σ' ∧ VR w' X σ' r v' ∧ Heap w' X σ' ∧ Fr w (fun b => ∃ (r : Nat) (o : Ob), σ[r]? = some o ∧ o.g = b) w' ∧
      (∀ (r : Nat) (o : Ob), σ[r]? = some o → ∃ o' : Ob, σ'[r]? = some o' ∧ o.le o') ∧
      (∀ (r : Nat) (o : Ob), σ'[r]? = some o → (∃ (r' : Nat) (o' : Ob), σ[r']? = some o' ∧ o.g = o'.g) ∨ w.heap.size ≤ o.g) := by
      subst hrs
      rintro ⟨vs', h1, keep, bor, h2, h3, h4, h5, h6⟩
      obtain ⟨xs, g1, g2, g3⟩ := resQ_sound hi _ _ h1
      obtain ⟨k1, k2⟩ := hi.hp.loc (X' := X) h3 h2 h4 (fun b hb => .inl hb)
      refine ⟨hi.defers, (if h : xs.toArray.size = 1 then xs.toArray[0] else .tuple xs.toArray), ?_, _, (tupV vs').loc s.σ keep bor, locObs s.σ keep bor, rfl, h5 _ hi.h, ?_, k1, hi.fr, h6, ?_⟩
      · rw [results_eq]
        rw [Array.mapM_eq_mapM_toList]
        rw [map_eq_pure_bind]
        simp only [bind_assoc, pure_bind]
        simp only [Sem.run_bind, g1, Result.andThen_ok, Sem.run_pure]
      · refine VR.loc ?_ hi.hp h3 k2
        match vs', g2, g3 with
        | [v], g2, g3 =>
          match xs, g2 with
          | [x], _ => simpa [tupV] using g3 0 v rfl
        | [], g2, g3 =>
          match xs, g2 with
          | [], _ => exact .tup rfl (fun i c hc => by simp at hc)
        | u :: v :: l, g2, g3 =>
          match xs, g2 with
          | x :: y :: l', g2 =>
            simp only [List.size_toArray, List.length_cons]
            rw [dif_neg (by omega)]
            exact .tup (by simp at g2 ⊢; omega) (fun i c hc => by simpa using g3 i c hc)
      · intro r o ho
        obtain ⟨r', o', _, h8, rfl⟩ := locObs_cases h3 ho
        rw [Ob.loc_g]
        rcases hi.own r' o' h8 with ⟨r2, o2, h9, h10⟩ | h9
        · exact .inl ⟨r2, o2, h9, h10.symm⟩
        · exact .inr h9
    cases e with
    | normal => exact key hK
    | ret => exact key hK
    | _ => exact hK.elim
  · refine ⟨hp, fun t => ?_, Nat.le_refl _, Nat.le_refl _, Fr.refl _ _, fun r o ho => .inl ⟨r, o, ho, rfl⟩, rfl, ?_⟩
    · show VR w X σ (args.getD t .undef) _
      by_cases ht : t < args.length
      · have h1 := hva t args[t] (List.getElem?_eq_getElem ht)
        rw [List.getD_eq_getElem?_getD, List.getElem?_eq_getElem ht]
        simp only [Option.getD_some]
        rw [Array.getD_eq_getD_getElem?] at h1 ⊢
        rwa [Array.getElem?_append_left (by omega)]
      · rw [List.getD_eq_getElem?_getD, List.getElem?_eq_none (by omega)]
        exact .undef _
    · simp only [Array.size_append, Array.size_replicate]
      omega
end Go.VL
