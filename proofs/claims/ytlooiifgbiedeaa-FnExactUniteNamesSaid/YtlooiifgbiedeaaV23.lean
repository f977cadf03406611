/- VL, part 23: calls that are lent objects to write; appends. -/
import Derived.Test.YtlooiifgbiedeaaV22
namespace Go.VL
set_option linter.unusedVariables false
set_option linter.unusedSimpArgs false
section
variable {P : Program} {ops : Array Oper} {l : List (Oper × Bool)} {K : St → Prop} {s : St} {e : Nat → V} {σ : List Ob} {h : Nat}

/-- A call that is lent some of one's own objects to write ('fp'), others as frozen data ('bor'). -/
theorem vcX_callF {d : Option Tmp} {f : FuncId} {as_ : Array Operand} {tys : Array TypeId} {ty : TypeId} {pos : String} {af : Array Edge} {fop : Operand} {caps : List V} (fp bor : List Nat) (args : List V) (σ0 : List Ob) (R : V → List Ob → Prop) (hc : Ctr P f args σ0 (fun _ _ r σ' => R r σ'))
    (hf : St.eval ⟨e, σ, h⟩ fop = .fn f caps) (hn : fp.Nodup) (hfp : ∀ r ∈ fp, r < σ.length) (hd : ∀ r ∈ fp, r ∉ bor) (hσ : locObs σ fp bor = σ0)
    (ha : Subs ((as_.toList.map (St.eval ⟨e, σ, h⟩) ++ caps).map (V.loc σ fp bor)) args)
    (hk : ∀ r σ1 h', h ≤ h' → R r σ1 → (∀ q ∈ bor, ∀ o : Ob, σ[q]? = some o → o.g ∉ r.ids ∧ ∀ o1 ∈ σ1, o.g ∉ o1.ids) ∧ vcX P ops l K ⟨((⟨e, σ, h⟩ : St).put d (r.back fp σ.length)).env, backObs σ fp σ1, h'⟩) :
    vcX P ops ((⟨d, .call ⟨.value fop, as_, tys⟩, ty, pos, af, none⟩, true) :: l) K ⟨e, σ, h⟩ := by
  simp only [vcX, vcOp, gd, vcRun, isQuiet, isApp, vcCall, hf]
  rw [if_neg (by simp), if_neg (by simp)]
  subst hσ
  exact ⟨fp, bor, args, _, hn, hfp, hd, .inl trivial, ha, hc, fun lo hi r σ1 h1 h2 h3 => ⟨fun q hq o ho _ => (hk r σ1 hi (by omega) h3).1 q hq o ho, (hk r σ1 hi (by omega) h3).2⟩⟩
theorem Subs.of_eq {l l' : List V} (h : l = l') : Subs l l' := h ▸ Subs.refl l

/-! ### slices that grow -/
/-- A slice that is built by appends: nothing as yet, or a row of one's own. -/
def outV (r : Nat) (len : Nat) : Option (Nat × Nat × Nat) → V
  | none => .nil0
  | some (_, ver, _) => .own r ver 0 len
def outO (sz : Nat) (es : List (List V)) : Option (Nat × Nat × Nat) → List Ob
  | none => []
  | some (g, ver, m) => [.row g ver sz m es]

theorem x_app_nil {d : Tmp} {x y : Operand} {t t2 t' : TypeId} {ty : TypeId} {pos : String} {af : Array Edge} {sz bs : Nat} {z : List V} {b : Bool} (es : List (List V)) (h1 : tElem P t = some t') (h2 : tSize P t' = some sz) (h3 : tZero P t' = some z) (h4 : tBytes P t' = some bs)
    (hx : St.eval ⟨e, σ, h⟩ x = .nil0) (hy : appElems P ⟨e, σ, h⟩ sz (some z) t2 (St.eval ⟨e, σ, h⟩ y) = some es) (hz : z.length = sz ∧ 0 < sz ∧ 0 < bs) (hl : ∀ e ∈ es, e.length = sz ∧ ∀ c ∈ e, V.leaf c = true) (hb : 2 * es.length * bs ≤ 281474976710656) (hne : es.length ≠ 0)
    (hk : ∀ g n, h ≤ g → vcX P ops l K ⟨upd e d (.own σ.length 0 0 es.length), σ ++ [.row g 0 sz n es], g + 1⟩) :
    vcX P ops ((⟨some d, .call ⟨.builtin .append, #[x, y], #[t, t2]⟩, ty, pos, af, none⟩, b) :: l) K ⟨e, σ, h⟩ := by
  rw [vcX_append_nil h1 h2 h3 h4 hx hy]
  exact ⟨hz.1, hz.2.1, hz.2.2, hl, hb, by rw [if_neg hne]; exact hk⟩
theorem x_app_own {d : Tmp} {x y : Operand} {t t2 t' : TypeId} {ty : TypeId} {pos : String} {af : Array Edge} {sz bs r ver len g v sz' m : Nat} {z : List V} {es0 : List (List V)} (es : List (List V)) (h1 : tElem P t = some t') (h2 : tSize P t' = some sz) (h3 : tZero P t' = some z) (h4 : tBytes P t' = some bs)
    (hx : St.eval ⟨e, σ, h⟩ x = .own r ver 0 len) (hr : σ[r]? = some (.row g v sz' m es0)) (hy : appElems P ⟨e, σ, h⟩ sz (some z) t2 (St.eval ⟨e, σ, h⟩ y) = some es) (hz : z.length = sz ∧ 0 < sz ∧ 0 < bs) (hl : ∀ e ∈ es, e.length = sz ∧ ∀ c ∈ e, V.leaf c = true) (hv : ver = v ∧ sz' = sz) (hb : 2 * (len + es.length) * bs ≤ 281474976710656)
    (hk : ∀ g' n' h', h ≤ h' → (g' = g ∨ h ≤ g') → vcX P ops l K ⟨upd e d (.own r (ver + 1) 0 (len + es.length)), σ.set r (.row g' (ver + 1) sz n' (es0.take len ++ es)), h'⟩) :
    vcX P ops ((⟨some d, .call ⟨.builtin .append, #[x, y], #[t, t2]⟩, ty, pos, af, none⟩, true) :: l) K ⟨e, σ, h⟩ := by
  rw [vcX_append_own h1 h2 h3 h4 hx hr hy]
  refine ⟨hz.1, hz.2.1, hz.2.2, hl, hv.1, hv.2, hb, fun g' n' h' hc => hk g' n' h' ?_ ?_⟩
  · rcases hc with ⟨_, h5⟩ | ⟨_, h5⟩ <;> omega
  · rcases hc with ⟨h5, _⟩ | ⟨h5, _⟩
    · exact .inl h5
    · exact .inr h5

/-- A slice that is built by appends, among objects: nothing as yet, or the row r. -/
def Out (σ : List Ob) (sz : Nat) (r : Nat) (acc : List (List V)) : Option (Nat × Nat × Nat) → Prop
  | none => acc = []
  | some (g, ver, m) => σ[r]? = some (.row g ver sz m acc)

/-- An append to it: where it lies then is not told, but that it is apart from what was there. -/
theorem x_app_any {d : Tmp} {x y : Operand} {t t2 t' : TypeId} {ty : TypeId} {pos : String} {af : Array Edge} {sz bs r : Nat} {z : List V} {acc : List (List V)} {w : Option (Nat × Nat × Nat)} (es : List (List V)) (h1 : tElem P t = some t') (h2 : tSize P t' = some sz) (h3 : tZero P t' = some z) (h4 : tBytes P t' = some bs)
    (hx : St.eval ⟨e, σ, h⟩ x = outV r acc.length w) (ho : Out σ sz r acc w) (hy : appElems P ⟨e, σ, h⟩ sz (some z) t2 (St.eval ⟨e, σ, h⟩ y) = some es) (hz : z.length = sz ∧ 0 < sz ∧ 0 < bs) (hl : ∀ e ∈ es, e.length = sz ∧ ∀ c ∈ e, V.leaf c = true)
    (hb : 2 * (acc.length + es.length) * bs ≤ 281474976710656) (hne : es.length ≠ 0)
    (hk : ∀ r' g ver m σ' h', σ'[r']? = some (.row g ver sz m (acc ++ es)) → (∀ i o, i ≠ r' → σ[i]? = some o → σ'[i]? = some o) → ((r' = r ∧ w ≠ none) ∨ r' = σ.length) → h ≤ h' → (h ≤ g ∨ ∃ ver' m', w = some (g, ver', m')) →
      vcX P ops l K ⟨upd e d (.own r' ver 0 (acc.length + es.length)), σ', h'⟩) :
    vcX P ops ((⟨some d, .call ⟨.builtin .append, #[x, y], #[t, t2]⟩, ty, pos, af, none⟩, true) :: l) K ⟨e, σ, h⟩ := by
  cases w with
  | none =>
    have hacc : acc = [] := ho
    subst hacc
    refine x_app_nil es h1 h2 h3 h4 hx hy hz hl (by rw [List.length_nil, Nat.zero_add] at hb; exact hb) hne (fun g n hg => ?_)
    have := hk σ.length g 0 n (σ ++ [.row g 0 sz n es]) (g + 1) (by rw [List.getElem?_append_right (Nat.le_refl _), Nat.sub_self]; rfl) (fun i o hi ho => by rw [List.getElem?_append_left (List.getElem?_eq_some_iff.1 ho).1]; exact ho) (.inr rfl) (by omega) (.inl hg)
    rw [List.length_nil, Nat.zero_add] at this
    exact this
  | some p =>
    obtain ⟨g, ver, m⟩ := p
    have hr : σ[r]? = some (.row g ver sz m acc) := ho
    refine x_app_own (r := r) (g := g) (v := ver) (m := m) (es0 := acc) es h1 h2 h3 h4 hx hr hy hz hl ⟨rfl, rfl⟩ hb (fun g' n' h' h5 h6 => ?_)
    refine hk r g' (ver + 1) n' _ h' ?_ (fun i o hi ho => ?_) (.inl ⟨rfl, by simp⟩) h5 (h6.elim (fun e => .inr ⟨ver, m, by rw [e]⟩) .inl)
    · rw [List.getElem?_set_self (List.getElem?_eq_some_iff.1 hr).1]
      simp
    · rw [List.getElem?_set_ne (Ne.symm hi)]
      exact ho

/-- It is lent as frozen data. -/
theorem Out.lend {sz r : Nat} {acc : List (List V)} {w : Option (Nat × Nat × Nat)} (ho : Out σ sz r acc w) {bor : List Nat} (hb : r ∈ bor) {ts : List (List T)} (ht : acc = ts.map (·.map V.t)) : ∃ g, Sub ((outV r acc.length w).loc σ [] bor) (.t (.sl g ts)) := by
  cases w with
  | none =>
    have hacc : acc = [] := ho
    subst hacc
    have : ts = [] := by
      cases ts with
      | nil => rfl
      | cons x l => cases ht
    subst this
    exact ⟨0, .nil 0⟩
  | some p =>
    obtain ⟨g, ver, m⟩ := p
    have hr : σ[r]? = some (.row g ver sz m acc) := ho
    refine ⟨g, ?_⟩
    rw [show outV r acc.length (some (g, ver, m)) = V.own r ver 0 acc.length from rfl, loc_frz ts hr ht hb (by rw [ht]; simp)]
    exact .refl _
end

/-! ### what comes back of lent cells -/
theorem back_0 (o : Ob) (σ : List Ob) (g a b c : Nat) (x : T) : backObs (o :: σ) [0] [.row g a b c [[.t x]]] = .row g a b c [[.t x]] :: σ := by
  have h : ∀ (r : Nat) (l : List Ob) (σ1 : List Ob) (n : Nat), backAt [0] n σ1 (r + 1) l = l := by
    intro r l
    induction l generalizing r with
    | nil => intros; rfl
    | cons o l ih => intro σ1 n; rw [backAt, ih]; simp [idx]
  simp only [backObs, backAt, h]
  simp [idx, Ob.back, V.back]
theorem back_1 (o o2 : Ob) (σ : List Ob) (g a b c : Nat) (x : T) : backObs (o :: o2 :: σ) [1] [.row g a b c [[.t x]]] = o :: .row g a b c [[.t x]] :: σ := by
  have h : ∀ (r : Nat) (l : List Ob) (σ1 : List Ob) (n : Nat), backAt [1] n σ1 (r + 2) l = l := by
    intro r l
    induction l generalizing r with
    | nil => intros; rfl
    | cons o l ih => intro σ1 n; rw [backAt, ih]; simp [idx]
  simp only [backObs, backAt, h]
  simp [idx, Ob.back, V.back]
theorem le_1 {g a b c : Nat} {x y : V} {σ' : List Ob} (h : σ' = [.row g a b c [[y]]]) : ∀ (r : Nat) (o : Ob), [Ob.row g a b c [[x]]][r]? = some o → ∃ o' : Ob, σ'[r]? = some o' ∧ o.le o' := by
  subst h
  intro r o ho
  cases r with
  | zero => simp only [List.getElem?_cons_zero, Option.some.injEq] at ho; subst ho; exact ⟨_, rfl, by simp [Ob.le]⟩
  | succ r => simp at ho
attribute [go_sem] back_0 back_1 V.back V.backs

/-! ### slices written out -/
def bsOk (z : List V) (sz n : Nat) : Prop := z.length = sz ∧ 0 < sz ∧ n * sz ≤ 16777216
def vcXB (P : Program) (ops : Array Oper) (l : List (Oper × Bool)) (K : St → Prop) (e : Nat → V) (σ : List Ob) (h : Nat) (d : Tmp) (n : Nat) (osz : Option Nat) (oz : Option (List V)) (parts : List (Nat × V)) : Prop := match osz, oz with
  | some sz, some z => (match fillRow sz (List.replicate n z) parts with
    | some es => bsOk z sz n ∧ ∀ g, h ≤ g → vcX P ops l K ⟨upd e d (.own σ.length 0 0 n), σ ++ [.row g 0 sz (n * sz) es], g + 1⟩
    | none => False)
  | _, _ => False
theorem x_buildSlice {P : Program} {ops : Array Oper} {l : List (Oper × Bool)} {K : St → Prop} {e : Nat → V} {σ : List Ob} {h : Nat} {d : Tmp} {t : TypeId} {n : Nat} {parts : List (Nat × Operand)} {ty : TypeId} {pos : String} {af : Array Edge} {b : Bool} :
    vcX P ops ((⟨some d, .buildSlice t n parts.toArray, ty, pos, af, none⟩, b) :: l) K ⟨e, σ, h⟩ = vcXB P ops l K e σ h d n (esize P t) (ezero P t) (parts.map fun p => (p.1, St.eval ⟨e, σ, h⟩ p.2)) := by
  simp only [vcX, vcOp, gd, vcRun, isQuiet, vcE, touched, esize, ezero, vcXB]
  cases tElem P t with
  | none => simp
  | some t' =>
    simp only
    cases tSize P t' with
    | none => simp
    | some sz =>
      cases tZero P t' with
      | none => simp
      | some z =>
        simp only
        cases fillRow sz (List.replicate n z) (parts.map fun p => (p.1, St.eval ⟨e, σ, h⟩ p.2)) with
        | none => simp
        | some es => simp [bsOk, St.put, and_assoc]
theorem rep1 {α : Type} (z : α) : List.replicate 1 z = [z] := rfl
theorem rep2 {α : Type} (z : α) : List.replicate 2 z = [z, z] := rfl
theorem rep3 {α : Type} (z : α) : List.replicate 3 z = [z, z, z] := rfl
theorem rep4 {α : Type} (z : α) : List.replicate 4 z = [z, z, z, z] := rfl
theorem rep5 {α : Type} (z : α) : List.replicate 5 z = [z, z, z, z, z] := rfl
theorem rep6 {α : Type} (z : α) : List.replicate 6 z = [z, z, z, z, z, z] := rfl
attribute [go_sem] nilCheckQ x_buildSlice vcXB fillRow replicate_zero' rep1 rep2 rep3 rep4 rep5 rep6 V.isVal

/-- A call over frozen data, some of one's own lent as frozen, each argument at least as told. -/
theorem vcX_callS {P : Program} {ops : Array Oper} {l : List (Oper × Bool)} {K : St → Prop} {e : Nat → V} {σ : List Ob} {h : Nat} {d : Option Tmp} {f : FuncId} {as_ : Array Operand} {tys : Array TypeId} {ty : TypeId} {pos : String} {af : Array Edge} {b : Bool} {fop : Operand} {caps : List V} (bor : List Nat) (args : List V) (Q : V → Prop) (hc : FCtr P f args Q) (hf : St.eval ⟨e, σ, h⟩ fop = .fn f caps)
    (ha : Subs ((as_.toList.map (St.eval ⟨e, σ, h⟩) ++ caps).map (V.loc σ [] bor)) args)
    (hk : ∀ r h', h ≤ h' → Q r → r.pure = true → (∀ q ∈ bor, ∀ o : Ob, σ[q]? = some o → o.g ∉ r.ids) ∧ vcX P ops l K ⟨((⟨e, σ, h⟩ : St).put d r).env, σ, h'⟩) :
    vcX P ops ((⟨d, .call ⟨.value fop, as_, tys⟩, ty, pos, af, none⟩, b) :: l) K ⟨e, σ, h⟩ := by
  simp only [vcX, vcOp, gd, vcRun, isQuiet, isApp, vcCall, hf]
  rw [if_neg (by simp), if_neg (by simp)]
  refine ⟨[], bor, args, _, .nil, (fun r hr => by cases hr), (fun r hr => by cases hr), .inr rfl, ha, hc, fun lo hi r σ1 h1 h2 ⟨h3, h4, h5⟩ => ?_⟩
  subst h5
  obtain ⟨k1, k2⟩ := hk r hi (by omega) h3 h4
  refine ⟨fun q hq o ho _ => ⟨k1 q hq o ho, fun o1 ho1 => by cases ho1⟩, ?_⟩
  rw [V.pure_back _ _ _ h4, backObs_nil]
  exact k2
theorem Subs.cons {x y : V} {l l' : List V} (h : Sub x y) (hl : Subs l l') : Subs (x :: l) (y :: l') := by
  refine ⟨by simp [hl.1], fun i c c' h1 h2 => ?_⟩
  cases i with
  | zero =>
    simp only [List.getElem?_cons_zero, Option.some.injEq] at h1 h2
    subst h1; subst h2
    exact h
  | succ i => exact hl.2 i c c' (by simpa using h1) (by simpa using h2)

/-- The front of a frozen slice of strings. -/
theorem q_slice_strs {P : Program} {s : St} {t : TypeId} {g n : Nat} {k : IntKind} {xs : List ByteArray} (h : n ≤ xs.length) : sliceQ P s t (.t (.sl g (xs.map fun x => [T.str x]))) none (some (.t (.int k (n : Int)))) = match esize P t with
    | some sz => if sz = 1 then some (.t (.sl g ((xs.take n).map fun x => [T.str x]))) else if n = 0 then some (.t (.sl g [])) else none
    | none => none := by
  simp only [sliceQ, esize]
  cases tElem P t with
  | none => rfl
  | some e =>
    simp only
    cases tSize P e with
    | none => rfl
    | some sz =>
      simp only [List.length_map]
      rw [sliceB_nat h]
      simp only [sliceB_none, List.drop_zero]
      by_cases hn : n = 0
      · subst hn
        simp
      · have h0 : ((xs.map fun x => [T.str x]).getD 0 []).length = 1 := by
          cases xs with
          | nil => simp at h; omega
          | cons x l => rfl
        rw [h0]
        by_cases hs : sz = 1
        · subst hs
          rw [if_pos (.inr rfl), if_pos rfl, List.map_take]
        · rw [if_neg (fun hx => hx.elim hn (fun e => hs e.symm)), if_neg hs, if_neg hn]
attribute [go_sem] q_slice_strs
end Go.VL
