/- VL, part 16: memory by rewriting; whole numbers; readings of rows. -/
import Derived.Test.YtlooiifgbiedeaaV15
import Derived.Laws.BitsLemmas
namespace Go.VL
set_option linter.unusedVariables false
set_option linter.unusedSimpArgs false
section
variable {P : Program} {ops : Array Oper} {l : List (Oper × Bool)} {K : St → Prop} {e : Nat → V} {σ : List Ob} {h : Nat} {d : Tmp} {ty : TypeId} {pos : String} {af : Array Edge} {b : Bool}

/-- A new object. -/
def vcXN (P : Program) (ops : Array Oper) (l : List (Oper × Bool)) (K : St → Prop) (e : Nat → V) (σ : List Ob) (h : Nat) (d : Tmp) : Option (List V) → Prop
  | some z => ∀ g, h ≤ g → vcX P ops l K ⟨upd e d (.ptr σ.length 0 0 0), σ ++ [.row g 0 z.length z.length [z]], g + 1⟩
  | none => False
theorem vcXN_some {z : List V} : vcXN P ops l K e σ h d (some z) = ∀ g, h ≤ g → vcX P ops l K ⟨upd e d (.ptr σ.length 0 0 0), σ ++ [.row g 0 z.length z.length [z]], g + 1⟩ := rfl
theorem x_alloc {t : TypeId} : vcX P ops ((⟨some d, .alloc t, ty, pos, af, none⟩, b) :: l) K ⟨e, σ, h⟩ = vcXN P ops l K e σ h d (tZero P t) := by
  cases hz : tZero P t with
  | none =>
    simp only [vcX, vcOp, gd, vcRun, isQuiet, vcE, hz, touched]
    simp [vcXN]
  | some z => rw [vcX_alloc hz]; rfl
def boxQ (v : V) : Option (List V) := if v.isVal = true then some v.cells else none
theorem boxQ_agg {cs : List V} : boxQ (.agg cs) = some cs := rfl
theorem boxQ_t {x : T} : boxQ (.t x) = some [.t x] := rfl
theorem boxQ_nil : boxQ .nil0 = some [.nil0] := rfl
theorem boxQ_fn {f : FuncId} {cs : List V} : boxQ (.fn f cs) = some [.fn f cs] := rfl
theorem boxQ_own {r ver off n : Nat} : boxQ (.own r ver off n) = some [.own r ver off n] := rfl
theorem boxQ_ptr {r ver off n : Nat} : boxQ (.ptr r ver off n) = some [.ptr r ver off n] := rfl
theorem x_box {t : TypeId} {x : Operand} : vcX P ops ((⟨some d, .box t x, ty, pos, af, none⟩, b) :: l) K ⟨e, σ, h⟩ = vcXN P ops l K e σ h d (boxQ (St.eval ⟨e, σ, h⟩ x)) := by
  rw [vcX_box]
  unfold boxQ
  by_cases hv : (St.eval ⟨e, σ, h⟩ x).isVal = true
  · rw [if_pos hv]; simp [hv, vcXN]
  · rw [if_neg hv]; simp [hv, vcXN]

/-- May a slice of so many elements be made? -/
def mkOk (z : List V) (sz bs : Nat) (n m : Int) : Prop := z.length = sz ∧ 0 < sz ∧ 0 ≤ n ∧ n ≤ m ∧ m ≤ 9223372036854775807 ∧ (bs : Int) * m ≤ 281474976710656
def vcXM (P : Program) (ops : Array Oper) (l : List (Oper × Bool)) (K : St → Prop) (e : Nat → V) (σ : List Ob) (h : Nat) (d : Tmp) (osz : Option Nat) (oz : Option (List V)) (obs : Option Nat) (vn vm : V) : Prop := match osz, oz, obs, vn, vm with
  | some sz, some z, some bs, .t (.int _ n), .t (.int _ m) => mkOk z sz bs n m ∧ ∀ g, h ≤ g → vcX P ops l K ⟨upd e d (.own σ.length 0 0 n.toNat), σ ++ [.row g 0 sz (m.toNat * sz) (List.replicate n.toNat z)], g + 1⟩
  | _, _, _, _, _ => False
theorem vcXM_some {sz bs : Nat} {z : List V} {k k' : IntKind} {n m : Int} : vcXM P ops l K e σ h d (some sz) (some z) (some bs) (.t (.int k n)) (.t (.int k' m)) = (mkOk z sz bs n m ∧ ∀ g, h ≤ g → vcX P ops l K ⟨upd e d (.own σ.length 0 0 n.toNat), σ ++ [.row g 0 sz (m.toNat * sz) (List.replicate n.toNat z)], g + 1⟩) := rfl
def ezero (P : Program) (t : TypeId) : Option (List V) := match tElem P t with | some e => tZero P e | none => none
def ebytes (P : Program) (t : TypeId) : Option Nat := match tElem P t with | some e => tBytes P e | none => none
theorem x_makeSlice {t : TypeId} {x y : Operand} : vcX P ops ((⟨some d, .makeSlice t x y, ty, pos, af, none⟩, b) :: l) K ⟨e, σ, h⟩ = vcXM P ops l K e σ h d (esize P t) (ezero P t) (ebytes P t) (St.eval ⟨e, σ, h⟩ x) (St.eval ⟨e, σ, h⟩ y) := by
  simp only [vcX, vcOp, gd, vcRun, isQuiet, vcE, touched, esize, ezero, ebytes]
  cases tElem P t with
  | none => simp [vcXM]
  | some t' =>
    simp only
    cases tSize P t' with
    | none => simp [vcXM]
    | some sz =>
      cases tZero P t' with
      | none => simp [vcXM]
      | some z =>
        cases tBytes P t' with
        | none => simp [vcXM]
        | some bs =>
          generalize St.eval ⟨e, σ, h⟩ x = vx
          generalize St.eval ⟨e, σ, h⟩ y = vy
          cases vx with
          | t a =>
            cases a with
            | int k n =>
              cases vy with
              | t c =>
                cases c with
                | int k' m => simp [vcXM, mkOk, St.put, and_assoc]
                | _ => simp [vcXM]
              | _ => simp [vcXM]
            | _ => simp [vcXM]
          | _ => simp [vcXM]

/-- The objects behind a store. -/
def stQ (P : Program) (σ : List Ob) (t : TypeId) (p x : V) : Option (List Ob) := match tSize P t, p with
  | some n, .ptr r ver i j => (match σ[r]? with
    | some (.row g v sz m es) => (match es[i]? with
      | some el => if ver = v ∧ x.solid = true ∧ x.cells.length = n ∧ j + n ≤ el.length then some (σ.set r (.row g v sz m (es.set i (setV el j x.cells)))) else none
      | none => none)
    | _ => none)
  | _, _ => none
def vcXS (P : Program) (ops : Array Oper) (l : List (Oper × Bool)) (K : St → Prop) (e : Nat → V) (h : Nat) : Option (List Ob) → Prop
  | some σ' => vcX P ops l K ⟨e, σ', h⟩
  | none => False
theorem vcXS_some {σ' : List Ob} : vcXS P ops l K e h (some σ') = vcX P ops l K ⟨e, σ', h⟩ := rfl
theorem x_store {t : TypeId} {p x : Operand} : vcX P ops ((⟨none, .store t p x, ty, pos, af, none⟩, true) :: l) K ⟨e, σ, h⟩ = vcXS P ops l K e h (stQ P σ t (St.eval ⟨e, σ, h⟩ p) (St.eval ⟨e, σ, h⟩ x)) := by
  simp only [vcX, vcOp, gd, vcRun, isQuiet, vcE, touched, stQ]
  generalize St.eval ⟨e, σ, h⟩ p = vp
  cases tSize P t with
  | none => simp [vcXS]
  | some n =>
    cases vp with
    | ptr r ver i j =>
      simp only
      cases hr : σ[r]? with
      | none => simp [vcXS]
      | some o =>
        cases o with
        | map => simp [vcXS]
        | row g v sz m es =>
          simp only
          cases es[i]? with
          | none => simp [vcXS]
          | some el =>
            simp only
            simp only [Bool.false_eq_true, if_false]
            generalize St.eval ⟨e, σ, h⟩ x = vx
            by_cases hc : ver = v ∧ vx.solid = true ∧ vx.cells.length = n ∧ j + n ≤ el.length
            · rw [if_pos hc]
              obtain ⟨h1, h2, h3, h4⟩ := hc
              simp [vcXS, h1, h2, h3, h4, St.put]
            · rw [if_neg hc]
              simp only [vcXS]
              exact eq_false fun hx => hc ⟨hx.2.1, hx.2.2.1, hx.2.2.2.1, hx.2.2.2.2.1⟩
    | _ => simp [vcXS]
end

/-! ### whole numbers -/
theorem w64 {n : Int} (h : -9223372036854775808 ≤ n ∧ n ≤ 9223372036854775807) : IntKind.i64.wrap n = n := by rw [IntKind.wrap_i64]; omega
theorem drop_of_get {α : Type} {l : List α} {n : Nat} {x : α} (h : l[n]? = some x) : l.drop n = x :: l.drop (n + 1) := by
  obtain ⟨h1, h2⟩ := List.getElem?_eq_some_iff.1 h
  rw [List.drop_eq_getElem_cons h1, h2]
theorem drop_get {α : Type} {l : List α} {n : Nat} (h : n < l.length) : l.drop n = l[n] :: l.drop (n + 1) := List.drop_eq_getElem_cons h
end Go.VL
