/- VL, part 15: the quiet operations, one rule each. -/
import Derived.Test.YtlooiifgbiedeaaV14
namespace Go.VL
set_option linter.unusedVariables false
set_option linter.unusedSimpArgs false
section
variable {P : Program} {ops : Array Oper} {l : List (Oper × Bool)} {K : St → Prop} {e : Nat → V} {σ : List Ob} {h : Nat} {d : Tmp} {ty : TypeId} {pos : String} {af : Array Edge} {b : Bool}

theorem x_move {x : Operand} : vcX P ops ((⟨some d, .move x, ty, pos, af, none⟩, b) :: l) K ⟨e, σ, h⟩ = vcX P ops l K ⟨upd e d (St.eval ⟨e, σ, h⟩ x), σ, h⟩ := by rw [vcX_q rfl]; rfl
theorem x_assign {x : Operand} : vcX P ops ((⟨some d, .assign x, ty, pos, af, none⟩, b) :: l) K ⟨e, σ, h⟩ = vcX P ops l K ⟨upd e d (St.eval ⟨e, σ, h⟩ x), σ, h⟩ := by rw [vcX_q rfl]; rfl
theorem x_pick {c x y : Operand} : vcX P ops ((⟨some d, .pick c x y, ty, pos, af, none⟩, b) :: l) K ⟨e, σ, h⟩ = vcXQ P ops l K ⟨e, σ, h⟩ (some d) (match St.eval ⟨e, σ, h⟩ c with | .t (.bool true) => some (St.eval ⟨e, σ, h⟩ x) | .t (.bool false) => some (St.eval ⟨e, σ, h⟩ y) | _ => none) := by rw [vcX_q rfl]; rfl
theorem x_load {t : TypeId} {x : Operand} : vcX P ops ((⟨some d, .load t x, ty, pos, af, none⟩, b) :: l) K ⟨e, σ, h⟩ = vcXQ P ops l K ⟨e, σ, h⟩ (some d) (loadQ P ⟨e, σ, h⟩ t (St.eval ⟨e, σ, h⟩ x)) := by rw [vcX_q rfl]; rfl
theorem x_nilCheck {x : Operand} : vcX P ops ((⟨some d, .nilCheck x, ty, pos, af, none⟩, b) :: l) K ⟨e, σ, h⟩ = vcXQ P ops l K ⟨e, σ, h⟩ (some d) (nilCheckQ ⟨e, σ, h⟩ (St.eval ⟨e, σ, h⟩ x)) := by rw [vcX_q rfl]; rfl
theorem x_bin {op : BinOp} {t t' : TypeId} {x y : Operand} : vcX P ops ((⟨some d, .binOp op t x y t', ty, pos, af, none⟩, b) :: l) K ⟨e, σ, h⟩ = vcXQ P ops l K ⟨e, σ, h⟩ (some d) (opQ P op t (St.eval ⟨e, σ, h⟩ x) (St.eval ⟨e, σ, h⟩ y) (isConst y)) := by rw [vcX_q rfl]; rfl
theorem x_un {op : UnOp} {t : TypeId} {x : Operand} : vcX P ops ((⟨some d, .unOp op t x, ty, pos, af, none⟩, b) :: l) K ⟨e, σ, h⟩ = vcXQ P ops l K ⟨e, σ, h⟩ (some d) (opU op (St.eval ⟨e, σ, h⟩ x)) := by rw [vcX_q rfl]; rfl
theorem x_conv {t t' : TypeId} {x : Operand} : vcX P ops ((⟨some d, .convert t t' x, ty, pos, af, none⟩, b) :: l) K ⟨e, σ, h⟩ = vcXQ P ops l K ⟨e, σ, h⟩ (some d) (convQ P ⟨e, σ, h⟩ t t' (St.eval ⟨e, σ, h⟩ x)) := by rw [vcX_q rfl]; rfl
theorem x_func {f : FuncId} {caps : Array Operand} : vcX P ops ((⟨some d, .makeFunc (.func f) #[] caps, ty, pos, af, none⟩, b) :: l) K ⟨e, σ, h⟩ = vcX P ops l K ⟨upd e d (.fn f (caps.toList.map (St.eval ⟨e, σ, h⟩))), σ, h⟩ := by rw [vcX_q rfl]; rfl
theorem x_fieldAddr {t : TypeId} {x : Operand} {f : Nat} : vcX P ops ((⟨some d, .fieldAddr t x f, ty, pos, af, none⟩, b) :: l) K ⟨e, σ, h⟩ = vcXQ P ops l K ⟨e, σ, h⟩ (some d) (fieldAddrQ P ⟨e, σ, h⟩ t (St.eval ⟨e, σ, h⟩ x) f) := by rw [vcX_q rfl]; rfl
theorem x_field {t : TypeId} {x : Operand} {f : Nat} : vcX P ops ((⟨some d, .field t x f, ty, pos, af, none⟩, b) :: l) K ⟨e, σ, h⟩ = vcXQ P ops l K ⟨e, σ, h⟩ (some d) (fieldQ P t (St.eval ⟨e, σ, h⟩ x) f) := by rw [vcX_q rfl]; rfl
theorem x_indexAddr {t : TypeId} {x i : Operand} : vcX P ops ((⟨some d, .indexAddr t x i, ty, pos, af, none⟩, b) :: l) K ⟨e, σ, h⟩ = vcXQ P ops l K ⟨e, σ, h⟩ (some d) (indexAddrQ P ⟨e, σ, h⟩ t (St.eval ⟨e, σ, h⟩ x) (St.eval ⟨e, σ, h⟩ i)) := by rw [vcX_q rfl]; rfl
theorem x_index {t : TypeId} {x i : Operand} : vcX P ops ((⟨some d, .index t x i, ty, pos, af, none⟩, b) :: l) K ⟨e, σ, h⟩ = vcXQ P ops l K ⟨e, σ, h⟩ (some d) (indexQ P t (St.eval ⟨e, σ, h⟩ x) (St.eval ⟨e, σ, h⟩ i)) := by rw [vcX_q rfl]; rfl
theorem x_extract {x : Operand} {i : Nat} : vcX P ops ((⟨some d, .extract x i, ty, pos, af, none⟩, b) :: l) K ⟨e, σ, h⟩ = vcXQ P ops l K ⟨e, σ, h⟩ (some d) (extractQ (St.eval ⟨e, σ, h⟩ x) i) := by rw [vcX_q rfl]; rfl
theorem x_build {t : TypeId} {parts : Array (Nat × Operand)} : vcX P ops ((⟨some d, .build t parts, ty, pos, af, none⟩, b) :: l) K ⟨e, σ, h⟩ = vcXQ P ops l K ⟨e, σ, h⟩ (some d) (if tFields P t then buildQ P t (parts.toList.map fun p => (p.1, St.eval ⟨e, σ, h⟩ p.2)) else none) := by rw [vcX_q rfl]; rfl
theorem x_slice {t : TypeId} {x : Operand} {lo hi : Option Operand} : vcX P ops ((⟨some d, .slice t x lo hi none, ty, pos, af, none⟩, b) :: l) K ⟨e, σ, h⟩ = vcXQ P ops l K ⟨e, σ, h⟩ (some d) (sliceQ P ⟨e, σ, h⟩ t (St.eval ⟨e, σ, h⟩ x) (lo.map (St.eval ⟨e, σ, h⟩)) (hi.map (St.eval ⟨e, σ, h⟩))) := by rw [vcX_q rfl]; rfl
theorem x_len {t : TypeId} {x : Operand} : vcX P ops ((⟨some d, .call ⟨.builtin .len, #[x], #[t]⟩, ty, pos, af, none⟩, b) :: l) K ⟨e, σ, h⟩ = vcXQ P ops l K ⟨e, σ, h⟩ (some d) (lenQ P ⟨e, σ, h⟩ t (St.eval ⟨e, σ, h⟩ x)) := by rw [vcX_q rfl]; rfl
theorem x_cap {t : TypeId} {x : Operand} : vcX P ops ((⟨some d, .call ⟨.builtin .cap, #[x], #[t]⟩, ty, pos, af, none⟩, b) :: l) K ⟨e, σ, h⟩ = vcXQ P ops l K ⟨e, σ, h⟩ (some d) (capQ P t (St.eval ⟨e, σ, h⟩ x)) := by rw [vcX_q rfl]; rfl
theorem x_max {t : Array TypeId} {x y : Operand} : vcX P ops ((⟨some d, .call ⟨.builtin .max, #[x, y], t⟩, ty, pos, af, none⟩, b) :: l) K ⟨e, σ, h⟩ = vcXQ P ops l K ⟨e, σ, h⟩ (some d) (maxQ (St.eval ⟨e, σ, h⟩ x) (St.eval ⟨e, σ, h⟩ y)) := by
  rw [vcX_q rfl]
  congr 1
theorem x_min {t : Array TypeId} {x y : Operand} : vcX P ops ((⟨some d, .call ⟨.builtin .min, #[x, y], t⟩, ty, pos, af, none⟩, b) :: l) K ⟨e, σ, h⟩ = vcXQ P ops l K ⟨e, σ, h⟩ (some d) (minQ (St.eval ⟨e, σ, h⟩ x) (St.eval ⟨e, σ, h⟩ y)) := by
  rw [vcX_q rfl]
  congr 1

/-! ### operands -/
theorem ev_tmp {s : St} {t : Nat} : s.eval (.tmp t) = s.env t := rfl
theorem ev_int {s : St} {k : IntKind} {n : Int} : s.eval (.const (.int k n)) = .t (.int k n) := rfl
theorem ev_bool {s : St} {t : Bool} : s.eval (.const (.bool t)) = .t (.bool t) := rfl
theorem ev_str {s : St} {x : ByteArray} : s.eval (.const (.string x)) = .t (.str x) := rfl
theorem ev_nil {s : St} : s.eval (.const (.slice none 0 0)) = .nil0 := rfl
theorem ev_err {s : St} : s.eval (.const .nilIface) = .err false := rfl
theorem ev_agg {s : St} {cs : Array Value} : s.eval (.const (.agg cs)) = .agg (cs.toList.map V.ofLeaf) := rfl
theorem ev_func {s : St} {f : Nat} : s.eval (.func f) = .fn f [] := rfl
theorem envOf0 {v : V} {l : List V} : envOf (v :: l) 0 = v := rfl
theorem envOfS {v : V} {l : List V} {n : Nat} : envOf (v :: l) (n + 1) = envOf l n := rfl

/-! ### values -/
/-- The size of a slice type's element. -/
def esize (P : Program) (t : TypeId) : Option Nat := match tElem P t with | some e => tSize P e | none => none
section
variable {s : St} {t : TypeId}
theorem q_at_sl {g : Nat} {es : List (List T)} {k : IntKind} {n : Nat} : indexAddrQ P s t (.t (.sl g es)) (.t (.int k (n : Int))) = match esize P t with
    | some sz => (match es[n]? with | some x => if x.length = sz then some (.fz x 0) else none | none => none)
    | none => none := by
  unfold indexAddrQ esize
  cases tElem P t with
  | none => rfl
  | some t' =>
    simp only
    cases tSize P t' with
    | none => rfl
    | some sz =>
      simp only [Int.toNat_natCast]
      by_cases hn : n < es.length
      · rw [List.getElem?_eq_getElem hn]
        simp [hn]
      · rw [List.getElem?_eq_none (by omega), if_neg (by omega)]
theorem q_at_own {r ver off len : Nat} {k : IntKind} {n : Nat} (h : n < len) : indexAddrQ P s t (.own r ver off len) (.t (.int k (n : Int))) = match esize P t with
    | some sz => (match s.σ[r]? with | some (.row _ v sz' _ _) => if ver = v ∧ sz' = sz then some (.ptr r ver (off + n) 0) else none | _ => none)
    | none => none := by
  unfold indexAddrQ esize
  cases tElem P t with
  | none => rfl
  | some t' =>
    simp only
    cases tSize P t' with
    | none => rfl
    | some sz =>
      simp only [Int.toNat_natCast, Int.natCast_nonneg, true_and, Int.ofNat_lt, h, and_true]
      rfl
theorem q_at_str {x : ByteArray} {k : IntKind} {n : Nat} (h : n < x.size) : indexQ P t (.t (.str x)) (.t (.int k (n : Int))) = if tStr P t = true then some (.t (.int .u8 (byteAt x n))) else none := by
  simp only [indexQ, Int.toNat_natCast, Int.natCast_nonneg, true_and, Int.ofNat_lt, h, and_true]
theorem q_at_sl0 {g : Nat} {es : List (List T)} {k : IntKind} : indexAddrQ P s t (.t (.sl g es)) (.t (.int k 0)) = match esize P t with
    | some sz => (match es[0]? with | some x => if x.length = sz then some (.fz x 0) else none | none => none)
    | none => none := q_at_sl (n := 0)
theorem q_at_own0 {r ver off len : Nat} {k : IntKind} (h : 0 < len) : indexAddrQ P s t (.own r ver off len) (.t (.int k 0)) = match esize P t with
    | some sz => (match s.σ[r]? with | some (.row _ v sz' _ _) => if ver = v ∧ sz' = sz then some (.ptr r ver (off + 0) 0) else none | _ => none)
    | none => none := q_at_own (n := 0) h
theorem q_at_str0 {x : ByteArray} {k : IntKind} (h : 0 < x.size) : indexQ P t (.t (.str x)) (.t (.int k 0)) = if tStr P t = true then some (.t (.int .u8 (byteAt x 0))) else none := q_at_str (n := 0) h
theorem sliceB_none {d y : Nat} : sliceB none d y = some d := rfl
theorem sliceB_nat {k : IntKind} {n d y : Nat} (h : n ≤ y) : sliceB (some (.t (.int k (n : Int)))) d y = some n := by
  simp only [sliceB, Int.toNat_natCast, Int.natCast_nonneg, true_and, Int.ofNat_le, h, if_true]
theorem sliceB_0 {k : IntKind} {d y : Nat} : sliceB (some (.t (.int k 0))) d y = some 0 := sliceB_nat (n := 0) (Nat.zero_le _)
theorem sliceB_1 {k : IntKind} {d y : Nat} (h : 1 ≤ y) : sliceB (some (.t (.int k 1))) d y = some 1 := sliceB_nat (n := 1) h
theorem q_slice_str {x : ByteArray} {lo hi : Option V} : sliceQ P s t (.t (.str x)) lo hi = if tStr P t = true then (match sliceB hi x.size x.size with
      | some h => (match sliceB lo 0 h with | some l => some (.t (.str (x.extract l h))) | none => none)
      | none => none) else none := by
  simp only [sliceQ]
  cases sliceB hi x.size x.size with
  | none => rfl
  | some h => simp only; cases sliceB lo 0 h <;> rfl
end
end
end Go.VL
