/- VL, part 2: operations that change nothing but their own slot: what they give, and that the machine gives it. -/
import Derived.Test.YtlooiifgbiedeaaV1
import Derived.Laws.Cells
import Derived.Laws.IdiomCopy
namespace Go.VL
set_option linter.unusedVariables false
set_option linter.unusedSimpArgs false

section
variable (P : Program)
def tAgg (t : TypeId) : Option Bool := match P.underlying t with
  | some (.struct _) => some true
  | some (.array _ _) => some true
  | some _ => some false
  | none => none
def tSize (t : TypeId) : Option Nat := (P.info? t).map (·.size)
def tElem (t : TypeId) : Option TypeId := match P.underlying t with | some (.slice e) => some e | _ => none
/-- A struct's field: where it begins, its type (none where it takes no cell). -/
def tField (t f : Nat) : Option (Nat × TypeId) := match P.underlying t with
  | some (.struct fs) => match fs[f]? with
    | some x => match tSize P x.type with | some (n + 1) => some (x.offset, x.type) | _ => none
    | none => none
  | _ => none
def tStr (t : TypeId) : Bool := match P.underlying t with | some .string => true | _ => false
def tBool (t : TypeId) : Bool := match P.underlying t with | some .bool => true | _ => false
def tIface (t : TypeId) : Bool := match P.underlying t with | some (.interface _) => true | _ => false
def tInt (t : TypeId) : Option IntKind := match P.underlying t with | some (.int k) => some k | _ => none
end

def V.ofLeaf : Value → V
  | .bool b => .t (.bool b)
  | .int k n => .t (.int k n)
  | .string s => .t (.str s)
  | .slice none 0 0 => .nil0
  | .nilIface => .err false
  | _ => .undef
def V.ofConst : Value → V
  | .agg cs => .agg (cs.toList.map V.ofLeaf)
  | v => V.ofLeaf v
def tZero (P : Program) (t : TypeId) : Option (List V) := match P.info? t with
  | some i => match i.zero with | some z => some (z.cells.toList.map V.ofLeaf) | none => none
  | none => none

theorem VR.ofLeaf (w : World) (X : Nat → Prop) (σ : List Ob) (v : Value) : VR w X σ (V.ofLeaf v) v := by
  unfold V.ofLeaf
  split
  · exact .t (.bool _)
  · exact .t (.int _ _)
  · exact .t (.str _)
  · exact .nil0 _
  · exact .errN
  · exact .undef _
theorem VR.ofConst (w : World) (X : Nat → Prop) (σ : List Ob) (v : Value) : VR w X σ (V.ofConst v) v := by
  unfold V.ofConst
  split
  · rename_i cs
    refine .agg (by simp) (fun i c hc => ?_)
    rw [List.getElem?_map] at hc
    obtain ⟨c0, h0, rfl⟩ := Option.map_eq_some_iff.1 hc
    have : cs.getD i Go.undef = c0 := by simp [Array.getElem?_toList] at h0; simp [h0]
    rw [this]
    exact VR.ofLeaf _ _ _ _
  · exact VR.ofLeaf _ _ _ _

def St.eval (s : St) : Operand → V
  | .tmp t => s.env t
  | .const v => V.ofConst v
  | .func f => .fn f []
  | .global _ => .undef

theorem Inv.eval {w0 : World} {av0 X : Nat → Prop} {N : Nat} {a : Act} {w : World} {s : St} (hi : Inv w0 av0 X N a w s) (x : Operand) : VR w X s.σ (s.eval x) (a.eval x) := by
  cases x with
  | tmp t => exact hi.env t
  | const v => exact VR.ofConst _ _ _ _
  | global g => exact .undef _
  | func f => exact .fn (by simp) (fun i c hc => by simp at hc)

/-- The cells of an element or a variable, from a pointer on. -/
def St.cells (s : St) (p : V) (n : Nat) : Option (List V) := match p with
  | .fz e j => if j + n ≤ e.length then some (((e.drop j).take n).map V.t) else none
  | .ptr r ver i j => match s.σ[r]? with
    | some (.row _ v _ _ es) => if ver = v then match es[i]? with
        | some e => if j + n ≤ e.length then some ((e.drop j).take n) else none
        | none => none
      else none
    | _ => none
  | _ => none

theorem addr_add (b o n : Nat) : (⟨b, o, none⟩ : Addr).add n = ⟨b, o + n, none⟩ := by unfold Addr.add; split <;> simp_all

theorem cell_of_cells {w : World} {g k : Nat} {cs : Array Value} {et : TypeId} {fr : Nat × Nat} (h : w.heap[g]? = some (.cells cs et fr)) : w.cell? ⟨g, k, none⟩ = cs[k]? := by
  simp [World.cell?, h]

/-- Where a pointer's cells lie. -/
theorem Inv.cells {w0 : World} {av0 X : Nat → Prop} {N : Nat} {a : Act} {w : World} {s : St} (hi : Inv w0 av0 X N a w s) {p : V} {n : Nat} {l : List V} {v : Value}
    (h : s.cells p n = some l) (hp : VR w X s.σ p v) : ∃ (b o : Nat) (vs : List Value), v = .pointer (some ⟨b, o, none⟩) ∧ l.length = n ∧ vs.length = n ∧ (∀ (j : Nat) (u : Value), vs[j]? = some u → w.cell? ⟨b, o + j, none⟩ = some u) ∧
      ∀ (j : Nat) (c : V), l[j]? = some c → VR w X s.σ c (vs.getD j Go.undef) := by
  unfold St.cells at h
  split at h
  · rename_i e j
    split at h
    · rename_i hle
      simp only [Option.some.injEq] at h
      subst h
      cases hp with
      | @fz _ _ b off cell hb ha hc hr =>
        refine ⟨b, off + j, (List.range n).map fun k => cell (j + k), rfl, by simp; omega, by simp, fun k u hk => ?_, fun k c hk => ?_⟩
        · rw [List.getElem?_map] at hk
          obtain ⟨k0, h0, rfl⟩ := Option.map_eq_some_iff.1 hk
          obtain ⟨hk1, hk2⟩ := List.getElem?_eq_some_iff.1 h0
          simp at hk1 hk2
          subst hk2
          have : j + k < e.length := by omega
          rw [Nat.add_assoc]
          exact hc (j + k) e[j + k] (List.getElem?_eq_getElem this)
        · rw [List.getElem?_map] at hk
          obtain ⟨t, ht, rfl⟩ := Option.map_eq_some_iff.1 hk
          rw [List.getElem?_take] at ht
          split at ht
          · rename_i hkn
            rw [List.getElem?_drop] at ht
            have := hr (j + k) t ht
            simp [hkn]
            exact .t this
          · cases ht
    · cases h
  · rename_i r ver i j
    split at h
    · rename_i g ver' sz m es hσ
      split at h
      · rename_i hv
        subst hv
        split at h
        · rename_i e he
          split at h
          · rename_i hle
            simp only [Option.some.injEq] at h
            subst h
            cases hp with
            | @ptr _ _ _ _ g2 v2 sz2 n2 es2 _ h2 hv2 h1c hp2 =>
              rw [hσ] at h2
              simp only [Option.some.injEq, Ob.row.injEq] at h2
              obtain ⟨rfl, rfl, rfl, rfl, rfl⟩ := h2
              obtain ⟨cs, et, h3, h4, h5, h6⟩ := hi.hp.obj r _ hσ
              obtain ⟨h7, h8⟩ := h6 i e he
              have hil : i < es.length := (List.getElem?_eq_some_iff.1 he).1
              have hcs : i * sz + sz ≤ cs.size := by rw [h4]; refine Nat.le_trans ?_ h5; rw [← Nat.succ_mul]; exact Nat.mul_le_mul_right _ hil
              refine ⟨g, i * sz + j, (List.range n).map fun k => cs.getD (i * sz + j + k) Go.undef, hp2 rfl, by simp; omega, by simp, fun k u hk => ?_, fun k c hk => ?_⟩
              · rw [List.getElem?_map] at hk
                obtain ⟨k0, h0, rfl⟩ := Option.map_eq_some_iff.1 hk
                obtain ⟨hk1, hk2⟩ := List.getElem?_eq_some_iff.1 h0
                simp at hk1 hk2
                subst hk2
                rw [cell_of_cells h3]
                have : i * sz + j + k < cs.size := by omega
                simp [this]
              · rw [List.getElem?_take] at hk
                split at hk
                · rename_i hkn
                  rw [List.getElem?_drop] at hk
                  have := h8 (j + k) c hk
                  simp only [← Nat.add_assoc] at this
                  simpa [hkn] using this
                · cases hk
          · cases h
        · cases h
      · cases h
    · cases h
  · cases h

theorem run_typeInfo {P : Program} {w : World} {t : TypeId} {i : TypeInfo} (h : P.info? t = some i) : (typeInfo t).run P w = .ok i w := by simp [typeInfo, h]
theorem run_underlying {P : Program} {w : World} {t : TypeId} {d : TypeDesc} (h : P.underlying t = some d) : (underlying t).run P w = .ok d w := by simp [underlying, h]
theorem run_sizeOf {P : Program} {w : World} {t n : Nat} (h : tSize P t = some n) : (sizeOf t).run P w = .ok n w := by
  unfold tSize at h
  obtain ⟨i, hi, rfl⟩ := Option.map_eq_some_iff.1 h
  simp [sizeOf, run_typeInfo hi]
theorem run_isAgg {P : Program} {w : World} {t : TypeId} {b : Bool} (h : tAgg P t = some b) : (isAgg t).run P w = .ok b w := by
  unfold tAgg at h
  cases hu : P.underlying t with
  | none => simp [hu] at h
  | some d =>
    simp only [hu] at h
    cases d <;> simp [isAgg, run_underlying hu] at h ⊢ <;> exact h

/-- A variable's value out of its cells. -/
def V.ofCells (P : Program) (t : TypeId) (l : List V) : Option V := match tAgg P t with
  | some true => some (.agg l)
  | some false => match l with | [v] => some v | _ => none
  | none => none

def loadQ (P : Program) (s : St) (t : TypeId) (p : V) : Option V := match tSize P t, tAgg P t with
  | some n, some true => match s.cells p n with | some l => some (.agg l) | none => none
  | some _, some false => match s.cells p 1 with | some [v] => some v | _ => none
  | _, _ => none

theorem loadQ_sound {P : Program} {w0 : World} {av0 X : Nat → Prop} {N : Nat} {a : Act} {w : World} {s : St} (hi : Inv w0 av0 X N a w s) {t : TypeId} {p v : V} {x : Value}
    (h : loadQ P s t p = some v) (hp : VR w X s.σ p x) : ∃ val, (Instr.loadAt t x).run P w = .ok val w ∧ VR w X s.σ v val := by
  unfold loadQ at h
  split at h
  · rename_i n hn ha
    split at h
    · rename_i l hl
      simp only [Option.some.injEq] at h
      subst h
      obtain ⟨b, o, vs, rfl, h1, h2, h3, h4⟩ := hi.cells hl hp
      have hld := run_loadCells_list (P := P) w ⟨b, o, none⟩ vs (fun j u hu => by rw [addr_add]; exact h3 j u hu)
      refine ⟨.agg vs.toArray, ?_, .agg (by simp; omega) (fun i c hc => by simpa using h4 i c hc)⟩
      rw [h2] at hld
      simp [Instr.loadAt, Instr.sureAddr, loadVar, run_isAgg ha, run_sizeOf hn, hld]
    · cases h
  · rename_i n hn ha
    split at h
    · rename_i v' hl
      simp only [Option.some.injEq] at h
      subst h
      obtain ⟨b, o, vs, rfl, h1, h2, h3, h4⟩ := hi.cells hl hp
      obtain ⟨u, rfl⟩ : ∃ u, vs = [u] := by
        match vs, h2 with
        | [u], _ => exact ⟨u, rfl⟩
      have h0 := h3 0 u rfl
      simp only [Nat.add_zero] at h0
      refine ⟨u, ?_, by simpa using h4 0 v' rfl⟩
      simp [Instr.loadAt, Instr.sureAddr, loadVar, run_isAgg ha, h0]
    · cases h
  · cases h

/-! ### whole numbers, strings, bools -/
def bvBack (k : IntKind) (r : BitVec k.bits) : V := .t (.int k (k.wrap r.toNat))
def opI (op : BinOp) (k : IntKind) (a b : Int) : Option V := match op with
  | .add => some (.t (.int k (k.wrap (a + b))))
  | .sub => some (.t (.int k (k.wrap (a - b))))
  | .mul => some (.t (.int k (k.wrap (a * b))))
  | .quo => if b = 0 then none else some (.t (.int k (k.wrap (a.tdiv b))))
  | .rem => if b = 0 then none else some (.t (.int k (a.tmod b)))
  | .and => some (bvBack k (BitVec.ofInt k.bits a &&& BitVec.ofInt k.bits b))
  | .or => some (bvBack k (BitVec.ofInt k.bits a ||| BitVec.ofInt k.bits b))
  | .xor => some (bvBack k (BitVec.ofInt k.bits a ^^^ BitVec.ofInt k.bits b))
  | .andNot => none
  | .eql => some (.t (.bool (a == b)))
  | .neq => some (.t (.bool (a != b)))
  | .lss => some (.t (.bool (decide (a < b))))
  | .leq => some (.t (.bool (decide (a ≤ b))))
  | .gtr => some (.t (.bool (decide (a > b))))
  | .geq => some (.t (.bool (decide (a ≥ b))))
  | _ => none
def opSh (op : BinOp) (k : IntKind) (a b : Int) : Option V := if b < 0 then none else match op with
  | .shl => some (.t (.int k (k.wrap (a * 2 ^ (min b.toNat k.bits)))))
  | .shr => some (.t (.int k (a.fdiv (2 ^ (min b.toNat k.bits)))))
  | _ => none
def isSh : BinOp → Bool | .shl => true | .shr => true | _ => false
def opStr (op : BinOp) (a b : ByteArray) : Option V := match op with
  | .add => if ((a.size + b.size : Nat) : Int) > IntKind.i64.max then none else some (.t (.str (a ++ b)))
  | .eql => some (.t (.bool (decide (a = b))))
  | .neq => some (.t (.bool (decide (a ≠ b))))
  | _ => none
def opQ (P : Program) (op : BinOp) (t : TypeId) (x y : V) (yc : Bool) : Option V := match x, y with
  | .t (.int k a), .t (.int k' b) => if isSh op then opSh op k a b else if k = k' then opI op k a b else none
  | .t (.str a), .t (.str b) => opStr op a b
  | .t (.bool a), .t (.bool b) => if tBool P t then match op with
      | .eql => some (.t (.bool (a == b)))
      | .neq => some (.t (.bool (!(a == b))))
      | _ => none else none
  | .err b, .err false => if yc && tIface P t then match op with
      | .eql => some (.t (.bool (!b)))
      | .neq => some (.t (.bool b))
      | _ => none else none
  | _, _ => none

theorem bytes_toList (a : ByteArray) : a.toList = a.data.toList := by
  have key : ∀ (n i : Nat) (r : List UInt8), a.size - i = n → ByteArray.toList.loop a i r = r.reverse ++ a.data.toList.drop i := by
    intro n
    induction n with
    | zero =>
      intro i r h
      unfold ByteArray.toList.loop
      have : a.data.size ≤ i := by have : a.size = a.data.size := rfl; omega
      rw [if_neg (by omega), List.drop_of_length_le (by simpa using this)]
      simp
    | succ n ih =>
      intro i r h
      unfold ByteArray.toList.loop
      have hlt : i < a.data.size := by have : a.size = a.data.size := rfl; omega
      rw [if_pos (by omega), ih (i + 1) _ (by omega)]
      have h2 : a.data.toList.drop i = a.data[i] :: a.data.toList.drop (i + 1) := by
        rw [List.drop_eq_getElem_cons (by simpa using hlt)]
        simp
      rw [h2]
      have h3 : a.get! i = a.data[i] := by unfold ByteArray.get!; exact getElem!_pos a.data i hlt
      simp [h3]
  simpa [ByteArray.toList] using key a.size 0 [] (by simp)
theorem bytes_beq (a b : ByteArray) : (a.toList == b.toList) = decide (a = b) := by
  rw [Bool.eq_iff_iff]
  simp only [beq_iff_eq, decide_eq_true_eq, bytes_toList]
  exact ⟨fun h => by cases a; cases b; simp at h; exact congrArg _ h, fun h => by rw [h]⟩

theorem opI_sound {P : Program} {w : World} {op : BinOp} {k : IntKind} {a b : Int} {t : TypeId} {v : V} (hs : isSh op = false) (h : opI op k a b = some v) :
    ∃ x, v = .t x ∧ ∃ y, (binOp op t (.int k a) (.int k b)).run P w = .ok y w ∧ ∀ av, FR w av x y := by
  cases op
  case add => simp only [opI, Option.some.injEq] at h; subst h; exact ⟨_, rfl, .int k (k.wrap (a + b)), by simp [binOp, Op.intArith], fun _ => .int _ _⟩
  case sub => simp only [opI, Option.some.injEq] at h; subst h; exact ⟨_, rfl, .int k (k.wrap (a - b)), by simp [binOp, Op.intArith], fun _ => .int _ _⟩
  case mul => simp only [opI, Option.some.injEq] at h; subst h; exact ⟨_, rfl, .int k (k.wrap (a * b)), by simp [binOp, Op.intArith], fun _ => .int _ _⟩
  case quo =>
    simp only [opI] at h
    split at h
    · cases h
    · rename_i hb
      simp only [Option.some.injEq] at h; subst h; exact ⟨_, rfl, .int k (k.wrap (a.tdiv b)), by simp [binOp, Op.intDiv, hb], fun _ => .int _ _⟩
  case rem =>
    simp only [opI] at h
    split at h
    · cases h
    · rename_i hb
      simp only [Option.some.injEq] at h; subst h; exact ⟨_, rfl, .int k (a.tmod b), by simp [binOp, Op.intDiv, hb], fun _ => .int _ _⟩
  case and => simp only [opI, Option.some.injEq] at h; subst h; exact ⟨_, rfl, .int k _, by simp [binOp, Op.intBits], fun _ => .int _ _⟩
  case or => simp only [opI, Option.some.injEq] at h; subst h; exact ⟨_, rfl, .int k _, by simp [binOp, Op.intBits], fun _ => .int _ _⟩
  case xor => simp only [opI, Option.some.injEq] at h; subst h; exact ⟨_, rfl, .int k _, by simp [binOp, Op.intBits], fun _ => .int _ _⟩
  case eql => simp only [opI, Option.some.injEq] at h; subst h; exact ⟨_, rfl, .bool (a == b), by simp [binOp, Op.intCmp], fun _ => .bool _⟩
  case neq => simp only [opI, Option.some.injEq] at h; subst h; exact ⟨_, rfl, .bool (a != b), by simp [binOp, Op.intCmp], fun _ => .bool _⟩
  case lss => simp only [opI, Option.some.injEq] at h; subst h; exact ⟨_, rfl, .bool (decide (a < b)), by simp [binOp, Op.intCmp], fun _ => .bool _⟩
  case leq => simp only [opI, Option.some.injEq] at h; subst h; exact ⟨_, rfl, .bool (decide (a ≤ b)), by simp [binOp, Op.intCmp], fun _ => .bool _⟩
  case gtr => simp only [opI, Option.some.injEq] at h; subst h; exact ⟨_, rfl, .bool (decide (a > b)), by simp [binOp, Op.intCmp], fun _ => .bool _⟩
  case geq => simp only [opI, Option.some.injEq] at h; subst h; exact ⟨_, rfl, .bool (decide (a ≥ b)), by simp [binOp, Op.intCmp], fun _ => .bool _⟩
  all_goals (first | (simp [opI] at h; done) | (simp [isSh] at hs; done))

theorem run_equal_bool {P : Program} {w : World} {t : TypeId} (hu : P.underlying t = some .bool) (a b : Bool) : (Op.equal t (.bool a) (.bool b)).run P w = .ok (a == b) w := by
  have key : ∀ d, (Op.equalIn (d + 1) t (.bool a) (.bool b)).run P w = .ok (a == b) w := fun d => by
    simp [Op.equalIn, run_underlying hu]
  exact key 9999
theorem run_equal_nil {P : Program} {w : World} {t : TypeId} {ms : Array (String × TypeId)} (hu : P.underlying t = some (.interface ms)) : (Op.equal t .nilIface .nilIface).run P w = .ok true w := by
  have key : ∀ d, (Op.equalIn (d + 1) t .nilIface .nilIface).run P w = .ok true w := fun d => by
    simp [Op.equalIn, run_underlying hu]
  exact key 9999
theorem run_equal_some {P : Program} {w : World} {t : TypeId} {ms : Array (String × TypeId)} (hu : P.underlying t = some (.interface ms)) (t' : TypeId) (v' : Value) : (Op.equal t (.iface t' v') .nilIface).run P w = .ok false w := by
  have key : ∀ d, (Op.equalIn (d + 1) t (.iface t' v') .nilIface).run P w = .ok false w := fun d => by
    simp [Op.equalIn, run_underlying hu]
  exact key 9999

theorem opQ_sound {P : Program} {w : World} {X : Nat → Prop} {σ : List Ob} {op : BinOp} {t : TypeId} {x y v : V} {ox oy : Operand} {vx vy : Value} (hx : VR w X σ x vx) (hy : VR w X σ y vy)
    {yc : Bool} (hyc : yc = true → ∃ c, oy = .const c)
    (h : opQ P op t x y yc = some v) : ∃ val, (do eqGuard op t ox oy vx vy; binOp op t vx vy : Sem Value).run P w = .ok val w ∧ VR w X σ v val := by
  unfold opQ at h
  split at h
  · rename_i k a k' b
    cases hx with
    | t hx =>
    cases hy with
    | t hy =>
    cases hx
    cases hy
    have hg : (eqGuard op t ox oy (.int k a) (.int k' b)).run P w = .ok () w := by
      unfold eqGuard
      split <;> rfl
    split at h
    · rename_i hsh
      unfold opSh at h
      split at h
      · cases h
      · rename_i hb
        cases op <;> simp only [isSh, Bool.false_eq_true] at hsh <;> simp only [Option.some.injEq] at h <;> subst h <;>
          exact ⟨_, by simp [hg, binOp, Op.shift, hb], .t (.int _ _)⟩
    · rename_i hsh
      split at h
      · rename_i hk
        subst hk
        obtain ⟨z, rfl, y, h1, h2⟩ := opI_sound (P := P) (w := w) (t := t) (by simpa using hsh) h
        exact ⟨y, by simp [hg, h1], .t (h2 _)⟩
      · cases h
  · rename_i a b
    cases hx with
    | t hx =>
    cases hy with
    | t hy =>
    cases hx
    cases hy
    have hg : (eqGuard op t ox oy (.string a) (.string b)).run P w = .ok () w := by
      unfold eqGuard
      split <;> rfl
    unfold opStr at h
    split at h
    · split at h
      · cases h
      · rename_i hb
        simp only [Option.some.injEq] at h
        subst h
        exact ⟨_, by simp only [Sem.run_bind, hg, Result.andThen_ok, binOp, Op.stringOp, if_neg hb]; rfl, .t (.str _)⟩
    · simp only [Option.some.injEq] at h
      subst h
      exact ⟨_, by simp only [Sem.run_bind, hg, Result.andThen_ok, binOp, Op.stringOp, bytes_beq]; rfl, .t (.bool _)⟩
    · simp only [Option.some.injEq] at h
      subst h
      exact ⟨_, by simp only [Sem.run_bind, hg, Result.andThen_ok, binOp, Op.stringOp, bytes_beq, ← decide_not]; rfl, .t (.bool _)⟩
    · cases h
  · rename_i a b
    cases hx with
    | t hx =>
    cases hy with
    | t hy =>
    cases hx
    cases hy
    have hg : (eqGuard op t ox oy (.bool a) (.bool b)).run P w = .ok () w := by
      unfold eqGuard
      split <;> rfl
    split at h
    · rename_i ht
      unfold tBool at ht
      have hu : P.underlying t = some .bool := by
        revert ht
        split <;> simp_all
      have he : (Op.equal t (.bool a) (.bool b)).run P w = .ok (a == b) w := run_equal_bool hu a b
      split at h
      · simp only [Option.some.injEq] at h
        subst h
        exact ⟨_, by simp [hg, binOp, he], .t (.bool _)⟩
      · simp only [Option.some.injEq] at h
        subst h
        exact ⟨_, by simp [hg, binOp, he], .t (.bool _)⟩
      · cases h
    · cases h
  · rename_i b
    split at h
    · rename_i ht
      have ht := Bool.and_eq_true_iff.mp ht
      obtain ⟨hc, ht⟩ := ht
      unfold tIface at ht
      obtain ⟨ms, hu⟩ : ∃ ms, P.underlying t = some (.interface ms) := by
        revert ht
        split <;> simp_all
      cases hy with
      | errN =>
      cases hx with
      | errN =>
        have hg : (eqGuard op t ox oy .nilIface .nilIface).run P w = .ok () w := by
          obtain ⟨c, rfl⟩ := hyc hc
          unfold eqGuard
          cases ox <;> cases op <;> simp
        have he : (Op.equal t .nilIface .nilIface).run P w = .ok true w := run_equal_nil hu
        split at h
        · simp only [Option.some.injEq] at h
          subst h
          exact ⟨_, by simp [hg, binOp, he], .t (.bool _)⟩
        · simp only [Option.some.injEq] at h
          subst h
          exact ⟨_, by simp [hg, binOp, he], .t (.bool _)⟩
        · cases h
      | errS t' v' =>
        have hg : (eqGuard op t ox oy (.iface t' v') .nilIface).run P w = .ok () w := by
          unfold eqGuard
          split <;> rfl
        have he : (Op.equal t (.iface t' v') .nilIface).run P w = .ok false w := run_equal_some hu _ _
        split at h
        · simp only [Option.some.injEq] at h
          subst h
          exact ⟨_, by simp [hg, binOp, he], .t (.bool _)⟩
        · simp only [Option.some.injEq] at h
          subst h
          exact ⟨_, by simp [hg, binOp, he], .t (.bool _)⟩
        · cases h
    · cases h
  · cases h
end Go.VL
