/- VL, part 3: the other quiet operations; 'evalQ': what a quiet operation gives; that the machine gives it. -/
import Derived.Test.YtlooiifgbiedeaaV2
import Derived.Laws.BytesArg
namespace Go.VL
set_option linter.unusedVariables false
set_option linter.unusedSimpArgs false

theorem VR.int_inv {w : World} {X : Nat → Prop} {σ : List Ob} {k : IntKind} {n : Int} {v : Value} (h : VR w X σ (.t (.int k n)) v) : v = .int k n := by
  cases h with
  | t h => cases h; rfl
theorem VR.bool_inv {w : World} {X : Nat → Prop} {σ : List Ob} {b : Bool} {v : Value} (h : VR w X σ (.t (.bool b)) v) : v = .bool b := by
  cases h with
  | t h => cases h; rfl
theorem VR.str_inv {w : World} {X : Nat → Prop} {σ : List Ob} {s : ByteArray} {v : Value} (h : VR w X σ (.t (.str s)) v) : v = .string s := by
  cases h with
  | t h => cases h; rfl

def opU (op : UnOp) (x : V) : Option V := match op, x with
  | .not, .t (.bool b) => some (.t (.bool (!b)))
  | .neg, .t (.int k n) => some (.t (.int k (k.wrap (0 - n))))
  | _, _ => none
theorem opU_sound {P : Program} {w : World} {X : Nat → Prop} {σ : List Ob} {op : UnOp} {x v : V} {vx : Value} (hx : VR w X σ x vx) (h : opU op x = some v) :
    ∃ val, (Op.unary op vx).run P w = .ok val w ∧ VR w X σ v val := by
  unfold opU at h
  split at h
  · simp only [Option.some.injEq] at h
    subst h
    cases hx with
    | t hx =>
    cases hx
    exact ⟨_, rfl, .t (.bool _)⟩
  · simp only [Option.some.injEq] at h
    subst h
    cases hx with
    | t hx =>
    cases hx
    exact ⟨_, rfl, .t (.int _ _)⟩
  · cases h

/-- The object that a value leads to at once. -/
def V.root : V → Option Nat
  | .own r .. => some r
  | .ptr r .. => some r
  | .map r => some r
  | _ => none
/-- Is a pointer or a slice into one's own objects of the object's last version? -/
def St.live (s : St) : V → Bool
  | .own r ver _ _ => match s.σ[r]? with | some (.row _ v _ _ _) => ver == v | _ => false
  | .ptr r ver _ _ => match s.σ[r]? with | some (.row _ v _ _ _) => ver == v | _ => false
  | _ => true

/-- The numbers of a row of bytes. -/
def numsOf : List (List V) → Option (List Int)
  | [] => some []
  | [.t (.int .u8 n)] :: l => match numsOf l with | some r => some (n :: r) | none => none
  | _ => none
/-- The elements of a slice of one's own. -/
def St.elems (s : St) : V → Option (List (List V))
  | .own r ver off len => match s.σ[r]? with
    | some (.row _ v _ _ es) => if ver = v then some ((es.drop off).take len) else none
    | _ => none
  | .nil0 => some []
  | .t (.sl _ es) => some (es.map (·.map V.t))
  | _ => none

/-- The cells behind a slice. -/
theorem Inv.elems {w0 : World} {av0 X : Nat → Prop} {N : Nat} {a : Act} {w : World} {s : St} (hi : Inv w0 av0 X N a w s) {p : V} {l : List (List V)} {v : Value}
    (h : s.elems p = some l) (hp : VR w X s.σ p v) : ∃ (ao : Option Addr) (c : Nat), v = .slice ao l.length c ∧ l.length ≤ c ∧
      (l ≠ [] → ∃ (g o sz : Nat), ao = some ⟨g, o, none⟩ ∧ g < w.heap.size ∧ ∃ cell : Nat → Nat → Value, ∀ (i : Nat) (e : List V), l[i]? = some e → e.length = sz ∧
        ∀ (j : Nat) (x : V), e[j]? = some x → w.cell? ⟨g, o + i * sz + j, none⟩ = some (cell i j) ∧ VR w X s.σ x (cell i j)) := by
  unfold St.elems at h
  split at h
  · rename_i r ver off len
    split at h
    · rename_i g ver' sz m es hσ
      split at h
      · rename_i hv
        subst hv
        simp only [Option.some.injEq] at h
        subst h
        cases hp with
        | @own _ _ _ _ g2 v2 sz2 n2 es2 _ h2 hv2 h1c hp2 =>
          rw [hσ] at h2
          simp only [Option.some.injEq, Ob.row.injEq] at h2
          obtain ⟨rfl, rfl, rfl, rfl, rfl⟩ := h2
          obtain ⟨c, rfl, hc1, hc2, hc3⟩ := hp2 rfl
          obtain ⟨cs, et, h3, h4, h5, h6⟩ := hi.hp.obj r _ hσ
          have hll : ((es.drop off).take len).length = len := by simp; omega
          refine ⟨some ⟨g, off * sz, none⟩, c, by rw [hll], by rw [hll]; exact hc1, fun hne => ⟨g, off * sz, sz, rfl, (Array.getElem?_eq_some_iff.1 h3).1, fun i j => cs.getD ((off + i) * sz + j) Go.undef, fun i e he => ?_⟩⟩
          rw [List.getElem?_take] at he
          split at he
          · rename_i hil
            rw [List.getElem?_drop] at he
            obtain ⟨h7, h8⟩ := h6 (off + i) e he
            refine ⟨h7, fun j x hx => ⟨?_, h8 j x hx⟩⟩
            have hjl := (List.getElem?_eq_some_iff.1 hx).1
            have hil2 := (List.getElem?_eq_some_iff.1 he).1
            have hcs : (off + i) * sz + sz ≤ cs.size := by rw [h4]; refine Nat.le_trans ?_ h5; rw [← Nat.succ_mul]; exact Nat.mul_le_mul_right _ hil2
            rw [cell_of_cells h3]
            have e1 : off * sz + i * sz + j = (off + i) * sz + j := by rw [Nat.add_mul]
            have e2 : (off + i) * sz + j < cs.size := by omega
            rw [e1]
            simp [e2]
          · cases he
      · cases h
    · cases h
  · simp only [Option.some.injEq] at h
    subst h
    cases hp with
    | nil0 a => exact ⟨a, 0, rfl, by simp, fun hne => absurd rfl hne⟩
  · rename_i g es
    simp only [Option.some.injEq] at h
    subst h
    cases hp with
    | t hp =>
      cases hp with
      | nil g a c => exact ⟨a, c, rfl, by simp, fun hne => absurd rfl hne⟩
      | sl g es off c sz cell hc hg ha hl hcell hr =>
        refine ⟨some ⟨g, off, none⟩, c, by simp, by simpa using hc, fun hne => ⟨g, off, sz, rfl, hg, cell, fun i e he => ?_⟩⟩
        rw [List.getElem?_map] at he
        obtain ⟨e0, he0, rfl⟩ := Option.map_eq_some_iff.1 he
        refine ⟨by simpa using hl i e0 he0, fun j x hx => ?_⟩
        rw [List.getElem?_map] at hx
        obtain ⟨t0, ht0, rfl⟩ := Option.map_eq_some_iff.1 hx
        exact ⟨hcell i j e0 t0 he0 ht0, .t (hr i j e0 t0 he0 ht0)⟩
  · cases h

theorem numsOf_spec : ∀ (l : List (List V)) (bs : List Int), numsOf l = some bs → l = bs.map fun n => [.t (.int .u8 n)]
  | [], bs, h => by
    simp only [numsOf, Option.some.injEq] at h
    subst h
    rfl
  | e :: l, bs, h => by
    unfold numsOf at h
    split at h
    · rename_i heq
      cases heq
    · rename_i n l' heq
      simp only [List.cons.injEq] at heq
      obtain ⟨rfl, rfl⟩ := heq
      split at h
      · rename_i r hr
        simp only [Option.some.injEq] at h
        subst h
        rw [numsOf_spec l r hr]
        rfl
      · cases h
    · cases h
theorem numsOf_map (bs : List Int) : numsOf (bs.map fun n => [.t (.int .u8 n)]) = some bs := by
  induction bs with
  | nil => rfl
  | cons n l ih => simp only [List.map_cons, numsOf, ih]

def convQ (P : Program) (s : St) (src dst : TypeId) (x : V) : Option V := match x with
  | .t (.int k n) => match tInt P dst with | some k' => if (P.underlying src).isSome then some (.t (.int k' (k'.wrap n))) else none | none => none
  | .t (.str b) => if (P.underlying src).isSome && tStr P dst then some (.t (.str b)) else none
  | _ => match tElem P src with
    | some e => match tInt P e, tStr P dst, s.elems x with
      | some .u8, true, some l => match numsOf l with | some bs => some (.t (.str (strOfNums bs))) | none => none
      | _, _, _ => none
    | none => none

theorem tInt_spec {P : Program} {t : TypeId} {k : IntKind} (h : tInt P t = some k) : P.underlying t = some (.int k) := by
  unfold tInt at h
  split at h
  · rename_i k' hu
    simp only [Option.some.injEq] at h
    subst h
    exact hu
  · cases h
theorem tStr_spec {P : Program} {t : TypeId} (h : tStr P t = true) : P.underlying t = some .string := by
  unfold tStr at h
  split at h
  · assumption
  · cases h
theorem tElem_spec {P : Program} {t e : TypeId} (h : tElem P t = some e) : P.underlying t = some (.slice e) := by
  unfold tElem at h
  split at h
  · rename_i k' hu
    simp only [Option.some.injEq] at h
    subst h
    exact hu
  · cases h

theorem convQ_sound {P : Program} {w0 : World} {av0 X : Nat → Prop} {N : Nat} {a : Act} {w : World} {s : St} (hi : Inv w0 av0 X N a w s) {src dst : TypeId} {x v : V} {vx : Value}
    (h : convQ P s src dst x = some v) (hx : VR w X s.σ x vx) : ∃ val, (convert src dst vx).run P w = .ok val w ∧ VR w X s.σ v val := by
  unfold convQ at h
  split at h
  · rename_i k n
    cases hx with
    | t hx =>
    cases hx
    split at h
    · rename_i k' hk
      split at h
      · rename_i hs
        simp only [Option.some.injEq] at h
        subst h
        obtain ⟨d, hd⟩ := Option.isSome_iff_exists.1 hs
        refine ⟨.int k' (k'.wrap n), ?_, .t (.int _ _)⟩
        simp only [convert, Sem.run_bind, run_underlying hd, run_underlying (tInt_spec hk), Result.andThen_ok]
        cases d <;> rfl
      · cases h
    · cases h
  · rename_i b
    cases hx with
    | t hx =>
    cases hx
    split at h
    · rename_i hs
      obtain ⟨hs1, hs2⟩ := Bool.and_eq_true_iff.mp hs
      simp only [Option.some.injEq] at h
      subst h
      obtain ⟨d, hd⟩ := Option.isSome_iff_exists.1 hs1
      refine ⟨.string b, ?_, .t (.str _)⟩
      simp only [convert, Sem.run_bind, run_underlying hd, run_underlying (tStr_spec hs2), Result.andThen_ok]
      cases d <;> rfl
    · cases h
  · split at h
    · rename_i e he
      split at h
      · rename_i l hk hs hl
        split at h
        · rename_i bs hbs
          simp only [Option.some.injEq] at h
          subst h
          obtain ⟨ao, c, rfl, hc, hcell⟩ := hi.elems hl hx
          have hlb := numsOf_spec l bs hbs
          refine ⟨.string (strOfNums bs), ?_, .t (.str _)⟩
          cases bs with
          | nil =>
            subst hlb
            cases ao with
            | none =>
              rw [run_convert_bytes_nil w src e (tElem_spec he) (tInt_spec hk) _ _ dst (tStr_spec hs)]
              rfl
            | some ad =>
              obtain ⟨b, o, sp⟩ := ad
              rw [run_convert_bytes_string w src dst e _ _ c (tElem_spec he) (tInt_spec hk) (tStr_spec hs), run_bytesToString w _ _ c [] (by simp [loadCells, loadCellsFrom])]
              rfl
          | cons n0 bs0 =>
            obtain ⟨g, o, sz, rfl, hg, cell, hcc⟩ := hcell (by rw [hlb]; simp)
            have hlen : (n0 :: bs0).length = l.length := by rw [hlb]; simp
            refine run_convert_bytes_arg w src e (tElem_spec he) (tInt_spec hk) g o l.length c (n0 :: bs0) hlen (fun i hi' => ?_) dst (tStr_spec hs)
            have hib : i < (n0 :: bs0).length := by omega
            have h1 := hcc i [.t (.int .u8 (n0 :: bs0)[i])] (by rw [hlb, List.getElem?_map, List.getElem?_eq_getElem hib]; rfl)
            obtain ⟨h2, h3⟩ := h1
            obtain ⟨h4, h5⟩ := h3 0 _ rfl
            have hsz : sz = 1 := by simpa using h2.symm
            subst hsz
            rw [Nat.mul_one, Nat.add_zero] at h4
            rw [h4]
            have h6 : cell i 0 = .int .u8 (n0 :: bs0)[i] := h5.int_inv
            rw [h6, List.getD_eq_getElem?_getD, List.getElem?_eq_getElem hib]
            rfl
        · cases h
      · cases h
    · cases h

/-! ### parts of values -/
def fieldAddrQ (P : Program) (s : St) (t : TypeId) (x : V) (f : Nat) : Option V := match tField P t f, x with
  | some (off, _), .ptr r ver i j => if s.live (.ptr r ver i j) then some (.ptr r ver i (j + off)) else none
  | some (off, _), .fz e j => some (.fz e (j + off))
  | _, _ => none

theorem tField_spec {P : Program} {t f off ft : Nat} (h : tField P t f = some (off, ft)) : ∃ (fs : Array Field) (x : Field) (n : Nat), P.underlying t = some (.struct fs) ∧ fs[f]? = some x ∧ x.offset = off ∧ x.type = ft ∧ tSize P ft = some (n + 1) := by
  unfold tField at h
  split at h
  · rename_i fs hu
    split at h
    · rename_i x hx
      split at h
      · rename_i n hn
        simp only [Option.some.injEq, Prod.mk.injEq] at h
        obtain ⟨rfl, rfl⟩ := h
        exact ⟨fs, x, n, hu, hx, rfl, rfl, hn⟩
      · cases h
    · cases h
  · cases h

theorem fieldAddrQ_sound {P : Program} {w0 : World} {av0 X : Nat → Prop} {N : Nat} {a : Act} {w : World} {s : St} (hi : Inv w0 av0 X N a w s) {t : TypeId} {x v : V} {f : Nat} {vx : Value}
    (h : fieldAddrQ P s t x f = some v) (hx : VR w X s.σ x vx) : ∃ val, (Instr.fieldAt t vx f).run P w = .ok val w ∧ VR w X s.σ v val := by
  unfold fieldAddrQ at h
  split at h
  · rename_i off ft r ver i j hf
    obtain ⟨fs, x, n, hu, hfx, rfl, rfl, hn⟩ := tField_spec hf
    split at h
    · rename_i hlive
      simp only [Option.some.injEq] at h
      subst h
      cases hx with
      | @ptr _ _ _ _ g v2 sz2 n2 es2 _ h2 hv2 h1c hp2 =>
        have hv : ver = v2 := by simpa [St.live, h2] using hlive
        subst hv
        rw [hp2 rfl]
        refine ⟨.pointer (some ⟨g, i * sz2 + (j + x.offset), none⟩), ?_, .ptr h2 (Nat.le_refl _) rfl (fun _ => rfl)⟩
        simp [Instr.fieldAt, run_underlying hu, hfx, Instr.sureAddr, fieldPlace, run_sizeOf hn, addr_add, Nat.add_assoc]
    · cases h
  · rename_i off ft e j hf
    obtain ⟨fs, x, n, hu, hfx, rfl, rfl, hn⟩ := tField_spec hf
    simp only [Option.some.injEq] at h
    subst h
    cases hx with
    | @fz _ _ b o cell hb ha hc hr =>
      refine ⟨.pointer (some ⟨b, o + (j + x.offset), none⟩), ?_, .fz hb ha hc hr⟩
      simp [Instr.fieldAt, run_underlying hu, hfx, Instr.sureAddr, fieldPlace, run_sizeOf hn, addr_add, Nat.add_assoc]
  · cases h

def fieldQ (P : Program) (t : TypeId) (x : V) (f : Nat) : Option V := match tField P t f, x with
  | some (off, ft), .agg cs => match tAgg P ft, tSize P ft with
    | some true, some n => some (.agg ((cs.drop off).take n))
    | some false, _ => cs[off]?
    | _, _ => none
  | _, _ => none
theorem fieldQ_sound {P : Program} {w : World} {X : Nat → Prop} {σ : List Ob} {t : TypeId} {x v : V} {f : Nat} {vx : Value}
    (h : fieldQ P t x f = some v) (hx : VR w X σ x vx) : ∃ val, (Instr.field t vx f).run P w = .ok val w ∧ VR w X σ v val := by
  unfold fieldQ at h
  split at h
  · rename_i off ft cs hf
    obtain ⟨fs, x, n, hu, hfx, rfl, rfl, hn⟩ := tField_spec hf
    cases hx with
    | @agg _ vs hl hr =>
    split at h
    · rename_i m ha hm
      simp only [Option.some.injEq] at h
      subst h
      refine ⟨.agg (vs.extract x.offset (x.offset + m)), ?_, .agg (by simp; omega) (fun i c hc => ?_)⟩
      · simp [Instr.field, run_underlying hu, hfx, part, run_isAgg ha, run_sizeOf hm, asAgg]
      · rw [List.getElem?_take] at hc
        split at hc
        · rename_i him
          rw [List.getElem?_drop] at hc
          have h1 := hr _ c hc
          have h2 := (List.getElem?_eq_some_iff.1 hc).1
          have e : (vs.extract x.offset (x.offset + m)).getD i Go.undef = vs.getD (x.offset + i) Go.undef := by
            have h3 : x.offset + i < vs.size := by omega
            have h4 : i < (vs.extract x.offset (x.offset + m)).size := by simp; omega
            rw [Array.getD_eq_getD_getElem?, Array.getD_eq_getD_getElem?, Array.getElem?_eq_getElem h4, Array.getElem?_eq_getElem h3]
            simp
          rw [e]
          exact h1
        · cases hc
    · rename_i ha
      have h2 := (List.getElem?_eq_some_iff.1 h).1
      have h1 := hr _ _ h
      have h3 : x.offset < vs.size := by omega
      refine ⟨vs[x.offset], ?_, by simpa [h3] using h1⟩
      simp [Instr.field, run_underlying hu, hfx, part, run_isAgg ha, asAgg, h3]
    · cases h
  · cases h
end Go.VL
