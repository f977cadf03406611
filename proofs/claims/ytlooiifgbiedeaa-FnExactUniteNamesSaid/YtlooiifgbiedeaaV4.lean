/- VL, part 4: the rest of the quiet operations; 'evalQ'. -/
import Derived.Test.YtlooiifgbiedeaaV3
namespace Go.VL
set_option linter.unusedVariables false
set_option linter.unusedSimpArgs false

/-- Cells written over from a place on. -/
def setV : List V → Nat → List V → List V
  | cs, _, [] => cs
  | [], _, _ :: _ => []
  | _ :: cs, 0, v :: vs => v :: setV cs 0 vs
  | c :: cs, n + 1, v :: vs => c :: setV cs n (v :: vs)
theorem setV_length : ∀ (cs : List V) (n : Nat) (vs : List V), (setV cs n vs).length = cs.length
  | cs, n, [] => by cases cs <;> rfl
  | [], _, _ :: _ => rfl
  | c :: cs, 0, v :: vs => by rw [setV, List.length_cons, setV_length cs 0 vs, List.length_cons]
  | c :: cs, n + 1, v :: vs => by rw [setV, List.length_cons, setV_length cs n (v :: vs), List.length_cons]
theorem setV_get : ∀ (cs : List V) (n : Nat) (vs : List V) (j : Nat), (setV cs n vs)[j]? = if n ≤ j ∧ j < n + vs.length ∧ j < cs.length then vs[j - n]? else cs[j]?
  | cs, n, [], j => by
    have : setV cs n [] = cs := by cases cs <;> rfl
    rw [this, if_neg (by simp; omega)]
  | [], n, v :: vs, j => by rw [setV, if_neg (by simp)]
  | c :: cs, 0, v :: vs, j => by
    rw [setV]
    cases j with
    | zero => simp
    | succ j =>
      rw [List.getElem?_cons_succ, setV_get cs 0 vs j]
      simp only [List.length_cons, Nat.sub_zero, List.getElem?_cons_succ]
      by_cases h : j < vs.length ∧ j < cs.length
      · rw [if_pos ⟨by omega, by omega, h.2⟩, if_pos ⟨by omega, by omega, by omega⟩]
      · rw [if_neg (by omega), if_neg (by omega)]
  | c :: cs, n + 1, v :: vs, j => by
    rw [setV]
    cases j with
    | zero => simp
    | succ j =>
      rw [List.getElem?_cons_succ, setV_get cs n (v :: vs) j, List.getElem?_cons_succ]
      simp only [List.length_cons, Nat.add_sub_add_right]
      by_cases h : n ≤ j ∧ j < n + (vs.length + 1) ∧ j < cs.length
      · rw [if_pos h, if_pos ⟨by omega, by omega, by omega⟩]
      · rw [if_neg h, if_neg (by omega)]

/-- A list of values stands for an array of the machine's. -/
def VRs (w : World) (X : Nat → Prop) (σ : List Ob) (cs : List V) (vs : Array Value) : Prop := vs.size = cs.length ∧ ∀ (i : Nat) (c : V), cs[i]? = some c → VR w X σ c (vs.getD i undef)

theorem foldl_set_get : ∀ (l : List Value) (k off : Nat) (cs : Array Value) (j : Nat),
    ((l.zipIdx k).foldl (fun cs (p : Value × Nat) => cs.setIfInBounds (off + p.2) p.1) cs)[j]? = if off + k ≤ j ∧ j < off + k + l.length ∧ j < cs.size then l[j - (off + k)]? else cs[j]?
  | [], k, off, cs, j => by simp; omega
  | v :: l, k, off, cs, j => by
    rw [List.zipIdx_cons, List.foldl_cons, foldl_set_get l (k + 1) off _ j]
    simp only [Array.size_setIfInBounds, List.length_cons]
    by_cases h1 : off + k = j
    · subst h1
      rw [if_neg (by omega)]
      by_cases h2 : off + k < cs.size
      · rw [if_pos ⟨by omega, by omega, h2⟩]
        simp [h2]
      · rw [if_neg (by omega)]
        simp [h2]
    · by_cases h2 : off + (k + 1) ≤ j ∧ j < off + (k + 1) + l.length ∧ j < cs.size
      · rw [if_pos h2, if_pos ⟨by omega, by omega, h2.2.2⟩]
        have : j - (off + k) = j - (off + (k + 1)) + 1 := by omega
        rw [this, List.getElem?_cons_succ]
      · rw [if_neg h2, if_neg (by omega), Array.getElem?_setIfInBounds_ne h1]
theorem foldl_set_size : ∀ (l : List Value) (k off : Nat) (cs : Array Value),
    ((l.zipIdx k).foldl (fun cs (p : Value × Nat) => cs.setIfInBounds (off + p.2) p.1) cs).size = cs.size
  | [], k, off, cs => rfl
  | v :: l, k, off, cs => by rw [List.zipIdx_cons, List.foldl_cons, foldl_set_size l (k + 1) off _]; simp

/-- One cell's value, and known. -/
def V.leaf : V → Bool | .agg _ => false | .tup _ => false | .undef => false | .skip => false | _ => true
def V.cells : V → List V | .agg cs => cs | v => [v]
theorem VR.one {w : World} {X : Nat → Prop} {σ : List Ob} {v : V} {x : Value} (h : VR w X σ v x) (hl : v.leaf = true) : x.oneCell' = true := by
  cases h with
  | t h => cases h <;> rfl
  | own h hv h1 hp => exact h1
  | ptr h hv h1 hp => exact h1
  | nil0 a => rfl
  | fz hb ha hc hr => rfl
  | fn hl hr => rfl
  | map h => rfl
  | errN => rfl
  | errS t v => rfl
  | agg hl' hr => simp [V.leaf] at hl
  | tup hl' hr => simp [V.leaf] at hl
  | undef => simp [V.leaf] at hl
  | skip => simp [V.leaf] at hl
theorem cells_one {x : Value} (h : x.oneCell' = true) : x.cells = #[x] := by cases x <;> first | rfl | (simp [Value.oneCell'] at h)
theorem VR.cells {w : World} {X : Nat → Prop} {σ : List Ob} {v : V} {x : Value} (h : VR w X σ v x) (hu : v.leaf = true ∨ ∃ cs, v = .agg cs) : VRs w X σ v.cells x.cells := by
  rcases hu with hl | ⟨cs, rfl⟩
  · have hc : v.cells = [v] := by cases v <;> first | rfl | simp [V.leaf] at hl
    rw [hc, cells_one (h.one hl)]
    refine ⟨rfl, fun i c hc => ?_⟩
    cases i with
    | zero =>
      simp only [List.getElem?_cons_zero, Option.some.injEq] at hc
      subst hc
      exact h
    | succ i => simp at hc
  · cases h with
    | agg hl hr => exact ⟨hl, hr⟩

/-- What may be stored: one known cell, or a struct of such. -/
def V.solid : V → Bool | .agg cs => cs.all V.leaf | v => v.leaf
theorem V.solid_or {v : V} (h : v.solid = true) : v.leaf = true ∨ ∃ cs, v = .agg cs := by
  cases v <;> first | exact .inr ⟨_, rfl⟩ | exact .inl h
theorem VR.solid_one {w : World} {X : Nat → Prop} {σ : List Ob} {v : V} {x : Value} (h : VR w X σ v x) (hs : v.solid = true) : ∀ u ∈ x.cells.toList, u.oneCell' = true := by
  intro u hu
  obtain ⟨h1, h2⟩ := h.cells (V.solid_or hs)
  obtain ⟨i, hi⟩ := List.getElem?_of_mem hu
  rw [Array.getElem?_toList] at hi
  have hlt := (Array.getElem?_eq_some_iff.1 hi).1
  have hc : v.cells[i]? = some v.cells[i] := List.getElem?_eq_getElem (by omega)
  have h3 := h2 i _ hc
  have h4 : x.cells.getD i Go.undef = u := by
    rw [Array.getD_eq_getD_getElem?, hi]; rfl
  rw [h4] at h3
  refine h3.one ?_
  have hm : v.cells[i] ∈ v.cells := List.getElem_mem _
  cases v <;> simp only [V.solid, V.cells] at hs hm ⊢ <;> first
    | exact List.all_eq_true.1 hs _ hm
    | (simp only [List.mem_singleton] at hm; rw [hm]; exact hs)

/-! ### indexes and cuts -/
def indexAddrQ (P : Program) (s : St) (t : TypeId) (x ix : V) : Option V := match tElem P t with
  | some e => match tSize P e with
    | some sz => match x, ix with
      | .t (.sl g es), .t (.int k i) => if 0 ≤ i ∧ i < es.length ∧ (es.getD i.toNat []).length = sz then some (.fz (es.getD i.toNat []) 0) else none
      | .own r ver off len, .t (.int k i) => match s.σ[r]? with
        | some (.row _ v sz' _ _) => if ver = v ∧ sz' = sz ∧ 0 ≤ i ∧ i < len then some (.ptr r ver (off + i.toNat) 0) else none
        | _ => none
      | _, _ => none
    | none => none
  | none => none
theorem indexAddrQ_sound {P : Program} {w0 : World} {av0 X : Nat → Prop} {N : Nat} {a : Act} {w : World} {s : St} (hi : Inv w0 av0 X N a w s) {t : TypeId} {x ix v : V} {vx vi : Value}
    (h : indexAddrQ P s t x ix = some v) (hx : VR w X s.σ x vx) (hix : VR w X s.σ ix vi) : ∃ val, (Instr.indexAt t vx vi).run P w = .ok val w ∧ VR w X s.σ v val := by
  unfold indexAddrQ at h
  split at h
  · rename_i e he
    have hu := tElem_spec he
    split at h
    · rename_i sz hsz
      split at h
      · rename_i g es k i
        split at h
        · rename_i hb
          obtain ⟨h0, h1, h2⟩ := hb
          simp only [Option.some.injEq] at h
          subst h
          rw [hix.int_inv]
          have hlt : i.toNat < es.length := by omega
          have hge : es[i.toNat]? = some (es.getD i.toNat []) := by rw [List.getD_eq_getElem?_getD, List.getElem?_eq_getElem hlt]; rfl
          cases hx with
          | t hx =>
          cases hx with
          | nil g a c => simp at hlt
          | sl g es off c sz' cell hc hg ha hl hcell hr =>
            have hs : sz' = sz := by rw [← h2]; exact (hl _ _ hge).symm
            subst hs
            refine ⟨.pointer (some ⟨g, off + i.toNat * sz' + 0, none⟩), ?_, .fz hg ha (cell := fun j => cell i.toNat j) (fun j t ht => hcell _ j _ t hge ht) (fun j t ht => hr _ j _ t hge ht)⟩
            simp [Instr.indexAt, asIntOf, run_underlying hu, run_sizeOf hsz, h0, h1, addr_add]
        · cases h
      · rename_i r ver off len k i
        split at h
        · rename_i g' v' sz' n' es' hσ
          split at h
          · rename_i hb
            obtain ⟨rfl, rfl, h0, h1⟩ := hb
            simp only [Option.some.injEq] at h
            subst h
            rw [hix.int_inv]
            cases hx with
            | @own _ _ _ _ g2 v2 sz2 n2 es2 _ h2 hv2 h1c hp2 =>
              rw [hσ] at h2
              simp only [Option.some.injEq, Ob.row.injEq] at h2
              obtain ⟨rfl, rfl, rfl, rfl, rfl⟩ := h2
              obtain ⟨c, rfl, hc1, hc2, hc3⟩ := hp2 rfl
              refine ⟨.pointer (some ⟨g', (off + i.toNat) * sz' + 0, none⟩), ?_, .ptr hσ (Nat.le_refl _) rfl (fun _ => rfl)⟩
              simp [Instr.indexAt, asIntOf, run_underlying hu, run_sizeOf hsz, h0, h1, addr_add, Nat.add_mul]
          · cases h
        · cases h
      · cases h
    · cases h
  · cases h

def byteAt (s : ByteArray) (n : Nat) : Int := ((s.data.toList.getD n 0).toNat : Int)
def indexQ (P : Program) (t : TypeId) (x ix : V) : Option V := match x, ix with
  | .t (.str s), .t (.int k i) => if tStr P t = true ∧ 0 ≤ i ∧ i < s.size then some (.t (.int .u8 (byteAt s i.toNat))) else none
  | _, _ => none
theorem indexQ_sound {P : Program} {w : World} {X : Nat → Prop} {σ : List Ob} {t : TypeId} {x ix v : V} {vx vi : Value}
    (h : indexQ P t x ix = some v) (hx : VR w X σ x vx) (hix : VR w X σ ix vi) : ∃ val, (Instr.index t vx vi).run P w = .ok val w ∧ VR w X σ v val := by
  unfold indexQ at h
  split at h
  · rename_i s k i
    split at h
    · rename_i hb
      obtain ⟨ht, h0, h1⟩ := hb
      simp only [Option.some.injEq] at h
      subst h
      rw [hix.int_inv, hx.str_inv]
      have hlt : i.toNat < s.size := by omega
      have hlt2 : i.toNat < s.data.toList.length := by simpa using hlt
      refine ⟨.int .u8 (byteAt s i.toNat), ?_, .t (.int _ _)⟩
      have hg : s[i.toNat]? = some s[i.toNat] := by simp [hlt]
      have hbv : (s[i.toNat].toNat : Int) = byteAt s i.toNat := by
        unfold byteAt
        rw [List.getD_eq_getElem?_getD, List.getElem?_eq_getElem hlt2]
        simp
        rfl
      simp [Instr.index, asIntOf, run_underlying (tStr_spec ht), h0, hg, hbv]
    · cases h
  · cases h

def sliceB (x : Option V) (d y : Nat) : Option Nat := match x with
  | none => some d
  | some (.t (.int _ i)) => if 0 ≤ i ∧ i ≤ y then some i.toNat else none
  | some _ => none
def OVR (w : World) (X : Nat → Prop) (σ : List Ob) : Option V → Option Value → Prop
  | none, none => True
  | some x, some y => VR w X σ x y
  | _, _ => False
theorem sliceB_run {P : Program} {w : World} {X : Nat → Prop} {σ : List Ob} {o : Option V} {vo : Option Value} {d y cap h : Nat} (code : BoundsCode) (hs : sliceB o d y = some h) (ho : OVR w X σ o vo) (hy : y ≤ cap) (hd : d ≤ y) :
    (match vo with | some v => Instr.sliceBound v cap code | none => (pure d : Sem Nat)).run P w = .ok h w ∧ h ≤ y := by
  cases o with
  | none =>
    cases vo with
    | some v => exact ho.elim
    | none =>
      simp only [sliceB, Option.some.injEq] at hs
      subst hs
      exact ⟨rfl, hd⟩
  | some x =>
    cases vo with
    | none => exact ho.elim
    | some v =>
      have ho' : VR w X σ x v := ho
      unfold sliceB at hs
      split at hs
      · rename_i heq
        cases heq
      · rename_i k i heq
        simp only [Option.some.injEq] at heq
        subst heq
        split at hs
        · rename_i hb
          simp only [Option.some.injEq] at hs
          rw [ho'.int_inv]
          refine ⟨?_, by omega⟩
          have : 0 ≤ i ∧ i ≤ (cap : Int) := by omega
          simp [Instr.sliceBound, asIntOf, this, hs]
        · cases hs
      · cases hs
/-- What the machine's bounds come to, under the bounds of ours. -/
theorem run_sliceBounds {P : Program} {w : World} {X : Nat → Prop} {σ : List Ob} {isS : Bool} {len cap n h l : Nat} {lo hi : Option V} {vlo vhi : Option Value} (hn : n ≤ cap) (hd : len = n)
    (h1 : sliceB hi n n = some h) (h2 : sliceB lo 0 h = some l) (rlo : OVR w X σ lo vlo) (rhi : OVR w X σ hi vhi) :
    (Instr.sliceBounds isS len cap vlo vhi none).run P w = .ok (l, h, cap) w ∧ l ≤ h ∧ h ≤ n := by
  subst hd
  obtain ⟨r1, g1⟩ := sliceB_run (P := P) (if isS then .sliceAcap else .sliceAlen) h1 rhi hn (Nat.le_refl _)
  obtain ⟨r2, g2⟩ := sliceB_run (P := P) .sliceB h2 rlo (Nat.le_refl _) (Nat.zero_le _)
  refine ⟨?_, g2, g1⟩
  unfold Instr.sliceBounds
  cases vhi <;> cases vlo <;> simp_all

/-- 'x[lo:hi]'. -/
def sliceQ (P : Program) (s : St) (t : TypeId) (x : V) (lo hi : Option V) : Option V := match x with
  | .t (.str b) => if tStr P t then match sliceB hi b.size b.size with
      | some h => match sliceB lo 0 h with
        | some l => some (.t (.str (b.extract l h)))
        | none => none
      | none => none
    else none
  | .t (.sl g es) => match tElem P t with
    | some e => match tSize P e, sliceB hi es.length es.length with
      | some sz, some h => match sliceB lo 0 h with
        | some l => if h = l ∨ (es.getD l []).length = sz then some (.t (.sl g ((es.take h).drop l))) else none
        | none => none
      | _, _ => none
    | none => none
  | .own r ver off len => match tElem P t with
    | some e => match tSize P e, sliceB hi len len, s.σ[r]? with
      | some sz, some h, some (.row _ v sz' _ _) => if ver = v ∧ sz' = sz then match sliceB lo 0 h with
          | some 0 => some (.own r ver off h)
          | some (l + 1) => if h = l + 1 then some (.t (.sl 0 [])) else some (.own r ver (off + (l + 1)) (h - (l + 1)))
          | none => none
        else none
      | _, _, _ => none
    | none => none
  | .nil0 => match tElem P t with
    | some e => match tSize P e, sliceB hi 0 0 with
      | some sz, some h => match sliceB lo 0 h with | some _ => some .nil0 | none => none
      | _, _ => none
    | none => none
  | _ => none
theorem sliceQ_sound {P : Program} {w0 : World} {av0 X : Nat → Prop} {N : Nat} {a : Act} {w : World} {s : St} (hi : Inv w0 av0 X N a w s) {t : TypeId} {x v : V} {lo hi' : Option V} {vx : Value} {vlo vhi : Option Value}
    (h : sliceQ P s t x lo hi' = some v) (hx : VR w X s.σ x vx)
    (rlo : OVR w X s.σ lo vlo) (rhi : OVR w X s.σ hi' vhi) :
    ∃ val, (Instr.sliceAt t vx vlo vhi none).run P w = .ok val w ∧ VR w X s.σ v val := by
  unfold sliceQ at h
  split at h
  · rename_i b
    split at h
    · rename_i ht
      split at h
      · rename_i hh h1
        split at h
        · rename_i l h2
          simp only [Option.some.injEq] at h
          subst h
          rw [hx.str_inv]
          obtain ⟨hr, _, _⟩ := run_sliceBounds (P := P) (isS := false) (Nat.le_refl _) rfl h1 h2 rlo rhi
          refine ⟨.string (b.extract l hh), ?_, .t (.str _)⟩
          simp [Instr.sliceAt, Instr.slice, run_underlying (tStr_spec ht), hr]
        · cases h
      · cases h
    · cases h
  · rename_i g es
    split at h
    · rename_i e he
      split at h
      · rename_i sz hh hsz h1
        split at h
        · rename_i l h2
          split at h
          · rename_i hc
            simp only [Option.some.injEq] at h
            subst h
            cases hx with
            | t hx =>
            have hu := tElem_spec he
            cases hx with
            | nil g a c =>
              obtain ⟨hr, hl1, hl2⟩ := run_sliceBounds (P := P) (w := w) (isS := true) (cap := c) (Nat.zero_le _) rfl h1 h2 rlo rhi
              have hl2' : hh ≤ 0 := hl2
              obtain rfl : hh = 0 := by omega
              obtain rfl : l = 0 := by omega
              refine ⟨.slice a 0 c, ?_, .t (.nil _ _ _)⟩
              simp [Instr.sliceAt, Instr.slice, run_underlying hu, run_sizeOf hsz, hr]
              cases a <;> simp [Addr.add]
            | sl g es off c sz' cell hc' hg ha hl hcell hr' =>
              obtain ⟨hr, hl1, hl2⟩ := run_sliceBounds (P := P) (w := w) (isS := true) (cap := c) hc' rfl h1 h2 rlo rhi
              by_cases heq : hh = l
              · subst heq
                have e0 : (es.take hh).drop hh = [] := by simp
                rw [e0]
                refine ⟨.slice (if c = hh then some ⟨g, off, none⟩ else (some ⟨g, off, none⟩ : Option Addr).map (·.add (hh * sz))) 0 (c - hh), ?_, .t (.nil _ _ _)⟩
                simp [Instr.sliceAt, Instr.slice, run_underlying hu, run_sizeOf hsz, hr]
              · have hs := hc.resolve_left heq
                have hll : l < es.length := by omega
                have hge : es[l]? = some (es.getD l []) := by rw [List.getD_eq_getElem?_getD, List.getElem?_eq_getElem hll]; rfl
                obtain rfl : sz' = sz := by rw [← hs]; exact (hl _ _ hge).symm
                have hlen : ((es.take hh).drop l).length = hh - l := by simp; omega
                refine ⟨.slice (some ⟨g, off + l * sz', none⟩) (hh - l) (c - l), ?_, .t ?_⟩
                · have : ¬ c = l := by omega
                  simp [Instr.sliceAt, Instr.slice, run_underlying hu, run_sizeOf hsz, hr, this, addr_add]
                · rw [← hlen]
                  refine .sl g _ _ _ sz' (fun i j => cell (l + i) j) (by rw [hlen]; omega) hg ha (fun i e' hi' => ?_) (fun i j e' t' hi' hj => ?_) (fun i j e' t' hi' hj => ?_)
                  all_goals
                    rw [List.getElem?_drop, List.getElem?_take] at hi'
                    split at hi'
                    case isFalse => cases hi'
                  · exact hl _ _ hi'
                  · have := hcell _ j _ t' hi' hj
                    rw [← this]
                    congr 2
                    rw [Nat.add_mul]
                    omega
                  · exact hr' _ j _ t' hi' hj
          · cases h
        · cases h
      · cases h
    · cases h
  · rename_i r ver off len
    split at h
    · rename_i e he
      have hu := tElem_spec he
      split at h
      · rename_i sz hh g' v' sz' n' es' hsz h1 hσ
        split at h
        · rename_i hb
          obtain ⟨rfl, rfl⟩ := hb
          cases hx with
          | @own _ _ _ _ g2 v2 sz2 n2 es2 _ h2' hv2 h1c hp2 =>
          rw [hσ] at h2'
          simp only [Option.some.injEq, Ob.row.injEq] at h2'
          obtain ⟨rfl, rfl, rfl, rfl, rfl⟩ := h2'
          obtain ⟨c, rfl, hc1, hc2, hc3⟩ := hp2 rfl
          split at h
          · rename_i h2
            simp only [Option.some.injEq] at h
            subst h
            obtain ⟨hr, hl1, hl2⟩ := run_sliceBounds (P := P) (w := w) (isS := true) (cap := c) hc1 rfl h1 h2 rlo rhi
            refine ⟨.slice (some ⟨g', off * sz', none⟩) hh c, ?_, .own hσ (Nat.le_refl _) rfl (fun _ => ⟨c, rfl, by omega, hc2, by omega⟩)⟩
            simp [Instr.sliceAt, Instr.slice, run_underlying hu, run_sizeOf hsz, hr, Addr.add]
          · rename_i l h2
            obtain ⟨hr, hl1, hl2⟩ := run_sliceBounds (P := P) (w := w) (isS := true) (cap := c) hc1 rfl h1 h2 rlo rhi
            split at h
            · rename_i heq
              simp only [Option.some.injEq] at h
              subst h
              subst heq
              refine ⟨.slice (if c = l + 1 then some ⟨g', off * sz', none⟩ else (some ⟨g', off * sz', none⟩ : Option Addr).map (·.add ((l + 1) * sz'))) 0 (c - (l + 1)), ?_, .t (.nil _ _ _)⟩
              simp [Instr.sliceAt, Instr.slice, run_underlying hu, run_sizeOf hsz, hr]
            · rename_i hne
              simp only [Option.some.injEq] at h
              subst h
              refine ⟨.slice (some ⟨g', (off + (l + 1)) * sz', none⟩) (hh - (l + 1)) (c - (l + 1)), ?_, .own hσ (Nat.le_refl _) rfl (fun _ => ⟨c - (l + 1), rfl, by omega, ?_, by omega⟩)⟩
              · have : ¬ c = l + 1 := by omega
                simp [Instr.sliceAt, Instr.slice, run_underlying hu, run_sizeOf hsz, hr, this, addr_add, Nat.add_mul]
              · have : off + (l + 1) + (c - (l + 1)) = off + c := by omega
                rw [this]
                exact hc2
          · cases h
        · cases h
      · cases h
    · cases h
  · split at h
    · rename_i e he
      have hu := tElem_spec he
      split at h
      · rename_i sz hh hsz h1
        split at h
        · rename_i l h2
          simp only [Option.some.injEq] at h
          subst h
          cases hx with
          | nil0 a =>
          obtain ⟨hr, hl1, hl2⟩ := run_sliceBounds (P := P) (w := w) (isS := true) (cap := 0) (Nat.le_refl _) rfl h1 h2 rlo rhi
          obtain rfl : hh = 0 := by omega
          obtain rfl : l = 0 := by omega
          refine ⟨.slice a 0 0, ?_, .nil0 _⟩
          simp [Instr.sliceAt, Instr.slice, run_underlying hu, run_sizeOf hsz, hr]
        · cases h
      · cases h
    · cases h
  · cases h

/-! ### the rest -/
def nilCheckQ (s : St) (x : V) : Option V := match x with
  | .ptr r ver i j => if s.live (.ptr r ver i j) then some (.ptr r ver i j) else none
  | .fz e j => some (.fz e j)
  | .fn f caps => some (.fn f caps)
  | _ => none
def extractQ (x : V) (i : Nat) : Option V := match x with | .tup vs => vs[i]? | _ => none
def lenQ (P : Program) (s : St) (t : TypeId) (x : V) : Option V := match x with
  | .t (.str b) => if tStr P t then some (.t (.int .i64 b.size)) else none
  | .t (.sl _ es) => match tElem P t with | some _ => some (.t (.int .i64 es.length)) | none => none
  | .own r ver off len => if s.live (.own r ver off len) then match tElem P t with | some _ => some (.t (.int .i64 len)) | none => none else none
  | .nil0 => match tElem P t with | some _ => some (.t (.int .i64 0)) | none => none
  | _ => none
def capQ (P : Program) (t : TypeId) (x : V) : Option V := match x with
  | .nil0 => match tElem P t with | some _ => some (.t (.int .i64 0)) | none => none
  | _ => none
def maxQ (x y : V) : Option V := match x, y with
  | .t (.int k a), .t (.int _ b) => some (.t (.int k (if b > a then b else a)))
  | _, _ => none
def minQ (x y : V) : Option V := match x, y with
  | .t (.int k a), .t (.int _ b) => some (.t (.int k (if b < a then b else a)))
  | _, _ => none
/-- Parts laid into a struct's cells. -/
def fillQ (P : Program) (t : TypeId) (cells : List V) : List (Nat × V) → Option (List V)
  | [] => some cells
  | (i, v) :: rest => match tField P t i with
    | some (off, ft) => match tSize P ft with
      | some n => if v.solid = true ∧ v.cells.length = n ∧ off + n ≤ cells.length then fillQ P t (setV cells off v.cells) rest else none
      | none => none
    | none => none
def buildQ (P : Program) (t : TypeId) (parts : List (Nat × V)) : Option V := match tZero P t with
  | some z => match fillQ P t z parts with | some cs => some (.agg cs) | none => none
  | none => none

theorem nilCheckQ_sound {w0 : World} {av0 X : Nat → Prop} {N : Nat} {a : Act} {w : World} {s : St} (hi : Inv w0 av0 X N a w s) {x v : V} {vx : Value}
    (h : nilCheckQ s x = some v) (hx : VR w X s.σ x vx) : v = x ∧ vx ≠ .nilIface ∧ vx ≠ .nilFunc ∧ (∃ a, vx = .pointer (some a)) ∨ v = x ∧ ∃ f caps, vx = .func (.func f) #[] caps := by
  unfold nilCheckQ at h
  split at h
  · rename_i r ver i j
    split at h
    · rename_i hl
      simp only [Option.some.injEq] at h
      cases hx with
      | @ptr _ _ _ _ g v2 sz2 n2 es2 _ h2 hv2 h1c hp2 =>
        have hv : ver = v2 := by simpa [St.live, h2] using hl
        rw [hp2 hv]
        exact .inl ⟨h.symm, by simp, by simp, _, rfl⟩
    · cases h
  · simp only [Option.some.injEq] at h
    cases hx with
    | fz hb ha hc hr => exact .inl ⟨h.symm, by simp, by simp, _, rfl⟩
  · simp only [Option.some.injEq] at h
    cases hx with
    | fn hl hr => exact .inr ⟨h.symm, _, _, rfl⟩
  · cases h

theorem extractQ_sound {P : Program} {w : World} {X : Nat → Prop} {σ : List Ob} {x v : V} {i : Nat} {vx : Value}
    (h : extractQ x i = some v) (hx : VR w X σ x vx) : ∃ val, (Instr.extract vx i).run P w = .ok val w ∧ VR w X σ v val := by
  unfold extractQ at h
  split at h
  · rename_i vs
    cases hx with
    | @tup _ as hl hr =>
      have h2 := (List.getElem?_eq_some_iff.1 h).1
      have h3 : i < as.size := by omega
      have h1 := hr _ _ h
      exact ⟨as[i], by simp [Instr.extract, h3], by simpa [h3] using h1⟩
  · cases h

theorem lenQ_sound {P : Program} {w0 : World} {av0 X : Nat → Prop} {N : Nat} {a : Act} {w : World} {s : St} (hi : Inv w0 av0 X N a w s) {t ty : TypeId} {ts : Array TypeId} {x v : V} {vx : Value}
    (ht : ts[0]? = some t) (h : lenQ P s t x = some v) (hx : VR w X s.σ x vx) : ∃ val, (Builtin.len_ ts ty #[vx]).run P w = .ok val w ∧ VR w X s.σ v val := by
  unfold lenQ at h
  split at h
  · split at h
    · rename_i hs
      simp only [Option.some.injEq] at h
      subst h
      rw [hx.str_inv]
      refine ⟨_, ?_, .t (.int _ _)⟩
      simp [Builtin.len_, ht, run_underlying (tStr_spec hs), goInt]
    · cases h
  · rename_i g es
    split at h
    · rename_i e he
      simp only [Option.some.injEq] at h
      subst h
      refine ⟨.int .i64 es.length, ?_, .t (.int _ _)⟩
      cases hx with
      | t hx => cases hx <;> simp [Builtin.len_, ht, run_underlying (tElem_spec he), goInt]
    · cases h
  · rename_i r ver off len
    split at h
    · rename_i hl
      split at h
      · rename_i e he
        simp only [Option.some.injEq] at h
        subst h
        refine ⟨.int .i64 len, ?_, .t (.int _ _)⟩
        cases hx with
        | @own _ _ _ _ g2 v2 sz2 n2 es2 _ h2 hv2 h1c hp2 =>
          have hv : ver = v2 := by simpa [St.live, h2] using hl
          obtain ⟨c, rfl, _⟩ := hp2 hv
          simp [Builtin.len_, ht, run_underlying (tElem_spec he), goInt]
      · cases h
    · cases h
  · split at h
    · rename_i e he
      simp only [Option.some.injEq] at h
      subst h
      refine ⟨.int .i64 0, ?_, .t (.int _ _)⟩
      cases hx with
      | nil0 a => simp [Builtin.len_, ht, run_underlying (tElem_spec he), goInt]
    · cases h
  · cases h
theorem capQ_sound {P : Program} {w : World} {X : Nat → Prop} {σ : List Ob} {t ty : TypeId} {ts : Array TypeId} {x v : V} {vx : Value}
    (ht : ts[0]? = some t) (h : capQ P t x = some v) (hx : VR w X σ x vx) : ∃ val, (Builtin.cap_ ts ty #[vx]).run P w = .ok val w ∧ VR w X σ v val := by
  unfold capQ at h
  split at h
  · split at h
    · rename_i e he
      simp only [Option.some.injEq] at h
      subst h
      refine ⟨.int .i64 0, ?_, .t (.int _ _)⟩
      cases hx with
      | nil0 a => simp [Builtin.cap_, ht, run_underlying (tElem_spec he), goInt]
    · cases h
  · cases h
theorem maxQ_sound {P : Program} {w : World} {X : Nat → Prop} {σ : List Ob} {ty : TypeId} {ts : Array TypeId} {x y v : V} {vx vy : Value}
    (h : maxQ x y = some v) (hx : VR w X σ x vx) (hy : VR w X σ y vy) : ∃ val, (Builtin.max_ ts ty #[vx, vy]).run P w = .ok val w ∧ VR w X σ v val := by
  unfold maxQ at h
  split at h
  · simp only [Option.some.injEq] at h
    subst h
    rw [hx.int_inv, hy.int_inv]
    exact ⟨_, by simp [Builtin.max_, Builtin.max2], .t (.int _ _)⟩
  · cases h
theorem minQ_sound {P : Program} {w : World} {X : Nat → Prop} {σ : List Ob} {ty : TypeId} {ts : Array TypeId} {x y v : V} {vx vy : Value}
    (h : minQ x y = some v) (hx : VR w X σ x vx) (hy : VR w X σ y vy) : ∃ val, (Builtin.min_ ts ty #[vx, vy]).run P w = .ok val w ∧ VR w X σ v val := by
  unfold minQ at h
  split at h
  · simp only [Option.some.injEq] at h
    subst h
    rw [hx.int_inv, hy.int_inv]
    exact ⟨_, by simp [Builtin.min_, Builtin.min2], .t (.int _ _)⟩
  · cases h

theorem VRs.set {w : World} {X : Nat → Prop} {σ : List Ob} {cs vs : List V} {as : Array Value} {us : Array Value} {off : Nat} (h : VRs w X σ cs as) (k : VRs w X σ vs us) :
    VRs w X σ (setV cs off vs) (us.zipIdx.foldl (fun cs (c, j) => cs.setIfInBounds (off + j) c) as) := by
  have e : us.zipIdx.foldl (fun cs (c, j) => cs.setIfInBounds (off + j) c) as = (us.toList.zipIdx 0).foldl (fun cs (p : Value × Nat) => cs.setIfInBounds (off + p.2) p.1) as := by
    rw [← Array.foldl_toList, Array.toList_zipIdx]
  rw [e]
  refine ⟨by rw [foldl_set_size, setV_length]; exact h.1, fun i c hc => ?_⟩
  rw [setV_get] at hc
  rw [Array.getD_eq_getD_getElem?, foldl_set_get]
  have h1 := h.1
  have k1 := k.1
  simp only [Nat.add_zero, Array.length_toList]
  by_cases hin : off ≤ i ∧ i < off + vs.length ∧ i < cs.length
  · rw [if_pos hin] at hc
    rw [if_pos ⟨by omega, by omega, by omega⟩]
    have := k.2 _ c hc
    rw [Array.getD_eq_getD_getElem?] at this
    simpa using this
  · rw [if_neg hin] at hc
    rw [if_neg (by omega)]
    have := h.2 _ c hc
    rwa [Array.getD_eq_getD_getElem?] at this

theorem fillQ_sound {P : Program} {w : World} {X : Nat → Prop} {σ : List Ob} {t : TypeId} {fs : Array Field} (hu : P.underlying t = some (.struct fs)) (places : Array (Nat × Nat)) 
    (hp : ∀ (i : Nat) (f : Field) (n : Nat), fs[i]? = some f → tSize P f.type = some n → places[i]? = some (f.offset, n)) :
    ∀ (parts : List (Nat × V)) (vparts : List (Nat × Value)) (cells cs : List V) (vcells : Array Value), vparts.length = parts.length → (∀ (k i : Nat) (x : V), parts[k]? = some (i, x) → ∃ y, vparts[k]? = some (i, y) ∧ VR w X σ x y) →
      VRs w X σ cells vcells → fillQ P t cells parts = some cs → ∃ vcs, Instr.fill (places[·]?) vcells vparts = some vcs ∧ VRs w X σ cs vcs
  | [], vparts, cells, cs, vcells, hl, hr, hc, h => by
    simp only [fillQ, Option.some.injEq] at h
    subst h
    obtain rfl : vparts = [] := List.length_eq_zero_iff.1 (by simpa using hl)
    exact ⟨vcells, rfl, hc⟩
  | (i, v) :: rest, vparts, cells, cs, vcells, hl, hr, hc, h => by
    obtain ⟨y, hy, hv⟩ := hr 0 i v rfl
    match vparts, hl, hy, hr with
    | (i', y') :: vrest, hl, hy, hr =>
    simp only [List.getElem?_cons_zero, Option.some.injEq, Prod.mk.injEq] at hy
    obtain ⟨rfl, rfl⟩ := hy
    simp only [fillQ] at h
    split at h
    · rename_i off ft hf
      obtain ⟨fs', x, n, hu', hfx, rfl, rfl, hn⟩ := tField_spec hf
      rw [hu] at hu'
      simp only [Option.some.injEq, TypeDesc.struct.injEq] at hu'
      subst hu'
      split at h
      · rename_i m hm
        split at h
        · rename_i hb
          obtain ⟨hs, h1, h2⟩ := hb
          have hcell := hv.cells (V.solid_or hs)
          have hpl := hp i' x m hfx hm
          obtain ⟨vcs, h3, h4⟩ := fillQ_sound hu places hp rest vrest _ cs _ (by simpa using hl) (fun k i x hx => hr (k + 1) i x hx) (hc.set (off := x.offset) hcell) h
          refine ⟨vcs, ?_, h4⟩
          simp only [Instr.fill, hpl]
          have e1 := hcell.1
          have e2 := hc.1
          have e3 : (decide (y'.cells.size ≠ m) || decide (x.offset + y'.cells.size > vcells.size)) = false := by
            rw [Bool.or_eq_false_iff]
            exact ⟨decide_eq_false (by omega), decide_eq_false (by omega)⟩
          rw [e3]
          exact h3
        · cases h
      · cases h
    · cases h

theorem run_mapM_places {P : Program} {w : World} : ∀ (fs : List Field), (∀ f ∈ fs, (P.info? f.type).isSome) →
    (fs.mapM (fun f => do pure (f.offset, ← sizeOf f.type) : Field → Sem (Nat × Nat))).run P w = .ok (fs.map fun f => (f.offset, ((tSize P f.type).getD 0))) w
  | [], _ => rfl
  | f :: fs, h => by
    obtain ⟨i, hi⟩ := Option.isSome_iff_exists.1 (h f (by simp))
    have hs : tSize P f.type = some i.size := by simp [tSize, hi]
    rw [List.mapM_cons]
    simp only [Sem.run_bind, run_sizeOf hs, Result.andThen_ok, Sem.run_pure, run_mapM_places fs (fun f hf => h f (by simp [hf]))]
    simp [hs]

theorem buildQ_sound {P : Program} {w : World} {X : Nat → Prop} {σ : List Ob} {t : TypeId} {fs : Array Field} (hu : P.underlying t = some (.struct fs)) (hfs : ∀ f ∈ fs.toList, (P.info? f.type).isSome)
    {parts : List (Nat × V)} {vparts : Array (Nat × Value)} {v : V} (hl : vparts.size = parts.length) (hr : ∀ (k i : Nat) (x : V), parts[k]? = some (i, x) → ∃ y, vparts[k]? = some (i, y) ∧ VR w X σ x y)
    (h : buildQ P t parts = some v) : ∃ val, (Instr.build t vparts).run P w = .ok val w ∧ VR w X σ v val := by
  unfold buildQ at h
  split at h
  · rename_i z hz
    split at h
    · rename_i cs hcs
      simp only [Option.some.injEq] at h
      subst h
      unfold tZero at hz
      cases hi : P.info? t with
      | none => simp [hi] at hz
      | some inf =>
        simp only [hi] at hz
        cases hzz : inf.zero with
        | none => simp [hzz] at hz
        | some zv =>
          simp only [hzz, Option.some.injEq] at hz
          subst hz
          have hzr : (zeroValue t).run P w = .ok zv w := by simp [zeroValue, run_typeInfo hi, hzz]
          have hm := run_mapM_places (P := P) (w := w) fs.toList hfs
          have hm2 : (fs.mapM (fun f => do pure (f.offset, ← sizeOf f.type) : Field → Sem (Nat × Nat))).run P w = .ok (fs.map fun f => (f.offset, (tSize P f.type).getD 0)) w := by
            rw [Array.mapM_eq_mapM_toList]
            simp only [Sem.run_map, hm, Result.andThen_ok]
            rw [← Array.toList_map]
          have hc0 : VRs w X σ (zv.cells.toList.map V.ofLeaf) zv.cells := by
            refine ⟨by simp, fun i c hc => ?_⟩
            rw [List.getElem?_map] at hc
            obtain ⟨c0, h0, rfl⟩ := Option.map_eq_some_iff.1 hc
            rw [Array.getElem?_toList] at h0
            rw [Array.getD_eq_getD_getElem?, h0]
            exact VR.ofLeaf _ _ _ _
          obtain ⟨vcs, h1, h2⟩ := fillQ_sound hu (fs.map fun f => (f.offset, (tSize P f.type).getD 0)) (fun i f n hf hn => by simp [hf, hn]) parts vparts.toList _ cs _ (by simpa using hl)
            (fun k i x hx => by simpa using hr k i x hx) hc0 hcs
          refine ⟨.agg vcs, ?_, .agg h2.1 h2.2⟩
          simp only [Instr.build, Sem.run_bind, hzr, Result.andThen_ok, run_underlying hu, hm2, h1]
          rfl
    · cases h
  · cases h

def tFields (P : Program) (t : TypeId) : Bool := match P.underlying t with | some (.struct fs) => fs.toList.all fun f => (P.info? f.type).isSome | _ => false
theorem tFields_spec {P : Program} {t : TypeId} (h : tFields P t = true) : ∃ fs, P.underlying t = some (.struct fs) ∧ ∀ f ∈ fs.toList, (P.info? f.type).isSome := by
  unfold tFields at h
  split at h
  · rename_i fs hu
    exact ⟨fs, hu, fun f hf => List.all_eq_true.1 h f hf⟩
  · cases h

def isConst : Operand → Bool | .const _ => true | _ => false

/-- Is this an operation that changes nothing but its own slot? -/
def isQuiet : Op → Bool
  | .move _ | .assign _ | .pick .. | .load .. | .nilCheck _ | .binOp .. | .unOp .. | .convert .. | .makeFunc .. | .fieldAddr .. | .field .. | .indexAddr .. | .index .. | .extract .. | .build .. => true
  | .slice _ _ _ _ m => m.isNone
  | .call { callee := .builtin .len, .. } => true
  | .call { callee := .builtin .cap, .. } => true
  | .call { callee := .builtin .max, .. } => true
  | .call { callee := .builtin .min, .. } => true
  | _ => false

/-- What a quiet operation gives. -/
def evalQ (P : Program) (s : St) : Op → Option V
  | .move x => some (s.eval x)
  | .assign x => some (s.eval x)
  | .pick c a b => match s.eval c with | .t (.bool true) => some (s.eval a) | .t (.bool false) => some (s.eval b) | _ => none
  | .load t a => loadQ P s t (s.eval a)
  | .nilCheck x => nilCheckQ s (s.eval x)
  | .binOp op t x y _ => opQ P op t (s.eval x) (s.eval y) (isConst y)
  | .unOp op _ x => opU op (s.eval x)
  | .convert src dst x => convQ P s src dst (s.eval x)
  | .makeFunc fn first captured => match fn with | .func f => if first.isEmpty then some (.fn f (captured.toList.map s.eval)) else none | _ => none
  | .fieldAddr t x f => fieldAddrQ P s t (s.eval x) f
  | .field t x f => fieldQ P t (s.eval x) f
  | .indexAddr t x i => indexAddrQ P s t (s.eval x) (s.eval i)
  | .index t x i => indexQ P t (s.eval x) (s.eval i)
  | .extract x i => extractQ (s.eval x) i
  | .build t parts => if tFields P t then buildQ P t (parts.toList.map fun p => (p.1, s.eval p.2)) else none
  | .slice t x lo hi mx => if mx.isSome then none else sliceQ P s t (s.eval x) (lo.map s.eval) (hi.map s.eval)
  | .call c => match c.callee, c.args.toList, c.argTypes[0]? with
    | .builtin .len, [x], some t => lenQ P s t (s.eval x)
    | .builtin .cap, [x], some t => capQ P t (s.eval x)
    | .builtin .max, [x, y], _ => maxQ (s.eval x) (s.eval y)
    | .builtin .min, [x, y], _ => minQ (s.eval x) (s.eval y)
    | _, _, _ => none
  | _ => none

theorem evalQ_sound {P : Program} {w0 : World} {av0 X : Nat → Prop} {N : Nat} {a : Act} {w : World} {s : St} (hi : Inv w0 av0 X N a w s) {o : Oper} {v : V} (h : evalQ P s o.op = some v) :
    ∃ val, (execOp a.eval o).run P w = .ok (.value val) w ∧ VR w X s.σ v val := by
  obtain ⟨dst, op, ty, pos, after, guard⟩ := o
  have lift : ∀ {m : Sem Value}, (∃ val, m.run P w = .ok val w ∧ VR w X s.σ v val) → ∃ val, (do pure (Next.value (← m)) : Sem Next).run P w = .ok (.value val) w ∧ VR w X s.σ v val := fun ⟨val, h1, h2⟩ => ⟨val, by simp [h1], h2⟩
  cases op <;> simp only [evalQ] at h <;> try contradiction
  case move x => simp only [Option.some.injEq] at h; subst h; exact ⟨a.eval x, rfl, hi.eval x⟩
  case assign x => simp only [Option.some.injEq] at h; subst h; exact ⟨a.eval x, rfl, hi.eval x⟩
  case pick c x y =>
    split at h
    · rename_i hc
      simp only [Option.some.injEq] at h
      subst h
      have := (hc ▸ hi.eval c).bool_inv
      exact ⟨a.eval x, by simp [execOp, this, asBool], hi.eval x⟩
    · rename_i hc
      simp only [Option.some.injEq] at h
      subst h
      have := (hc ▸ hi.eval c).bool_inv
      exact ⟨a.eval y, by simp [execOp, this, asBool], hi.eval y⟩
    · cases h
  case load t x => exact lift (loadQ_sound hi h (hi.eval x))
  case nilCheck x =>
    rcases nilCheckQ_sound hi h (hi.eval x) with ⟨rfl, h1, h2, ad, h3⟩ | ⟨rfl, f, caps, h3⟩
    · exact ⟨a.eval x, by simp [execOp, h3], hi.eval x⟩
    · exact ⟨a.eval x, by simp [execOp, h3], hi.eval x⟩
  case binOp op t x y yt =>
    have := opQ_sound (P := P) (ox := x) (oy := y) (hi.eval x) (hi.eval y) (yc := isConst y) (fun hc => by cases y <;> simp [isConst] at hc; exact ⟨_, rfl⟩) h
    exact lift this
  case unOp op t x => exact lift (opU_sound (hi.eval x) h)
  case convert src dst x => exact lift (convQ_sound hi h (hi.eval x))
  case makeFunc fn first captured =>
    split at h
    · rename_i f
      split at h
      · rename_i hf
        simp only [Option.some.injEq] at h
        subst h
        have hf0 : first = #[] := by simpa using hf
        subst hf0
        refine ⟨.func (.func f) #[] (captured.map a.eval), by simp [execOp, Instr.makeFunc], .fn (by simp) (fun i c hc => ?_)⟩
        rw [List.getElem?_map] at hc
        obtain ⟨x, hx, rfl⟩ := Option.map_eq_some_iff.1 hc
        rw [Array.getElem?_toList] at hx
        rw [Array.getD_eq_getD_getElem?, Array.getElem?_map, hx]
        exact hi.eval x
      · cases h
    · cases h
  case fieldAddr t x f => exact lift (fieldAddrQ_sound hi h (hi.eval x))
  case field t x f => exact lift (fieldQ_sound h (hi.eval x))
  case indexAddr t x i => exact lift (indexAddrQ_sound hi h (hi.eval x) (hi.eval i))
  case index t x i => exact lift (indexQ_sound h (hi.eval x) (hi.eval i))
  case extract x i => exact lift (extractQ_sound h (hi.eval x))
  case build t parts =>
    split at h
    · rename_i ht
      obtain ⟨fs, hu, hfs⟩ := tFields_spec ht
      refine lift (buildQ_sound hu hfs (vparts := parts.map fun (i, x) => (i, a.eval x)) (by simp) (fun k i x hx => ?_) h)
      rw [List.getElem?_map] at hx
      obtain ⟨⟨i', x'⟩, hx', he⟩ := Option.map_eq_some_iff.1 hx
      simp only [Prod.mk.injEq] at he
      obtain ⟨rfl, rfl⟩ := he
      rw [Array.getElem?_toList] at hx'
      exact ⟨a.eval x', by rw [Array.getElem?_map, hx']; rfl, hi.eval x'⟩
    · cases h
  case slice t x lo hi' mx =>
    cases mx with
    | some m => simp at h
    | none =>
      simp only [Option.isSome_none, Bool.false_eq_true, if_false] at h
      have ov : ∀ (o : Option Operand), OVR w X s.σ (o.map s.eval) (o.map a.eval) := fun o => by
        cases o with
        | none => exact trivial
        | some y => exact hi.eval y
      exact lift (sliceQ_sound hi h (hi.eval x) (ov lo) (ov hi'))
  case call c =>
    obtain ⟨callee, args, ts⟩ := c
    simp only at h
    split at h
    · rename_i x t ha ht
      obtain ⟨val, h1, h2⟩ := lenQ_sound (ty := ty) hi ht h (hi.eval x)
      have hargs : args = #[x] := by rw [← Array.toArray_toList (xs := args), ha]
      subst hargs
      exact ⟨val, by simp [execOp, resolve, invoke, builtin, h1], h2⟩
    · rename_i x t ha ht
      obtain ⟨val, h1, h2⟩ := capQ_sound (P := P) (ty := ty) ht h (hi.eval x)
      have hargs : args = #[x] := by rw [← Array.toArray_toList (xs := args), ha]
      subst hargs
      exact ⟨val, by simp [execOp, resolve, invoke, builtin, h1], h2⟩
    · rename_i x y ha
      obtain ⟨val, h1, h2⟩ := maxQ_sound (P := P) (ty := ty) (ts := ts) h (hi.eval x) (hi.eval y)
      have hargs : args = #[x, y] := by rw [← Array.toArray_toList (xs := args), ha]
      subst hargs
      exact ⟨val, by simp [execOp, resolve, invoke, builtin, h1], h2⟩
    · rename_i x y ha
      obtain ⟨val, h1, h2⟩ := minQ_sound (P := P) (ty := ty) (ts := ts) h (hi.eval x) (hi.eval y)
      have hargs : args = #[x, y] := by rw [← Array.toArray_toList (xs := args), ha]
      subst hargs
      exact ⟨val, by simp [execOp, resolve, invoke, builtin, h1], h2⟩
    · cases h
end Go.VL
