/- VL, part 20: from the claim's readings of arguments to frozen data of a type. -/
import Derived.Test.YtlooiifgbiedeaaV18
import Derived.ChangeOld
import Derived.ChangeArms
import Derived.Carry
import Derived.SizedLaws
import Derived.WideShapes
namespace Go.VL
open Go.WideShapes
set_option linter.unusedVariables false
set_option linter.unusedSimpArgs false

mutual
/-- The cells of a value of a type: whole numbers, bools, strings, slices, structs; nothing larger than fits a machine. -/
inductive Ty (P : Program) : TypeId → List T → Prop
  | int {t : TypeId} {k : IntKind} {n : Int} (h : P.underlying t = some (.int k)) (hw : (Lit.int k n).wf = true) : Ty P t [.int k n]
  | bool {t : TypeId} {b : Bool} (h : P.underlying t = some .bool) : Ty P t [.bool b]
  | str {t : TypeId} {s : ByteArray} (h : P.underlying t = some .string) (hs : s.size ≤ reachBytes) : Ty P t [.str s]
  | sl {t e : TypeId} {g : Nat} {es : List (List T)} (h : P.underlying t = some (.slice e)) (he : ∀ x ∈ es, Ty P e x) (hs : es.length * P.bytesOf e ≤ reachBytes) : Ty P t [.sl g es]
  | struct {t : TypeId} {fs : Array Field} {ts : List T} (h : P.underlying t = some (.struct fs)) (hf : TyF P fs.toList ts) : Ty P t ts
inductive TyF (P : Program) : List Field → List T → Prop
  | nil : TyF P [] []
  | cons {f : Field} {fs : List Field} {x y : List T} (h : Ty P f.type x) (hr : TyF P fs y) : TyF P (f :: fs) (x ++ y)
end

/-- Fields that lie one behind another. -/
def tiles (P : Program) : List Field → Nat → Nat → Bool
  | [], o, n => o == n
  | f :: fs, o, n => f.offset == o && tiles P fs (o + P.cellsOf f.type) n
/-- Types that are made of each other and of nothing else. -/
def closedB (P : Program) (l : List TypeId) : Bool := l.all fun t => match P.underlying t with
  | some (.int _) => true
  | some .bool => true
  | some .string => true
  | some (.slice e) => l.contains e && decide (0 < P.cellsOf e)
  | some (.struct fs) => tiles P fs.toList 0 (P.cellsOf t) && fs.toList.all fun f => l.contains f.type
  | _ => false

/-- Cells and what is read there. -/
def FRs (w : World) (cs : List Value) (ts : List T) : Prop := cs.length = ts.length ∧ ∀ (j : Nat) (v : Value) (x : T), cs[j]? = some v → ts[j]? = some x → FR w (fun _ => False) x v

theorem FRs.one {w : World} {v : Value} {x : T} (h : FR w (fun _ => False) x v) : FRs w [v] [x] := by
  refine ⟨rfl, fun j v' x' h1 h2 => ?_⟩
  cases j with
  | zero =>
    simp only [List.getElem?_cons_zero, Option.some.injEq] at h1 h2
    subst h1; subst h2
    exact h
  | succ j => simp at h1
theorem FRs.append {w : World} {cs cs' : List Value} {ts ts' : List T} (h : FRs w cs ts) (h' : FRs w cs' ts') : FRs w (cs ++ cs') (ts ++ ts') := by
  refine ⟨by simp [h.1, h'.1], fun j v x h1 h2 => ?_⟩
  rcases getElem?_append_cases h1 with ⟨k1, k2⟩ | ⟨k1, k2⟩
  · rw [List.getElem?_append_left (by rw [← h.1]; exact k1)] at h2
    exact h.2 j v x k2 h2
  · rw [List.getElem?_append_right (by rw [← h.1]; exact k1), ← h.1] at h2
    exact h'.2 _ v x k2 h2

theorem mapM_get' {α β : Type} {f : α → Option β} : ∀ {l : List α} {l' : List β}, l.mapM f = some l' → l'.length = l.length ∧ ∀ (i : Nat) (x : α), l[i]? = some x → ∃ y, l'[i]? = some y ∧ f x = some y
  | [], l', h => by
    simp only [List.mapM_nil, Option.pure_def, Option.some.injEq] at h
    subst h
    exact ⟨rfl, fun i x hx => by simp at hx⟩
  | a :: l, l', h => by
    rw [List.mapM_cons] at h
    simp only [Option.bind_eq_bind, Option.bind_eq_some_iff, Option.pure_def, Option.some.injEq] at h
    obtain ⟨y, hy, l2, hl2, rfl⟩ := h
    obtain ⟨h1, h2⟩ := mapM_get' hl2
    refine ⟨by simp [h1], fun i x hx => ?_⟩
    cases i with
    | zero =>
      simp only [List.getElem?_cons_zero, Option.some.injEq] at hx
      subst hx
      exact ⟨y, by simp, hy⟩
    | succ i => simpa using h2 i x (by simpa using hx)

theorem cells?_get {w : World} {base : Nat} {a : Addr} {n : Nat} {cs : List Value} (h : w.cells? base a n = some cs) : cs.length = n ∧ ∀ i, i < n → w.cell? (a.add i) = cs[i]? := by
  unfold World.cells? at h
  split at h
  · obtain ⟨h1, h2⟩ := mapM_get' h
    refine ⟨by simpa using h1, fun i hi => ?_⟩
    obtain ⟨y, h3, h4⟩ := h2 i i (by simp [hi])
    rw [h3, h4]
  · cases h

theorem weightsAll_mem {H : Type} {P : Program} {e : TypeId} : ∀ {l : List (DataW H)} {d : DataW H}, d ∈ l → ∀ n ∈ d.weights P e, n ∈ DataW.weightsAll P e l
  | [], _, h, _, _ => by cases h
  | x :: l, d, h, n, hn => by
    simp only [DataW.weightsAll, List.mem_append]
    rcases List.mem_cons.1 h with rfl | h
    · exact .inl hn
    · exact .inr (weightsAll_mem h n hn)

section
variable {H : Type} {enc : TypeId × Value → H} {P : Program} {w : World} {base : Nat} {spare : Nat → Bool} {held : Bool}

theorem fields_of_trod {L : List TypeId} {n : Nat} (ih : ∀ (t : TypeId) (cs : List Value) (d : DataW H) (ps : List MemPlace), t ∈ L → DataW.trod enc P w base spare held n t cs = some (d, ps) → (∀ m ∈ d.weights P t, m ≤ reachBytes) → ∃ ts, Ty P t ts ∧ FRs w cs ts) (cs : List Value) :
    ∀ (fs : List Field) (o : Nat) (xs : List (DataW H × List MemPlace)), (∀ f ∈ fs, f.type ∈ L) → tiles P fs o cs.length = true → xs.length = fs.length →
      (∀ (i : Nat) (f : Field), fs[i]? = some f → DataW.trod enc P w base spare held n f.type ((cs.drop f.offset).take (P.cellsOf f.type)) = xs[i]?) →
      (∀ m ∈ DataW.weightsEach P (fs.map (·.type)) (xs.map (·.1)), m ≤ reachBytes) → ∃ ts, TyF P fs ts ∧ FRs w (cs.drop o) ts
  | [], o, xs, _, ht, _, _, _ => by
    simp only [tiles, beq_iff_eq] at ht
    exact ⟨[], .nil, by rw [List.drop_of_length_le (by omega)]; exact ⟨rfl, fun j v x h => by simp at h⟩⟩
  | f :: fs, o, [], hL, ht, hl, hx, hw => by simp at hl
  | f :: fs, o, (d, ps) :: xs, hL, ht, hl, hx, hw => by
    simp only [tiles, Bool.and_eq_true, beq_iff_eq] at ht
    simp only [List.map_cons, DataW.weightsEach, List.mem_append] at hw
    obtain ⟨t1, k1, k2⟩ := ih f.type _ d ps (hL f List.mem_cons_self) (hx 0 f rfl) (fun m hm => hw m (.inl hm))
    obtain ⟨t2, k3, k4⟩ := fields_of_trod ih cs fs _ xs (fun g hg => hL g (List.mem_cons_of_mem _ hg)) ht.2 (by simpa using hl) (fun i g hg => by simpa using hx (i + 1) g (by simpa using hg)) (fun m hm => hw m (.inr hm))
    refine ⟨t1 ++ t2, .cons k1 k3, ?_⟩
    have := k2.append k4
    rw [ht.1] at this
    rwa [← List.drop_drop, List.take_append_drop] at this

theorem T_of_trod {L : List TypeId} (hL : closedB P L = true) : ∀ (n : Nat) (t : TypeId) (cs : List Value) (d : DataW H) (ps : List MemPlace), t ∈ L → DataW.trod enc P w base spare held n t cs = some (d, ps) → (∀ m ∈ d.weights P t, m ≤ reachBytes) → ∃ ts, Ty P t ts ∧ FRs w cs ts := by
  intro n
  induction n with
  | zero => intro t cs d ps _ h; cases h
  | succ n ih =>
    intro t cs d ps htL h hw
    have hc := List.all_eq_true.1 hL t htL
    cases hu : P.underlying t with
    | none => rw [hu] at hc; cases hc
    | some ds =>
      rw [hu] at hc
      cases ds <;> simp only [Bool.false_eq_true] at hc
      case bool =>
        obtain ⟨b, rfl, _⟩ := DataW.trod_bool hu h
        exact ⟨_, .bool hu, .one (.bool _)⟩
      case int k =>
        obtain ⟨m, rfl, _, hwf⟩ := DataW.trod_int hu h
        exact ⟨_, .int hu hwf, .one (.int _ _)⟩
      case string =>
        obtain ⟨s, rfl, hx, hs⟩ := DataW.trod_string hu h
        simp only [Prod.mk.injEq] at hx
        obtain ⟨rfl, rfl⟩ := hx
        have := hw s.data.toList.length (by simp [DataW.weights])
        exact ⟨_, .str hu (by simpa using this), .one (.str _)⟩
      case slice e =>
        simp only [Bool.and_eq_true, List.contains_iff_mem, decide_eq_true_eq] at hc
        rcases DataW.trod_slice hu h with ⟨rfl, hx⟩ | ⟨a, len, cap, elems, rest, n', hn, rfl, hx, hb, hlc, hcm, hel, hget, _, _⟩
        · exact ⟨[.sl 0 []], .sl hu (by simp) (by simp), .one (.nil _ _ _)⟩
        · simp only [Prod.mk.injEq] at hx
          obtain ⟨rfl, rfl⟩ := hx
          have hnn : n' = n := by omega
          subst hnn
          have hlen : (elems.length + rest.length) * P.bytesOf e ≤ reachBytes := by
            have := hw ((elems.length + rest.length) * P.bytesOf e) (by simp [DataW.weights, hu])
            exact this
          have hwe : ∀ x ∈ elems, ∀ m ∈ x.1.weights P e, m ≤ reachBytes := fun x hx m hm => hw m (by
            simp only [DataW.weights, hu, List.mem_cons, List.mem_append]
            exact .inr (.inl (weightsAll_mem (List.mem_map.2 ⟨x, hx, rfl⟩) m hm)))
          by_cases h0 : len = 0
          · subst h0
            exact ⟨[.sl 0 []], .sl hu (by simp) (by simp), .one (.nil _ _ _)⟩
          · -- element by element
            have hel2 : ∀ i, i < len → ∃ (cs : List Value) (ts : List T), w.cells? base (a.add (i * P.cellsOf e)) (P.cellsOf e) = some cs ∧ Ty P e ts ∧ FRs w cs ts := fun i hi => by
              have h1 := hget i hi
              rw [List.getElem?_eq_getElem (by omega)] at h1
              obtain ⟨cs, h2, h3⟩ := Option.bind_eq_some_iff.1 h1
              obtain ⟨ts, h4, h5⟩ := ih e cs _ _ hc.1 h3 (hwe _ (List.getElem_mem _))
              exact ⟨cs, ts, h2, h4, h5⟩
            have hsp : a.spot = none := by
              obtain ⟨cs, ts, h1, _, _⟩ := hel2 0 (by omega)
              obtain ⟨h2, h3⟩ := cells?_get h1
              have h4 := h3 0 (by omega)
              rw [List.getElem?_eq_getElem (by omega)] at h4
              simp only [Nat.zero_mul, Addr.add, if_true] at h4
              unfold World.cell? at h4
              split at h4
              · split at h4
                · cases h4
                · rename_i hs; simpa using hs
              · cases h4
            have hadd : ∀ m, a.add m = ⟨a.block, a.off + m, none⟩ := fun m => by
              obtain ⟨b, o, s⟩ := a
              simp only at hsp
              subst hsp
              exact addr_add b o m
            classical
            let tsOf : Nat → List T := fun i => if h : i < len then (hel2 i h).choose_spec.choose else []
            have hts : ∀ i (h : i < len), ∃ cs, w.cells? base (a.add (i * P.cellsOf e)) (P.cellsOf e) = some cs ∧ Ty P e (tsOf i) ∧ FRs w cs (tsOf i) := fun i h => by
              have := (hel2 i h).choose_spec.choose_spec
              refine ⟨_, this.1, ?_, ?_⟩
              · show Ty P e (if h : i < len then _ else _); rw [dif_pos h]; exact this.2.1
              · show FRs w _ (if h : i < len then _ else _); rw [dif_pos h]; exact this.2.2
            have hgt : ∀ (i : Nat) (x : List T), ((List.range len).map tsOf)[i]? = some x → i < len ∧ x = tsOf i := fun i x hx => by
              rw [List.getElem?_map] at hx
              obtain ⟨y, h1, rfl⟩ := Option.map_eq_some_iff.1 hx
              obtain ⟨h2, h3⟩ := List.getElem?_eq_some_iff.1 h1
              simp at h2 h3
              subst h3
              exact ⟨h2, rfl⟩
            have hll : ((List.range len).map tsOf).length = len := by simp
            refine ⟨[.sl a.block ((List.range len).map tsOf)], .sl hu (fun x hx => ?_) ?_, .one ?_⟩
            · obtain ⟨i, hi, rfl⟩ := List.mem_map.1 hx
              obtain ⟨cs, _, h2, _⟩ := hts i (List.mem_range.1 hi)
              exact h2
            · rw [hll]
              refine Nat.le_trans (Nat.mul_le_mul_right _ ?_) hlen
              omega
            · have ha : a = ⟨a.block, a.off, none⟩ := by
                obtain ⟨b, o, s⟩ := a
                simp only at hsp
                subst hsp
                rfl
              have hfr : FR w (fun _ => False) (.sl a.block ((List.range len).map tsOf)) (.slice (some ⟨a.block, a.off, none⟩) ((List.range len).map tsOf).length cap) := by
                refine .sl a.block _ a.off cap (P.cellsOf e) (fun i j => (w.cell? ⟨a.block, a.off + i * P.cellsOf e + j, none⟩).getD Go.undef) (by rw [hll]; exact hlc) ?_ (fun h => h) (fun i x hx => ?_) (fun i j x t hx ht => ?_) (fun i j x t hx ht => ?_)
                · obtain ⟨cs, h1, _, _⟩ := hts 0 (by omega)
                  obtain ⟨h2, h3⟩ := cells?_get h1
                  have h4 := h3 0 (by omega)
                  rw [List.getElem?_eq_getElem (by omega), hadd, addr_add] at h4
                  exact World.block_lt_of_cell? w ⟨a.block, a.off + 0 * P.cellsOf e + 0, none⟩ h4
                · obtain ⟨hi, rfl⟩ := hgt i x hx
                  obtain ⟨cs, h1, _, h3⟩ := hts i hi
                  rw [← h3.1, (cells?_get h1).1]
                · obtain ⟨hi, rfl⟩ := hgt i x hx
                  obtain ⟨cs, h1, _, h3⟩ := hts i hi
                  obtain ⟨h4, h5⟩ := cells?_get h1
                  have hj : j < cs.length := by rw [h3.1]; exact (List.getElem?_eq_some_iff.1 ht).1
                  have h6 := h5 j (by omega)
                  rw [List.getElem?_eq_getElem hj, hadd, addr_add] at h6
                  rw [h6]
                  rfl
                · obtain ⟨hi, rfl⟩ := hgt i x hx
                  obtain ⟨cs, h1, _, h3⟩ := hts i hi
                  obtain ⟨h4, h5⟩ := cells?_get h1
                  have hj : j < cs.length := by rw [h3.1]; exact (List.getElem?_eq_some_iff.1 ht).1
                  have h6 := h5 j (by omega)
                  rw [List.getElem?_eq_getElem hj, hadd, addr_add] at h6
                  simp only [h6, Option.getD_some]
                  exact h3.2 j _ t (List.getElem?_eq_getElem hj) ht
              rw [hll, ← ha] at hfr
              exact hfr
      case struct fs =>
        simp only [Bool.and_eq_true] at hc
        obtain ⟨xs, n', hn, hx, hl, hlx, hget⟩ := DataW.trod_struct hu h
        have hnn : n' = n := by omega
        subst hnn
        simp only [Prod.mk.injEq] at hx
        obtain ⟨rfl, rfl⟩ := hx
        obtain ⟨ts, h1, h2⟩ := fields_of_trod ih cs fs.toList 0 xs (fun f hf => by simpa using List.all_eq_true.1 hc.2 f hf) (by rw [hl]; exact hc.1) (by simpa using hlx) (fun i f hf => hget i f (by simpa using hf)) (fun m hm => hw m (by simpa [DataW.weights, hu] using hm))
        exact ⟨ts, .struct hu h1, h2⟩
end

/-! ### arguments -/
/-- A value of a type as V: a struct by its cells, another by its one. -/
def vOf (P : Program) (t : TypeId) (ts : List T) : V := match P.underlying t with
  | some (.struct _) => .agg (ts.map .t)
  | _ => match ts with | [x] => .t x | _ => .undef

theorem VR_of_Trod {H : Type} {enc : TypeId × Value → H} {P : Program} {w : World} {spare : Nat → Bool} {held : Bool} {L : List TypeId} (hL : closedB P L = true) {t : TypeId} (ht : t ∈ L) {base : Nat} {r : Reach} {v : Value} {d : DataW H} {ps : List MemPlace}
    (hv : Value.okWide P w r base t v) (h : DataW.Trod enc P w 0 spare held t v d ps) (hw : ∀ m ∈ d.weights P t, m ≤ reachBytes) : ∃ ts, Ty P t ts ∧ VR w (fun _ => False) [] (vOf P t ts) v := by
  obtain ⟨n, h⟩ := h
  obtain ⟨ts, h1, h2⟩ := T_of_trod hL n t _ d ps ht h hw
  refine ⟨ts, h1, ?_⟩
  have hav : ∀ b, ¬ (fun _ : Nat => False) b → b < w.heap.size → ¬ AV (fun _ => False) [] b := fun b _ _ hb => by
    rcases hb with hb | ⟨r, o, hr, _⟩
    · exact hb
    · simp at hr
  have conv : ∀ {x : T} {y : Value}, FR w (fun _ => False) x y → VR w (fun _ => False) [] (.t x) y := fun hx => .t (hx.mono (Nat.le_refl _) (fun _ _ _ => rfl) hav)
  have one : ∀ {y : Value} {x : T}, FRs w [y] [x] → VR w (fun _ => False) [] (.t x) y := fun hf => conv (hf.2 0 _ _ rfl rfl)
  unfold vOf
  have hc := List.all_eq_true.1 hL t ht
  cases hu : P.underlying t with
  | none => rw [hu] at hc; cases hc
  | some ds =>
    rw [hu] at hc
    cases ds <;> simp only [Bool.false_eq_true] at hc
    case bool =>
      obtain ⟨b, rfl⟩ := okWide_bool hu hv
      cases h1 <;> simp_all
      exact one h2
    case int k =>
      obtain ⟨m, rfl⟩ := okWide_int hu hv
      cases h1 <;> simp_all
      exact one h2
    case string =>
      obtain ⟨s, rfl⟩ := okWide_string hu hv
      cases h1 <;> simp_all
      exact one h2
    case slice e =>
      obtain ⟨a, l, c, rfl⟩ := okWide_slice hu hv
      cases h1 <;> simp_all
      exact one h2
    case struct fs =>
      obtain ⟨cs, rfl, hcs⟩ := okWide_struct hu hv
      have h3 : FRs w cs.toList ts := h2
      refine .agg (by have := h3.1; simpa using this) (fun i c hc => ?_)
      rw [List.getElem?_map] at hc
      obtain ⟨x, hx, rfl⟩ := Option.map_eq_some_iff.1 hc
      have hlt : i < cs.size := by have := (List.getElem?_eq_some_iff.1 hx).1; have := h3.1; simp at this; omega
      have := h3.2 i cs[i] x (by simp [hlt]) hx
      rw [Array.getD_eq_getD_getElem?, Array.getElem?_eq_getElem hlt]
      exact conv this
end Go.VL
