/- A logic of values for walks: parts 17 to 33. -/
import Derived.Test.YtgeofeckmaiebaaDoorV9
import Derived.Tactics
import Derived.ChangeOld
import Derived.ChangeArms
import Derived.Carry
import Derived.SizedLaws
import Derived.WideShapes
namespace Go.VL
theorem leaf_t (x : T) : V.leaf (.t x) = true := rfl
theorem leaf_nil : V.leaf .nil0 = true := rfl
theorem leaf_own (r v o l : Nat) : V.leaf (.own r v o l) = true := rfl
theorem leaf_ptr (r v o l : Nat) : V.leaf (.ptr r v o l) = true := rfl
theorem leaf_fz (e : List T) (j : Nat) : V.leaf (.fz e j) = true := rfl
theorem leaf_fn (f : FuncId) (cs : List V) : V.leaf (.fn f cs) = true := rfl
theorem leaf_map (r : Nat) : V.leaf (.map r) = true := rfl
theorem leaf_err (b : Bool) : V.leaf (.err b) = true := rfl
theorem leaf_agg (cs : List V) : V.leaf (.agg cs) = false := rfl
theorem solid_t (x : T) : V.solid (.t x) = true := rfl
theorem cells_t (x : T) : V.cells (.t x) = [.t x] := rfl
theorem isVal_t (x : T) : V.isVal (.t x) = true := rfl
theorem solid_nil  : V.solid (.nil0) = true := rfl
theorem cells_nil  : V.cells (.nil0) = [.nil0] := rfl
theorem isVal_nil  : V.isVal (.nil0) = true := rfl
theorem solid_own (r v o l : Nat) : V.solid (.own r v o l) = true := rfl
theorem cells_own (r v o l : Nat) : V.cells (.own r v o l) = [.own r v o l] := rfl
theorem isVal_own (r v o l : Nat) : V.isVal (.own r v o l) = true := rfl
theorem solid_ptr (r v o l : Nat) : V.solid (.ptr r v o l) = true := rfl
theorem cells_ptr (r v o l : Nat) : V.cells (.ptr r v o l) = [.ptr r v o l] := rfl
theorem isVal_ptr (r v o l : Nat) : V.isVal (.ptr r v o l) = true := rfl
theorem solid_fz (e : List T) (j : Nat) : V.solid (.fz e j) = true := rfl
theorem cells_fz (e : List T) (j : Nat) : V.cells (.fz e j) = [.fz e j] := rfl
theorem isVal_fz (e : List T) (j : Nat) : V.isVal (.fz e j) = true := rfl
theorem solid_fn (f : FuncId) (cs : List V) : V.solid (.fn f cs) = true := rfl
theorem cells_fn (f : FuncId) (cs : List V) : V.cells (.fn f cs) = [.fn f cs] := rfl
theorem isVal_fn (f : FuncId) (cs : List V) : V.isVal (.fn f cs) = true := rfl
theorem solid_map (r : Nat) : V.solid (.map r) = true := rfl
theorem cells_map (r : Nat) : V.cells (.map r) = [.map r] := rfl
theorem isVal_map (r : Nat) : V.isVal (.map r) = true := rfl
theorem solid_err (b : Bool) : V.solid (.err b) = true := rfl
theorem cells_err (b : Bool) : V.cells (.err b) = [.err b] := rfl
theorem isVal_err (b : Bool) : V.isVal (.err b) = true := rfl
theorem solid_agg (cs : List V) : V.solid (.agg cs) = cs.all V.leaf := rfl
theorem cells_agg (cs : List V) : V.cells (.agg cs) = cs := rfl
theorem isVal_agg (cs : List V) : V.isVal (.agg cs) = true := rfl
theorem solid_of {v : V} (h : v.leaf = true) : v.solid = true := by cases v <;> first | exact h | exact absurd h (by simp [V.leaf])
theorem cells_of {v : V} (h : v.leaf = true) : v.cells = [v] := by cases v <;> first | rfl | exact absurd h (by simp [V.leaf])
theorem isVal_of {v : V} (h : v.leaf = true) : v.isVal = true := by cases v <;> first | exact h | exact absurd h (by simp [V.leaf])
attribute [go_sem] solid_t cells_t isVal_t solid_nil cells_nil isVal_nil solid_own cells_own isVal_own solid_ptr cells_ptr isVal_ptr solid_fz cells_fz isVal_fz solid_fn cells_fn isVal_fn solid_map cells_map isVal_map solid_err cells_err isVal_err solid_agg cells_agg isVal_agg
attribute [go_sem] q_at_sl0 q_at_own0 q_at_str0 sliceB_none sliceB_nat sliceB_0 sliceB_1 q_slice_str Option.map_none
attribute [go_sem] List.map_cons List.map_nil x_move x_assign x_pick x_load x_nilCheck x_bin x_un x_conv x_func x_fieldAddr x_field x_indexAddr x_index x_extract x_build x_slice x_len x_cap x_max x_min x_guard guardV vcXG x_box x_alloc x_makeSlice x_store vcXN_some boxQ_agg boxQ_t boxQ_nil boxQ_fn boxQ_own boxQ_ptr vcXM_some ezero ebytes vcXS_some stQ pk ev_tmp ev_int ev_bool ev_str ev_nil ev_err ev_agg ev_func vcXQ_some vcXQ_some0 vcX_nil upd envOf0 envOfS St.put loadQ St.cells lenQ fieldAddrQ fieldQ opQ opI isSh opStr opU St.live q_at_sl q_at_own q_at_str esize extractQ maxQ minQ thenK blockK Bool.false_eq_true List.length_cons List.length_nil List.length_map List.drop_zero List.drop_succ_cons List.take_zero List.take_succ_cons Nat.zero_add Nat.add_zero Nat.le_refl List.getElem?_toArray List.getElem?_cons_zero List.getElem?_cons_succ List.getElem?_map Option.map_some Option.bind_some Nat.succ_ne_self List.nil_append List.cons_append leaf_t leaf_nil leaf_own leaf_ptr leaf_fz leaf_fn leaf_map leaf_err leaf_agg setV List.set_cons_zero List.set_cons_succ List.all_cons List.all_nil Bool.and_true and_true true_and and_self w64 List.getElem?_eq_getElem beq_self_eq_true Bool.not_true Bool.not_false decide_true decide_false
attribute [go_sem] decide_eq_true_eq decide_eq_false_iff_not Int.ofNat_lt Int.ofNat_le Bool.not_eq_true' Bool.not_eq_false' bne_iff_ne beq_iff_eq beq_eq_false_iff_ne bne_eq_false_iff_eq Bool.not_eq_true Bool.not_eq_false Int.not_lt Int.not_le Nat.not_lt Nat.not_le gt_iff_lt ge_iff_le ne_eq Decidable.not_not
end Go.VL
namespace Go.VL
set_option linter.unusedVariables false
set_option linter.unusedSimpArgs false

/-- A row that is filled from the front. -/
theorem fill_get {α : Type} (acc : List α) (k : Nat) (z : α) (hk : 0 < k) : (acc ++ List.replicate k z)[acc.length]? = some z := by
  rw [List.getElem?_append_right (Nat.le_refl _), Nat.sub_self, List.getElem?_replicate]
  simp [hk]
theorem fill_set {α : Type} (acc : List α) (k : Nat) (z v : α) (hk : 0 < k) : (acc ++ List.replicate k z).set acc.length v = (acc ++ [v]) ++ List.replicate (k - 1) z := by
  rw [List.set_append_right _ _ (Nat.le_refl _), Nat.sub_self]
  cases k with
  | zero => omega
  | succ k => simp [List.replicate_succ]
theorem replicate_zero' {α : Type} (z : α) : List.replicate 0 z = [] := rfl

theorem frz_t (σ : List Ob) (bor : List Nat) (n : Nat) (x : T) : frz σ bor n (.t x) = some x := by cases n <;> rfl
theorem mapM_frz (σ : List Ob) (bor : List Nat) (n : Nat) : ∀ l : List T, (l.map V.t).mapM (frz σ bor n) = some l
  | [] => rfl
  | x :: l => by rw [List.map_cons, List.mapM_cons, frz_t, mapM_frz σ bor n l]; rfl
theorem mapM_mapM_frz (σ : List Ob) (bor : List Nat) (n : Nat) : ∀ l : List (List T), (l.map (·.map V.t)).mapM (fun e => e.mapM (frz σ bor n)) = some l
  | [] => rfl
  | x :: l => by rw [List.map_cons, List.mapM_cons, mapM_frz, mapM_mapM_frz σ bor n l]; rfl
theorem frz_row {σ : List Ob} {bor : List Nat} {n r g v sz m len : Nat} {ts : List (List T)} (hr : σ[r]? = some (.row g v sz m (ts.map (·.map V.t)))) (hb : r ∈ bor) (hl : len = ts.length) : frz σ bor (n + 1) (.own r v 0 len) = some (.sl g ts) := by
  unfold frz
  rw [if_pos hb, hr]
  simp only [if_true, List.drop_zero, hl]
  rw [List.take_of_length_le (by simp), mapM_mapM_frz]
/-- A row of one's own, frozen as it is handed out. -/
theorem loc_frz {σ : List Ob} {bor : List Nat} {r g v sz m len : Nat} {es : List (List V)} (ts : List (List T)) (hr : σ[r]? = some (.row g v sz m es)) (he : es = ts.map (·.map V.t)) (hb : r ∈ bor) (hl : len = ts.length) : (V.own r v 0 len).loc σ [] bor = .t (.sl g ts) := by
  subst he
  simp only [V.loc, idx, frz_row hr hb hl]

theorem gc_env (s : St) (keep bor : List Nat) (t : Nat) : (s.gc keep bor).env t = (s.env t).loc s.σ keep bor := rfl
theorem gc_σ (s : St) (keep bor : List Nat) : (s.gc keep bor).σ = locObs s.σ keep bor := rfl
theorem max_cast (a b : Nat) : max (a : Int) (b : Int) = ((max a b : Nat) : Int) := by omega
theorem min_cast (a b : Nat) : min (a : Int) (b : Int) = ((min a b : Nat) : Int) := by omega
def sumB : List ByteArray → Nat
  | [] => 0
  | x :: l => x.size + sumB l
end Go.VL
namespace Go.VL
open Go.WideShapes
set_option linter.unusedVariables false
set_option linter.unusedSimpArgs false

mutual
/-- The cells of a value of a type: whole numbers, bools, strings, slices, structs; nothing larger than fits a machine. -/
inductive Ty (P : Program) : TypeId → List T → Prop
  | int {t : TypeId} {k : IntKind} {n : Int} (h : P.underlying t = some (.int k)) (hw : (Lit.int k n).wf = true) : Ty P t [.int k n]
  | bool {t : TypeId} {b : Bool} (h : P.underlying t = some .bool) : Ty P t [.bool b]
  | str {t : TypeId} {s : ByteArray} (h : P.underlying t = some .string) (hs : s.size ≤ reachBytes) : Ty P t [.str s]
  | sl {t e : TypeId} {g : Nat} {es : List (List T)} (h : P.underlying t = some (.slice e)) (he : ∀ x ∈ es, Ty P e x) (hs : es.length * P.bytesOf e ≤ reachBytes) : Ty P t [.sl g es]
  | struct {t : TypeId} {fs : Array Field} {ts : List T} (h : P.underlying t = some (.struct fs)) (hf : TyF P fs.toList ts) : Ty P t ts
inductive TyF (P : Program) : List Field → List T → Prop
  | nil : TyF P [] []
  | cons {f : Field} {fs : List Field} {x y : List T} (h : Ty P f.type x) (hr : TyF P fs y) : TyF P (f :: fs) (x ++ y)
end

/-- Fields that lie one behind another. -/
def tiles (P : Program) : List Field → Nat → Nat → Bool
  | [], o, n => o == n
  | f :: fs, o, n => f.offset == o && tiles P fs (o + P.cellsOf f.type) n
/-- Types that are made of each other and of nothing else. -/
def closedB (P : Program) (l : List TypeId) : Bool := l.all fun t => match P.underlying t with
  | some (.int _) => true
  | some .bool => true
  | some .string => true
  | some (.slice e) => l.contains e && decide (0 < P.cellsOf e)
  | some (.struct fs) => tiles P fs.toList 0 (P.cellsOf t) && fs.toList.all fun f => l.contains f.type
  | _ => false

/-- Cells and what is read there. -/
def FRs (w : World) (cs : List Value) (ts : List T) : Prop := cs.length = ts.length ∧ ∀ (j : Nat) (v : Value) (x : T), cs[j]? = some v → ts[j]? = some x → FR w (fun _ => False) x v

theorem FRs.one {w : World} {v : Value} {x : T} (h : FR w (fun _ => False) x v) : FRs w [v] [x] := by
  refine ⟨rfl, fun j v' x' h1 h2 => ?_⟩
  cases j with
  | zero =>
    simp only [List.getElem?_cons_zero, Option.some.injEq] at h1 h2
    subst h1; subst h2
    exact h
  | succ j => simp at h1
theorem FRs.append {w : World} {cs cs' : List Value} {ts ts' : List T} (h : FRs w cs ts) (h' : FRs w cs' ts') : FRs w (cs ++ cs') (ts ++ ts') := by
  refine ⟨by simp [h.1, h'.1], fun j v x h1 h2 => ?_⟩
  rcases getElem?_append_cases h1 with ⟨k1, k2⟩ | ⟨k1, k2⟩
  · rw [List.getElem?_append_left (by rw [← h.1]; exact k1)] at h2
    exact h.2 j v x k2 h2
  · rw [List.getElem?_append_right (by rw [← h.1]; exact k1), ← h.1] at h2
    exact h'.2 _ v x k2 h2

theorem mapM_get' {α β : Type} {f : α → Option β} : ∀ {l : List α} {l' : List β}, l.mapM f = some l' → l'.length = l.length ∧ ∀ (i : Nat) (x : α), l[i]? = some x → ∃ y, l'[i]? = some y ∧ f x = some y
  | [], l', h => by
    simp only [List.mapM_nil, Option.pure_def, Option.some.injEq] at h
    subst h
    exact ⟨rfl, fun i x hx => by simp at hx⟩
  | a :: l, l', h => by
    rw [List.mapM_cons] at h
    simp only [Option.bind_eq_bind, Option.bind_eq_some_iff, Option.pure_def, Option.some.injEq] at h
    obtain ⟨y, hy, l2, hl2, rfl⟩ := h
    obtain ⟨h1, h2⟩ := mapM_get' hl2
    refine ⟨by simp [h1], fun i x hx => ?_⟩
    cases i with
    | zero =>
      simp only [List.getElem?_cons_zero, Option.some.injEq] at hx
      subst hx
      exact ⟨y, by simp, hy⟩
    | succ i => simpa using h2 i x (by simpa using hx)

theorem cells?_get {w : World} {base : Nat} {a : Addr} {n : Nat} {cs : List Value} (h : w.cells? base a n = some cs) : cs.length = n ∧ ∀ i, i < n → w.cell? (a.add i) = cs[i]? := by
  unfold World.cells? at h
  split at h
  · obtain ⟨h1, h2⟩ := mapM_get' h
    refine ⟨by simpa using h1, fun i hi => ?_⟩
    obtain ⟨y, h3, h4⟩ := h2 i i (by simp [hi])
    rw [h3, h4]
  · cases h

theorem weightsAll_mem {H : Type} {P : Program} {e : TypeId} : ∀ {l : List (DataW H)} {d : DataW H}, d ∈ l → ∀ n ∈ d.weights P e, n ∈ DataW.weightsAll P e l
  | [], _, h, _, _ => by cases h
  | x :: l, d, h, n, hn => by
    simp only [DataW.weightsAll, List.mem_append]
    rcases List.mem_cons.1 h with rfl | h
    · exact .inl hn
    · exact .inr (weightsAll_mem h n hn)

section
variable {H : Type} {enc : TypeId × Value → H} {P : Program} {w : World} {base : Nat} {spare : Nat → Bool} {held : Bool}

theorem fields_of_trod {L : List TypeId} {n : Nat} (ih : ∀ (t : TypeId) (cs : List Value) (d : DataW H) (ps : List MemPlace), t ∈ L → DataW.trod enc P w base spare held n t cs = some (d, ps) → (∀ m ∈ d.weights P t, m ≤ reachBytes) → ∃ ts, Ty P t ts ∧ FRs w cs ts) (cs : List Value) :
    ∀ (fs : List Field) (o : Nat) (xs : List (DataW H × List MemPlace)), (∀ f ∈ fs, f.type ∈ L) → tiles P fs o cs.length = true → xs.length = fs.length →
      (∀ (i : Nat) (f : Field), fs[i]? = some f → DataW.trod enc P w base spare held n f.type ((cs.drop f.offset).take (P.cellsOf f.type)) = xs[i]?) →
      (∀ m ∈ DataW.weightsEach P (fs.map (·.type)) (xs.map (·.1)), m ≤ reachBytes) → ∃ ts, TyF P fs ts ∧ FRs w (cs.drop o) ts
  | [], o, xs, _, ht, _, _, _ => by
    simp only [tiles, beq_iff_eq] at ht
    exact ⟨[], .nil, by rw [List.drop_of_length_le (by omega)]; exact ⟨rfl, fun j v x h => by simp at h⟩⟩
  | f :: fs, o, [], hL, ht, hl, hx, hw => by simp at hl
  | f :: fs, o, (d, ps) :: xs, hL, ht, hl, hx, hw => by
    simp only [tiles, Bool.and_eq_true, beq_iff_eq] at ht
    simp only [List.map_cons, DataW.weightsEach, List.mem_append] at hw
    obtain ⟨t1, k1, k2⟩ := ih f.type _ d ps (hL f List.mem_cons_self) (hx 0 f rfl) (fun m hm => hw m (.inl hm))
    obtain ⟨t2, k3, k4⟩ := fields_of_trod ih cs fs _ xs (fun g hg => hL g (List.mem_cons_of_mem _ hg)) ht.2 (by simpa using hl) (fun i g hg => by simpa using hx (i + 1) g (by simpa using hg)) (fun m hm => hw m (.inr hm))
    refine ⟨t1 ++ t2, .cons k1 k3, ?_⟩
    have := k2.append k4
    rw [ht.1] at this
    rwa [← List.drop_drop, List.take_append_drop] at this

theorem T_of_trod {L : List TypeId} (hL : closedB P L = true) : ∀ (n : Nat) (t : TypeId) (cs : List Value) (d : DataW H) (ps : List MemPlace), t ∈ L → DataW.trod enc P w base spare held n t cs = some (d, ps) → (∀ m ∈ d.weights P t, m ≤ reachBytes) → ∃ ts, Ty P t ts ∧ FRs w cs ts := by
  intro n
  induction n with
  | zero => intro t cs d ps _ h; cases h
  | succ n ih =>
    intro t cs d ps htL h hw
    have hc := List.all_eq_true.1 hL t htL
    cases hu : P.underlying t with
    | none => rw [hu] at hc; cases hc
    | some ds =>
      rw [hu] at hc
      cases ds <;> simp only [Bool.false_eq_true] at hc
      case bool =>
        obtain ⟨b, rfl, _⟩ := DataW.trod_bool hu h
        exact ⟨_, .bool hu, .one (.bool _)⟩
      case int k =>
        obtain ⟨m, rfl, _, hwf⟩ := DataW.trod_int hu h
        exact ⟨_, .int hu hwf, .one (.int _ _)⟩
      case string =>
        obtain ⟨s, rfl, hx, hs⟩ := DataW.trod_string hu h
        simp only [Prod.mk.injEq] at hx
        obtain ⟨rfl, rfl⟩ := hx
        have := hw s.data.toList.length (by simp [DataW.weights])
        exact ⟨_, .str hu (by simpa using this), .one (.str _)⟩
      case slice e =>
        simp only [Bool.and_eq_true, List.contains_iff_mem, decide_eq_true_eq] at hc
        rcases DataW.trod_slice hu h with ⟨rfl, hx⟩ | ⟨a, len, cap, elems, rest, n', hn, rfl, hx, hb, hlc, hcm, hel, hget, _, _⟩
        · exact ⟨[.sl 0 []], .sl hu (by simp) (by simp), .one (.nil _ _ _)⟩
        · simp only [Prod.mk.injEq] at hx
          obtain ⟨rfl, rfl⟩ := hx
          have hnn : n' = n := by omega
          subst hnn
          have hlen : (elems.length + rest.length) * P.bytesOf e ≤ reachBytes := by
            have := hw ((elems.length + rest.length) * P.bytesOf e) (by simp [DataW.weights, hu])
            exact this
          have hwe : ∀ x ∈ elems, ∀ m ∈ x.1.weights P e, m ≤ reachBytes := fun x hx m hm => hw m (by
            simp only [DataW.weights, hu, List.mem_cons, List.mem_append]
            exact .inr (.inl (weightsAll_mem (List.mem_map.2 ⟨x, hx, rfl⟩) m hm)))
          by_cases h0 : len = 0
          · subst h0
            exact ⟨[.sl 0 []], .sl hu (by simp) (by simp), .one (.nil _ _ _)⟩
          · -- element by element
            have hel2 : ∀ i, i < len → ∃ (cs : List Value) (ts : List T), w.cells? base (a.add (i * P.cellsOf e)) (P.cellsOf e) = some cs ∧ Ty P e ts ∧ FRs w cs ts := fun i hi => by
              have h1 := hget i hi
              rw [List.getElem?_eq_getElem (by omega)] at h1
              obtain ⟨cs, h2, h3⟩ := Option.bind_eq_some_iff.1 h1
              obtain ⟨ts, h4, h5⟩ := ih e cs _ _ hc.1 h3 (hwe _ (List.getElem_mem _))
              exact ⟨cs, ts, h2, h4, h5⟩
            have hsp : a.spot = none := by
              obtain ⟨cs, ts, h1, _, _⟩ := hel2 0 (by omega)
              obtain ⟨h2, h3⟩ := cells?_get h1
              have h4 := h3 0 (by omega)
              rw [List.getElem?_eq_getElem (by omega)] at h4
              simp only [Nat.zero_mul, Addr.add, if_true] at h4
              unfold World.cell? at h4
              split at h4
              · split at h4
                · cases h4
                · rename_i hs; simpa using hs
              · cases h4
            have hadd : ∀ m, a.add m = ⟨a.block, a.off + m, none⟩ := fun m => by
              obtain ⟨b, o, s⟩ := a
              simp only at hsp
              subst hsp
              exact addr_add b o m
            classical
            let tsOf : Nat → List T := fun i => if h : i < len then (hel2 i h).choose_spec.choose else []
            have hts : ∀ i (h : i < len), ∃ cs, w.cells? base (a.add (i * P.cellsOf e)) (P.cellsOf e) = some cs ∧ Ty P e (tsOf i) ∧ FRs w cs (tsOf i) := fun i h => by
              have := (hel2 i h).choose_spec.choose_spec
              refine ⟨_, this.1, ?_, ?_⟩
              · show Ty P e (if h : i < len then _ else _); rw [dif_pos h]; exact this.2.1
              · show FRs w _ (if h : i < len then _ else _); rw [dif_pos h]; exact this.2.2
            have hgt : ∀ (i : Nat) (x : List T), ((List.range len).map tsOf)[i]? = some x → i < len ∧ x = tsOf i := fun i x hx => by
              rw [List.getElem?_map] at hx
              obtain ⟨y, h1, rfl⟩ := Option.map_eq_some_iff.1 hx
              obtain ⟨h2, h3⟩ := List.getElem?_eq_some_iff.1 h1
              simp at h2 h3
              subst h3
              exact ⟨h2, rfl⟩
            have hll : ((List.range len).map tsOf).length = len := by simp
            refine ⟨[.sl a.block ((List.range len).map tsOf)], .sl hu (fun x hx => ?_) ?_, .one ?_⟩
            · obtain ⟨i, hi, rfl⟩ := List.mem_map.1 hx
              obtain ⟨cs, _, h2, _⟩ := hts i (List.mem_range.1 hi)
              exact h2
            · rw [hll]
              refine Nat.le_trans (Nat.mul_le_mul_right _ ?_) hlen
              omega
            · have ha : a = ⟨a.block, a.off, none⟩ := by
                obtain ⟨b, o, s⟩ := a
                simp only at hsp
                subst hsp
                rfl
              have hfr : FR w (fun _ => False) (.sl a.block ((List.range len).map tsOf)) (.slice (some ⟨a.block, a.off, none⟩) ((List.range len).map tsOf).length cap) := by
                refine .sl a.block _ a.off cap (P.cellsOf e) (fun i j => (w.cell? ⟨a.block, a.off + i * P.cellsOf e + j, none⟩).getD Go.undef) (by rw [hll]; exact hlc) ?_ (fun h => h) (fun i x hx => ?_) (fun i j x t hx ht => ?_) (fun i j x t hx ht => ?_)
                · obtain ⟨cs, h1, _, _⟩ := hts 0 (by omega)
                  obtain ⟨h2, h3⟩ := cells?_get h1
                  have h4 := h3 0 (by omega)
                  rw [List.getElem?_eq_getElem (by omega), hadd, addr_add] at h4
                  exact World.block_lt_of_cell? w ⟨a.block, a.off + 0 * P.cellsOf e + 0, none⟩ h4
                · obtain ⟨hi, rfl⟩ := hgt i x hx
                  obtain ⟨cs, h1, _, h3⟩ := hts i hi
                  rw [← h3.1, (cells?_get h1).1]
                · obtain ⟨hi, rfl⟩ := hgt i x hx
                  obtain ⟨cs, h1, _, h3⟩ := hts i hi
                  obtain ⟨h4, h5⟩ := cells?_get h1
                  have hj : j < cs.length := by rw [h3.1]; exact (List.getElem?_eq_some_iff.1 ht).1
                  have h6 := h5 j (by omega)
                  rw [List.getElem?_eq_getElem hj, hadd, addr_add] at h6
                  rw [h6]
                  rfl
                · obtain ⟨hi, rfl⟩ := hgt i x hx
                  obtain ⟨cs, h1, _, h3⟩ := hts i hi
                  obtain ⟨h4, h5⟩ := cells?_get h1
                  have hj : j < cs.length := by rw [h3.1]; exact (List.getElem?_eq_some_iff.1 ht).1
                  have h6 := h5 j (by omega)
                  rw [List.getElem?_eq_getElem hj, hadd, addr_add] at h6
                  simp only [h6, Option.getD_some]
                  exact h3.2 j _ t (List.getElem?_eq_getElem hj) ht
              rw [hll, ← ha] at hfr
              exact hfr
      case struct fs =>
        simp only [Bool.and_eq_true] at hc
        obtain ⟨xs, n', hn, hx, hl, hlx, hget⟩ := DataW.trod_struct hu h
        have hnn : n' = n := by omega
        subst hnn
        simp only [Prod.mk.injEq] at hx
        obtain ⟨rfl, rfl⟩ := hx
        obtain ⟨ts, h1, h2⟩ := fields_of_trod ih cs fs.toList 0 xs (fun f hf => by simpa using List.all_eq_true.1 hc.2 f hf) (by rw [hl]; exact hc.1) (by simpa using hlx) (fun i f hf => hget i f (by simpa using hf)) (fun m hm => hw m (by simpa [DataW.weights, hu] using hm))
        exact ⟨ts, .struct hu h1, h2⟩
end

/-! ### arguments -/
/-- A value of a type as V: a struct by its cells, another by its one. -/
def vOf (P : Program) (t : TypeId) (ts : List T) : V := match P.underlying t with
  | some (.struct _) => .agg (ts.map .t)
  | _ => match ts with | [x] => .t x | _ => .undef

theorem VR_of_Trod {H : Type} {enc : TypeId × Value → H} {P : Program} {w : World} {spare : Nat → Bool} {held : Bool} {L : List TypeId} (hL : closedB P L = true) {t : TypeId} (ht : t ∈ L) {base : Nat} {r : Reach} {v : Value} {d : DataW H} {ps : List MemPlace}
    (hv : Value.okWide P w r base t v) (h : DataW.Trod enc P w 0 spare held t v d ps) (hw : ∀ m ∈ d.weights P t, m ≤ reachBytes) : ∃ ts, Ty P t ts ∧ VR w (fun _ => False) [] (vOf P t ts) v := by
  obtain ⟨n, h⟩ := h
  obtain ⟨ts, h1, h2⟩ := T_of_trod hL n t _ d ps ht h hw
  refine ⟨ts, h1, ?_⟩
  have hav : ∀ b, ¬ (fun _ : Nat => False) b → b < w.heap.size → ¬ AV (fun _ => False) [] b := fun b _ _ hb => by
    rcases hb with hb | ⟨r, o, hr, _⟩
    · exact hb
    · simp at hr
  have conv : ∀ {x : T} {y : Value}, FR w (fun _ => False) x y → VR w (fun _ => False) [] (.t x) y := fun hx => .t (hx.mono (Nat.le_refl _) (fun _ _ _ => rfl) hav)
  have one : ∀ {y : Value} {x : T}, FRs w [y] [x] → VR w (fun _ => False) [] (.t x) y := fun hf => conv (hf.2 0 _ _ rfl rfl)
  unfold vOf
  have hc := List.all_eq_true.1 hL t ht
  cases hu : P.underlying t with
  | none => rw [hu] at hc; cases hc
  | some ds =>
    rw [hu] at hc
    cases ds <;> simp only [Bool.false_eq_true] at hc
    case bool =>
      obtain ⟨b, rfl⟩ := okWide_bool hu hv
      cases h1 <;> simp_all
      exact one h2
    case int k =>
      obtain ⟨m, rfl⟩ := okWide_int hu hv
      cases h1 <;> simp_all
      exact one h2
    case string =>
      obtain ⟨s, rfl⟩ := okWide_string hu hv
      cases h1 <;> simp_all
      exact one h2
    case slice e =>
      obtain ⟨a, l, c, rfl⟩ := okWide_slice hu hv
      cases h1 <;> simp_all
      exact one h2
    case struct fs =>
      obtain ⟨cs, rfl, hcs⟩ := okWide_struct hu hv
      have h3 : FRs w cs.toList ts := h2
      refine .agg (by have := h3.1; simpa using this) (fun i c hc => ?_)
      rw [List.getElem?_map] at hc
      obtain ⟨x, hx, rfl⟩ := Option.map_eq_some_iff.1 hc
      have hlt : i < cs.size := by have := (List.getElem?_eq_some_iff.1 hx).1; have := h3.1; simp at this; omega
      have := h3.2 i cs[i] x (by simp [hlt]) hx
      rw [Array.getD_eq_getD_getElem?, Array.getElem?_eq_getElem hlt]
      exact conv this
end Go.VL
namespace Go.VL
open Go.RowKit
set_option linter.unusedVariables false
set_option linter.unusedSimpArgs false
section
variable {W0 : World} {P : Program} {t : TypeId} {ts : List T}
theorem Ty.inv_int {k : IntKind} (hu : P.underlying t = some (.int k)) (h : Ty P t ts) : ∃ n, ts = [.int k n] ∧ (Lit.int k n).wf = true := by
  cases h <;> simp_all
theorem Ty.inv_bool (hu : P.underlying t = some .bool) (h : Ty P t ts) : ∃ b, ts = [.bool b] := by
  cases h <;> simp_all
theorem Ty.inv_str (hu : P.underlying t = some .string) (h : Ty P t ts) : ∃ s, ts = [.str s] ∧ s.size ≤ reachBytes := by
  cases h <;> simp_all
theorem Ty.inv_sl {e : TypeId} (hu : P.underlying t = some (.slice e)) (h : Ty P t ts) : ∃ g es, ts = [.sl g es] ∧ (∀ x ∈ es, Ty P e x) ∧ es.length * P.bytesOf e ≤ reachBytes := by
  cases h <;> simp_all
  exact ⟨_, _, ⟨rfl, rfl⟩, by assumption, by assumption⟩
theorem Ty.inv_struct {fs : Array Field} (hu : P.underlying t = some (.struct fs)) (h : Ty P t ts) : TyF P fs.toList ts := by
  cases h <;> simp_all
theorem TyF.inv_nil (h : TyF P [] ts) : ts = [] := by cases h; rfl
theorem TyF.inv_cons {f : Field} {fs : List Field} (h : TyF P (f :: fs) ts) : ∃ x y, ts = x ++ y ∧ Ty P f.type x ∧ TyF P fs y := by
  cases h with
  | cons h1 h2 => exact ⟨_, _, rfl, h1, h2⟩

theorem list_of {α : Type} {p : α → List T → Prop} : ∀ {es : List (List T)}, (∀ x ∈ es, ∃ a, p a x) → ∃ l : List α, l.length = es.length ∧ ∀ (i : Nat) (a : α) (x : List T), l[i]? = some a → es[i]? = some x → p a x
  | [], _ => ⟨[], rfl, fun i a x h => by simp at h⟩
  | x :: es, h => by
    obtain ⟨a, ha⟩ := h x List.mem_cons_self
    obtain ⟨l, h1, h2⟩ := list_of (es := es) (fun y hy => h y (List.mem_cons_of_mem _ hy))
    refine ⟨a :: l, by simp [h1], fun i b y hb hy => ?_⟩
    cases i with
    | zero => simp only [List.getElem?_cons_zero, Option.some.injEq] at hb hy; subst hb; subst hy; exact ha
    | succ i => exact h2 i b y (by simpa using hb) (by simpa using hy)
/-- A slice whose elements have one cell each, by a function. -/
theorem map_of {α : Type} {f : α → List T} {q : α → Prop} {es : List (List T)} (h : ∀ x ∈ es, ∃ a, x = f a ∧ q a) : ∃ l : List α, es = l.map f ∧ ∀ a ∈ l, q a := by
  induction es with
  | nil => exact ⟨[], rfl, fun a h => by cases h⟩
  | cons x es ih =>
    obtain ⟨a, rfl, ha⟩ := h x List.mem_cons_self
    obtain ⟨l, rfl, hl⟩ := ih (fun y hy => h y (List.mem_cons_of_mem _ hy))
    exact ⟨a :: l, rfl, fun b hb => (List.mem_cons.1 hb).elim (fun e => e ▸ ha) (fun hb => hl b hb)⟩
theorem Ty.strs {e : TypeId} (hu : P.underlying t = some (.slice e)) (he : P.underlying e = some .string) (hb : 0 < P.bytesOf e) (h : Ty P t ts) : ∃ (g : Nat) (xs : List ByteArray), ts = [.sl g (xs.map fun x => [T.str x])] ∧ xs.length ≤ reachBytes ∧ ∀ x ∈ xs, x.size ≤ reachBytes := by
  obtain ⟨g, es, rfl, h1, h2⟩ := h.inv_sl hu
  obtain ⟨xs, rfl, h3⟩ := map_of (f := fun x : ByteArray => [T.str x]) (q := fun x => x.size ≤ reachBytes) (fun x hx => (h1 x hx).inv_str he)
  rw [List.length_map] at h2
  exact ⟨g, xs, rfl, Nat.le_trans (Nat.le_mul_of_pos_right _ hb) h2, h3⟩
theorem Ty.ints {e : TypeId} {k : IntKind} (hu : P.underlying t = some (.slice e)) (he : P.underlying e = some (.int k)) (hb : 0 < P.bytesOf e) (h : Ty P t ts) : ∃ (g : Nat) (xs : List Int), ts = [.sl g (xs.map fun x => [T.int k x])] ∧ xs.length ≤ reachBytes ∧ ∀ x ∈ xs, (Lit.int k x).wf = true := by
  obtain ⟨g, es, rfl, h1, h2⟩ := h.inv_sl hu
  obtain ⟨xs, rfl, h3⟩ := map_of (f := fun x : Int => [T.int k x]) (q := fun x => (Lit.int k x).wf = true) (fun x hx => (h1 x hx).inv_int he)
  rw [List.length_map] at h2
  exact ⟨g, xs, rfl, Nat.le_trans (Nat.le_mul_of_pos_right _ hb) h2, h3⟩
end

theorem vOf_struct {P : Program} {t : TypeId} {fs : Array Field} (h : P.underlying t = some (.struct fs)) (ts : List T) : vOf P t ts = .agg (ts.map .t) := by unfold vOf; rw [h]
theorem vOf_int {P : Program} {t : TypeId} {k : IntKind} (h : P.underlying t = some (.int k)) (x : T) : vOf P t [x] = .t x := by unfold vOf; rw [h]
theorem vOf_bool {P : Program} {t : TypeId} (h : P.underlying t = some .bool) (x : T) : vOf P t [x] = .t x := by unfold vOf; rw [h]
theorem vOf_str {P : Program} {t : TypeId} (h : P.underlying t = some .string) (x : T) : vOf P t [x] = .t x := by unfold vOf; rw [h]
theorem vOf_sl {P : Program} {t e : TypeId} (h : P.underlying t = some (.slice e)) (x : T) : vOf P t [x] = .t x := by unfold vOf; rw [h]
theorem VRs.nil (w : World) : VRs w (fun _ => False) [] [] #[] := ⟨rfl, fun i c h => by simp at h⟩
theorem VRs.cons {w : World} {v : V} {l : List V} {y : Value} {ys : List Value} (h : VR w (fun _ => False) [] v y) (hr : VRs w (fun _ => False) [] l ys.toArray) : VRs w (fun _ => False) [] (v :: l) (y :: ys).toArray := by
  refine ⟨by have := hr.1; simp at this ⊢; exact this, fun i c hc => ?_⟩
  cases i with
  | zero => simp only [List.getElem?_cons_zero, Option.some.injEq] at hc; subst hc; simpa using h
  | succ i => simpa using hr.2 i c (by simpa using hc)

/-- A law's contract: called with such arguments it gives true, and of what was there nothing turns. -/
theorem law_calls {P : Program} {f : FuncId} {args : List V} {w : World} {vs : Array Value} (h : FCtr w P f args (fun r => r = .t (.bool true))) (ha : VRs w (fun _ => False) [] args vs) :
    Calls P f vs w fun e w' => e = .returned (.bool true) ∧ Below w.heap.size w w' := by
  intro cs
  obtain ⟨e, w', fr, ⟨v, r, σ', h1, ⟨h2, h3, h4⟩, h5, h6, h7, _⟩, h8⟩ := h.2 w (fun _ => False) vs ⟨fun b h => h.elim, Below.refl _ _, fun r o h => by simp at h⟩ ha ⟨fun r o h => by simp at h, fun r r' o o' h => by simp at h, fun r o h => by simp at h⟩ cs
  subst h2
  have := h5.bool_inv
  refine ⟨e, w', fr, ⟨by rw [h1, this], ⟨h7.os, h7.tape, h7.output, h7.size, fun k hk => h7.block k hk (fun ⟨r, o, h, _⟩ => by simp at h)⟩⟩, h8⟩

theorem reach47 : reachBytes < 2 ^ 47 := by decide
end Go.VL
namespace Go.VL
set_option linter.unusedVariables false
set_option linter.unusedSimpArgs false

inductive E where
  | mk (k : Int) (n : ByteArray) (as : List E)
def E.kind : E → Int | .mk k _ _ => k
def E.name : E → ByteArray | .mk _ n _ => n
def E.args : E → List E | .mk _ _ as => as

theorem E.ind {p : E → Prop} (h : ∀ k n as, (∀ a ∈ as, p a) → p (.mk k n as)) : ∀ e, p e := by
  intro e
  have key : ∀ m (e : E), SizeOf.sizeOf e < m → p e := by
    intro m
    induction m with
    | zero => intro e he; omega
    | succ m ih =>
      intro e he
      obtain ⟨k, n, as⟩ := e
      refine h k n as fun a ha => ih a ?_
      have := List.sizeOf_lt_of_mem ha
      simp at he
      omega
  exact key _ e (Nat.lt_succ_self _)

mutual
def E.rep : E → List T → Prop
  | .mk k n as, c => ∃ g cs, c = [.int .i64 k, .str n, .sl g cs] ∧ E.repL as cs
def E.repL : List E → List (List T) → Prop
  | [], cs => cs = []
  | e :: l, cs => ∃ c r, cs = c :: r ∧ E.rep e c ∧ E.repL l r
end
theorem E.rep_mk {k : Int} {n : ByteArray} {as : List E} {c : List T} (h : (E.mk k n as).rep c) : ∃ g cs, c = [.int .i64 k, .str n, .sl g cs] ∧ E.repL as cs := by unfold E.rep at h; exact h
theorem E.rep_of {k : Int} {n : ByteArray} {as : List E} {g : Nat} {cs : List (List T)} (h : E.repL as cs) : (E.mk k n as).rep [.int .i64 k, .str n, .sl g cs] := by unfold E.rep; exact ⟨g, cs, rfl, h⟩
theorem E.rep_cells {e : E} {c : List T} (h : e.rep c) : ∃ g cs, c = [.int .i64 e.kind, .str e.name, .sl g cs] ∧ E.repL e.args cs := by
  obtain ⟨k, n, as⟩ := e
  exact E.rep_mk h
theorem E.repL_len : ∀ {l : List E} {cs : List (List T)}, E.repL l cs → cs.length = l.length
  | [], cs, h => by unfold E.repL at h; subst h; rfl
  | e :: l, cs, h => by
    unfold E.repL at h
    obtain ⟨c, r, rfl, _, h2⟩ := h
    simp [E.repL_len h2]
theorem E.repL_get : ∀ {l : List E} {cs : List (List T)}, E.repL l cs → ∀ {n : Nat} (h : n < l.length), ∃ c, cs[n]? = some c ∧ l[n].rep c
  | [], cs, h, n, hn => by simp at hn
  | e :: l, cs, h, n, hn => by
    unfold E.repL at h
    obtain ⟨c, r, rfl, h1, h2⟩ := h
    cases n with
    | zero => exact ⟨c, rfl, h1⟩
    | succ n => simpa using E.repL_get h2 (by simpa using hn)
theorem E.repL_append : ∀ {l l' : List E} {cs cs' : List (List T)}, E.repL l cs → E.repL l' cs' → E.repL (l ++ l') (cs ++ cs')
  | [], l', cs, cs', h, h' => by unfold E.repL at h; subst h; exact h'
  | e :: l, l', cs, cs', h, h' => by
    unfold E.repL at h
    obtain ⟨c, r, rfl, h1, h2⟩ := h
    show E.repL (e :: (l ++ l')) (c :: (r ++ cs'))
    unfold E.repL
    exact ⟨c, _, rfl, h1, E.repL_append h2 h'⟩
theorem E.repL_one {e : E} {c : List T} (h : e.rep c) : E.repL [e] [c] := by
  unfold E.repL
  exact ⟨c, [], rfl, h, by unfold E.repL; rfl⟩
theorem E.repL_nil : E.repL [] [] := by unfold E.repL; rfl

mutual
/-- What a term weighs: its names' bytes and its arguments' count. -/
def E.wt : E → Nat
  | .mk _ n as => n.size + E.wtL as
def E.wtL : List E → Nat
  | [] => 0
  | e :: l => 1 + E.wt e + E.wtL l
end
mutual
def E.small : E → Prop
  | .mk k n as => n.size ≤ reachBytes ∧ as.length ≤ reachBytes ∧ (Lit.int .i64 k).wf = true ∧ E.smallL as
def E.smallL : List E → Prop
  | [] => True
  | e :: l => E.small e ∧ E.smallL l
end
theorem E.small_mk {k : Int} {n : ByteArray} {as : List E} : (E.mk k n as).small ↔ n.size ≤ reachBytes ∧ as.length ≤ reachBytes ∧ (Lit.int .i64 k).wf = true ∧ E.smallL as := by rw [E.small]
theorem E.smallL_mem : ∀ {l : List E}, E.smallL l → ∀ e ∈ l, e.small
  | [], _, e, h => by cases h
  | x :: l, h, e, he => by
    rw [E.smallL] at h
    rcases List.mem_cons.1 he with rfl | he
    · exact h.1
    · exact E.smallL_mem h.2 e he
theorem E.smallL_of : ∀ {l : List E}, (∀ e ∈ l, e.small) → E.smallL l
  | [], _ => by rw [E.smallL]; trivial
  | x :: l, h => by rw [E.smallL]; exact ⟨h x List.mem_cons_self, E.smallL_of fun e he => h e (List.mem_cons_of_mem _ he)⟩
theorem E.wtL_len : ∀ l : List E, l.length ≤ E.wtL l
  | [] => Nat.le_refl _
  | e :: l => by rw [E.wtL, List.length_cons]; have := E.wtL_len l; omega
theorem E.wtL_mem : ∀ {l : List E} {e : E}, e ∈ l → e.wt + 1 ≤ E.wtL l
  | [], _, h => by cases h
  | x :: l, e, h => by
    rw [E.wtL]
    rcases List.mem_cons.1 h with rfl | h
    · omega
    · have := E.wtL_mem h; omega
theorem E.wtL_drop {l : List E} {n : Nat} (h : n < l.length) : E.wtL (l.drop n) = 1 + l[n].wt + E.wtL (l.drop (n + 1)) := by rw [drop_get h, E.wtL]

theorem E_of_Ty {P : Program} {t ti tn tl : TypeId} {fs : Array Field} (hu : P.underlying t = some (.struct fs)) (hf : fs.toList.map (·.type) = [ti, tn, tl]) (h1 : P.underlying ti = some (.int .i64)) (h2 : P.underlying tn = some .string) (h3 : P.underlying tl = some (.slice t))
    (hb : 0 < P.bytesOf t) {ts : List T} (h : Ty P t ts) : ∃ e : E, e.rep ts ∧ e.small := by
  have key : ∀ m (ts : List T), SizeOf.sizeOf ts < m → Ty P t ts → ∃ e : E, e.rep ts ∧ e.small := by
    intro m
    induction m with
    | zero => intro ts hs; omega
    | succ m ih =>
      intro ts hs h
      have hF := h.inv_struct hu
      match hfs : fs.toList, hf with
      | [f1, f2, f3], hf =>
        simp only [List.map_cons, List.map_nil, List.cons.injEq, and_true] at hf
        obtain ⟨e1, e2, e3⟩ := hf
        rw [hfs] at hF
        obtain ⟨x, y, rfl, k1, k2⟩ := hF.inv_cons
        obtain ⟨x2, y2, rfl, k3, k4⟩ := k2.inv_cons
        obtain ⟨x3, y3, rfl, k5, k6⟩ := k4.inv_cons
        obtain rfl := k6.inv_nil
        obtain ⟨n, rfl, hn⟩ := k1.inv_int (e1 ▸ h1)
        obtain ⟨s, rfl, hs2⟩ := k3.inv_str (e2 ▸ h2)
        obtain ⟨g, es, rfl, hes, hsz⟩ := k5.inv_sl (e3 ▸ h3)
        have hall : ∀ (es : List (List T)), (∀ x ∈ es, SizeOf.sizeOf x < m) → (∀ x ∈ es, Ty P t x) → ∃ l : List E, E.repL l es ∧ E.smallL l := by
          intro es
          induction es with
          | nil => exact fun _ _ => ⟨[], E.repL_nil, by rw [E.smallL]; trivial⟩
          | cons x es ihes =>
            intro g1 g2
            obtain ⟨e, q1, q2⟩ := ih x (g1 x List.mem_cons_self) (g2 x List.mem_cons_self)
            obtain ⟨l, q3, q4⟩ := ihes (fun y hy => g1 y (List.mem_cons_of_mem _ hy)) (fun y hy => g2 y (List.mem_cons_of_mem _ hy))
            exact ⟨e :: l, by unfold E.repL; exact ⟨x, es, rfl, q1, q3⟩, by rw [E.smallL]; exact ⟨q2, q4⟩⟩
        obtain ⟨l, q1, q2⟩ := hall es (fun x hx => by
          have := List.sizeOf_lt_of_mem hx
          simp at hs
          omega) hes
        refine ⟨.mk n s l, E.rep_of q1, ?_⟩
        rw [E.small_mk]
        exact ⟨hs2, by rw [← E.repL_len q1]; exact Nat.le_trans (Nat.le_mul_of_pos_right _ hb) hsz, hn, q2⟩
  exact key _ ts (Nat.lt_succ_self _) h
theorem Es_of_Ty {P : Program} {t ti tn tl : TypeId} {fs : Array Field} (hu : P.underlying t = some (.struct fs)) (hf : fs.toList.map (·.type) = [ti, tn, tl]) (h1 : P.underlying ti = some (.int .i64)) (h2 : P.underlying tn = some .string) (h3 : P.underlying tl = some (.slice t))
    (hb : 0 < P.bytesOf t) {ts : List T} (h : Ty P tl ts) : ∃ (g : Nat) (cs : List (List T)) (l : List E), ts = [.sl g cs] ∧ E.repL l cs ∧ l.length ≤ reachBytes ∧ E.smallL l := by
  obtain ⟨g, es, rfl, hes, hsz⟩ := h.inv_sl h3
  have hall : ∀ (es : List (List T)), (∀ x ∈ es, Ty P t x) → ∃ l : List E, E.repL l es ∧ E.smallL l := by
    intro es
    induction es with
    | nil => exact fun _ => ⟨[], E.repL_nil, by rw [E.smallL]; trivial⟩
    | cons x es ihes =>
      intro g2
      obtain ⟨e, q1, q2⟩ := E_of_Ty hu hf h1 h2 h3 hb (g2 x List.mem_cons_self)
      obtain ⟨l, q3, q4⟩ := ihes (fun y hy => g2 y (List.mem_cons_of_mem _ hy))
      exact ⟨e :: l, by unfold E.repL; exact ⟨x, es, rfl, q1, q3⟩, by rw [E.smallL]; exact ⟨q2, q4⟩⟩
  obtain ⟨l, q1, q2⟩ := hall es hes
  exact ⟨g, es, l, rfl, q1, by rw [← E.repL_len q1]; exact Nat.le_trans (Nat.le_mul_of_pos_right _ hb) hsz, q2⟩

mutual
def E.eqb : E → E → Bool
  | .mk k n as, .mk k' n' as' => decide (k = k') && decide (n = n') && E.eqbL as as'
def E.eqbL : List E → List E → Bool
  | [], [] => true
  | a :: l, b :: l' => E.eqb a b && E.eqbL l l'
  | _, _ => false
end
mutual
theorem E.eqb_iff : ∀ a b : E, E.eqb a b = true ↔ a = b
  | .mk k n as, .mk k' n' as' => by
    rw [E.eqb]
    simp only [Bool.and_eq_true, decide_eq_true_eq, E.eqbL_iff as as', E.mk.injEq, and_assoc]
theorem E.eqbL_iff : ∀ a b : List E, E.eqbL a b = true ↔ a = b
  | [], [] => by simp [E.eqbL]
  | [], _ :: _ => by simp [E.eqbL]
  | _ :: _, [] => by simp [E.eqbL]
  | a :: l, b :: l' => by
    rw [E.eqbL]
    simp only [Bool.and_eq_true, E.eqb_iff a b, E.eqbL_iff l l', List.cons.injEq]
end
theorem E.eqb_self (a : E) : E.eqb a a = true := (E.eqb_iff a a).2 rfl
theorem E.eqbL_self (a : List E) : E.eqbL a a = true := (E.eqbL_iff a a).2 rfl
theorem E.eqbL_len : ∀ {a b : List E}, a.length ≠ b.length → E.eqbL a b = false
  | [], [], h => by simp at h
  | [], _ :: _, h => rfl
  | _ :: _, [], h => rfl
  | a :: l, b :: l', h => by rw [E.eqbL, E.eqbL_len (by simpa using h), Bool.and_false]
theorem E.eqbL_drop {a b : List E} {n : Nat} (h : n < a.length) (h' : n < b.length) : E.eqbL (a.drop n) (b.drop n) = (E.eqb a[n] b[n] && E.eqbL (a.drop (n + 1)) (b.drop (n + 1))) := by rw [drop_get h, drop_get h', E.eqbL]
end Go.VL
namespace Go.VL
set_option linter.unusedVariables false
set_option linter.unusedSimpArgs false
section
variable {W0 : World} {P : Program} {ops : Array Oper} {l : List (Oper × Bool)} {K : St → Prop} {s : St} {e : Nat → V} {σ : List Ob} {h : Nat}

/-- A call that is lent some of one's own objects to write ('fp'), others as frozen data ('bor'). -/
theorem vcX_callF {d : Option Tmp} {f : FuncId} {as_ : Array Operand} {tys : Array TypeId} {ty : TypeId} {pos : String} {af : Array Edge} {fop : Operand} {caps : List V} (fp bor : List Nat) (args : List V) (σ0 : List Ob) (R : V → List Ob → Prop) (hc : Ctr W0 P f args σ0 (fun _ _ r σ' => R r σ'))
    (hf : St.eval ⟨e, σ, h⟩ fop = .fn f caps) (hn : fp.Nodup) (hfp : ∀ r ∈ fp, r < σ.length) (hd : ∀ r ∈ fp, r ∉ bor) (hσ : locObs σ fp bor = σ0)
    (ha : Subs ((as_.toList.map (St.eval ⟨e, σ, h⟩) ++ caps).map (V.loc σ fp bor)) args)
    (hk : ∀ r σ1 h', h ≤ h' → R r σ1 → (∀ q ∈ bor, ∀ o : Ob, σ[q]? = some o → o.g ∉ r.ids ∧ ∀ o1 ∈ σ1, o.g ∉ o1.ids) ∧ vcX W0 P ops l K ⟨((⟨e, σ, h⟩ : St).put d (r.back fp σ.length)).env, backObs σ fp σ1, h'⟩) :
    vcX W0 P ops ((⟨d, .call ⟨.value fop, as_, tys⟩, ty, pos, af, none⟩, true) :: l) K ⟨e, σ, h⟩ := by
  simp only [vcX, vcOp, gd, vcRun, isQuiet, isApp, vcCall, hf]
  rw [if_neg (by simp), if_neg (by simp)]
  subst hσ
  exact ⟨fp, bor, args, _, hn, hfp, hd, .inl trivial, ha, hc, fun lo hi r σ1 h1 h2 h3 => ⟨fun q hq o ho _ => (hk r σ1 hi (by omega) h3).1 q hq o ho, (hk r σ1 hi (by omega) h3).2⟩⟩
theorem Subs.of_eq {l l' : List V} (h : l = l') : Subs l l' := h ▸ Subs.refl l

/-! ### slices that grow -/
/-- A slice that is built by appends: nothing as yet, or a row of one's own. -/
def outV (r : Nat) (len : Nat) : Option (Nat × Nat × Nat) → V
  | none => .nil0
  | some (_, ver, _) => .own r ver 0 len
def outO (sz : Nat) (es : List (List V)) : Option (Nat × Nat × Nat) → List Ob
  | none => []
  | some (g, ver, m) => [.row g ver sz m es]

theorem x_app_nil {d : Tmp} {x y : Operand} {t t2 t' : TypeId} {ty : TypeId} {pos : String} {af : Array Edge} {sz bs : Nat} {z : List V} {b : Bool} (es : List (List V)) (h1 : tElem P t = some t') (h2 : tSize P t' = some sz) (h3 : tZero P t' = some z) (h4 : tBytes P t' = some bs)
    (hx : St.eval ⟨e, σ, h⟩ x = .nil0) (hy : appElems P ⟨e, σ, h⟩ sz (some z) t2 (St.eval ⟨e, σ, h⟩ y) = some es) (hz : z.length = sz ∧ 0 < sz ∧ 0 < bs) (hl : ∀ e ∈ es, e.length = sz ∧ ∀ c ∈ e, V.leaf c = true) (hb : 2 * es.length * bs ≤ 281474976710656) (hne : es.length ≠ 0)
    (hk : ∀ g n, h ≤ g → vcX W0 P ops l K ⟨upd e d (.own σ.length 0 0 es.length), σ ++ [.row g 0 sz n es], g + 1⟩) :
    vcX W0 P ops ((⟨some d, .call ⟨.builtin .append, #[x, y], #[t, t2]⟩, ty, pos, af, none⟩, b) :: l) K ⟨e, σ, h⟩ := by
  rw [vcX_append_nil h1 h2 h3 h4 hx hy]
  exact ⟨hz.1, hz.2.1, hz.2.2, hl, hb, by rw [if_neg hne]; exact hk⟩
theorem x_app_own {d : Tmp} {x y : Operand} {t t2 t' : TypeId} {ty : TypeId} {pos : String} {af : Array Edge} {sz bs r ver len g v sz' m : Nat} {z : List V} {es0 : List (List V)} (es : List (List V)) (h1 : tElem P t = some t') (h2 : tSize P t' = some sz) (h3 : tZero P t' = some z) (h4 : tBytes P t' = some bs)
    (hx : St.eval ⟨e, σ, h⟩ x = .own r ver 0 len) (hr : σ[r]? = some (.row g v sz' m es0)) (hy : appElems P ⟨e, σ, h⟩ sz (some z) t2 (St.eval ⟨e, σ, h⟩ y) = some es) (hz : z.length = sz ∧ 0 < sz ∧ 0 < bs) (hl : ∀ e ∈ es, e.length = sz ∧ ∀ c ∈ e, V.leaf c = true) (hv : ver = v ∧ sz' = sz) (hb : 2 * (len + es.length) * bs ≤ 281474976710656)
    (hk : ∀ g' n' h', h ≤ h' → (g' = g ∨ h ≤ g') → vcX W0 P ops l K ⟨upd e d (.own r (ver + 1) 0 (len + es.length)), σ.set r (.row g' (ver + 1) sz n' (es0.take len ++ es)), h'⟩) :
    vcX W0 P ops ((⟨some d, .call ⟨.builtin .append, #[x, y], #[t, t2]⟩, ty, pos, af, none⟩, true) :: l) K ⟨e, σ, h⟩ := by
  rw [vcX_append_own h1 h2 h3 h4 hx hr hy]
  refine ⟨hz.1, hz.2.1, hz.2.2, hl, hv.1, hv.2, hb, fun g' n' h' hc => hk g' n' h' ?_ ?_⟩
  · rcases hc with ⟨_, h5⟩ | ⟨_, h5⟩ <;> omega
  · rcases hc with ⟨h5, _⟩ | ⟨h5, _⟩
    · exact .inl h5
    · exact .inr h5

/-- A slice that is built by appends, among objects: nothing as yet, or the row r. -/
def Out (σ : List Ob) (sz : Nat) (r : Nat) (acc : List (List V)) : Option (Nat × Nat × Nat) → Prop
  | none => acc = []
  | some (g, ver, m) => σ[r]? = some (.row g ver sz m acc)

/-- An append to it: where it lies then is not told, but that it is apart from what was there. -/
theorem x_app_any {d : Tmp} {x y : Operand} {t t2 t' : TypeId} {ty : TypeId} {pos : String} {af : Array Edge} {sz bs r : Nat} {z : List V} {acc : List (List V)} {w : Option (Nat × Nat × Nat)} (es : List (List V)) (h1 : tElem P t = some t') (h2 : tSize P t' = some sz) (h3 : tZero P t' = some z) (h4 : tBytes P t' = some bs)
    (hx : St.eval ⟨e, σ, h⟩ x = outV r acc.length w) (ho : Out σ sz r acc w) (hy : appElems P ⟨e, σ, h⟩ sz (some z) t2 (St.eval ⟨e, σ, h⟩ y) = some es) (hz : z.length = sz ∧ 0 < sz ∧ 0 < bs) (hl : ∀ e ∈ es, e.length = sz ∧ ∀ c ∈ e, V.leaf c = true)
    (hb : 2 * (acc.length + es.length) * bs ≤ 281474976710656) (hne : es.length ≠ 0)
    (hk : ∀ r' g ver m σ' h', σ'[r']? = some (.row g ver sz m (acc ++ es)) → (∀ i o, i ≠ r' → σ[i]? = some o → σ'[i]? = some o) → ((r' = r ∧ w ≠ none) ∨ r' = σ.length) → h ≤ h' → (h ≤ g ∨ ∃ ver' m', w = some (g, ver', m')) →
      vcX W0 P ops l K ⟨upd e d (.own r' ver 0 (acc.length + es.length)), σ', h'⟩) :
    vcX W0 P ops ((⟨some d, .call ⟨.builtin .append, #[x, y], #[t, t2]⟩, ty, pos, af, none⟩, true) :: l) K ⟨e, σ, h⟩ := by
  cases w with
  | none =>
    have hacc : acc = [] := ho
    subst hacc
    refine x_app_nil es h1 h2 h3 h4 hx hy hz hl (by rw [List.length_nil, Nat.zero_add] at hb; exact hb) hne (fun g n hg => ?_)
    have := hk σ.length g 0 n (σ ++ [.row g 0 sz n es]) (g + 1) (by rw [List.getElem?_append_right (Nat.le_refl _), Nat.sub_self]; rfl) (fun i o hi ho => by rw [List.getElem?_append_left (List.getElem?_eq_some_iff.1 ho).1]; exact ho) (.inr rfl) (by omega) (.inl hg)
    rw [List.length_nil, Nat.zero_add] at this
    exact this
  | some p =>
    obtain ⟨g, ver, m⟩ := p
    have hr : σ[r]? = some (.row g ver sz m acc) := ho
    refine x_app_own (r := r) (g := g) (v := ver) (m := m) (es0 := acc) es h1 h2 h3 h4 hx hr hy hz hl ⟨rfl, rfl⟩ hb (fun g' n' h' h5 h6 => ?_)
    refine hk r g' (ver + 1) n' _ h' ?_ (fun i o hi ho => ?_) (.inl ⟨rfl, by simp⟩) h5 (h6.elim (fun e => .inr ⟨ver, m, by rw [e]⟩) .inl)
    · rw [List.getElem?_set_self (List.getElem?_eq_some_iff.1 hr).1]
      simp
    · rw [List.getElem?_set_ne (Ne.symm hi)]
      exact ho

/-- It is lent as frozen data. -/
theorem Out.lend {sz r : Nat} {acc : List (List V)} {w : Option (Nat × Nat × Nat)} (ho : Out σ sz r acc w) {bor : List Nat} (hb : r ∈ bor) {ts : List (List T)} (ht : acc = ts.map (·.map V.t)) : ∃ g, Sub ((outV r acc.length w).loc σ [] bor) (.t (.sl g ts)) := by
  cases w with
  | none =>
    have hacc : acc = [] := ho
    subst hacc
    have : ts = [] := by
      cases ts with
      | nil => rfl
      | cons x l => cases ht
    subst this
    exact ⟨0, .nil 0⟩
  | some p =>
    obtain ⟨g, ver, m⟩ := p
    have hr : σ[r]? = some (.row g ver sz m acc) := ho
    refine ⟨g, ?_⟩
    rw [show outV r acc.length (some (g, ver, m)) = V.own r ver 0 acc.length from rfl, loc_frz ts hr ht hb (by rw [ht]; simp)]
    exact .refl _
end

/-! ### what comes back of lent cells -/
theorem back_0 (o : Ob) (σ : List Ob) (g a b c : Nat) (x : T) : backObs (o :: σ) [0] [.row g a b c [[.t x]]] = .row g a b c [[.t x]] :: σ := by
  have h : ∀ (r : Nat) (l : List Ob) (σ1 : List Ob) (n : Nat), backAt [0] n σ1 (r + 1) l = l := by
    intro r l
    induction l generalizing r with
    | nil => intros; rfl
    | cons o l ih => intro σ1 n; rw [backAt, ih]; simp [idx]
  simp only [backObs, backAt, h]
  simp [idx, Ob.back, V.back]
theorem back_1 (o o2 : Ob) (σ : List Ob) (g a b c : Nat) (x : T) : backObs (o :: o2 :: σ) [1] [.row g a b c [[.t x]]] = o :: .row g a b c [[.t x]] :: σ := by
  have h : ∀ (r : Nat) (l : List Ob) (σ1 : List Ob) (n : Nat), backAt [1] n σ1 (r + 2) l = l := by
    intro r l
    induction l generalizing r with
    | nil => intros; rfl
    | cons o l ih => intro σ1 n; rw [backAt, ih]; simp [idx]
  simp only [backObs, backAt, h]
  simp [idx, Ob.back, V.back]
theorem le_1 {g a b c : Nat} {x y : V} {σ' : List Ob} (h : σ' = [.row g a b c [[y]]]) : ∀ (r : Nat) (o : Ob), [Ob.row g a b c [[x]]][r]? = some o → ∃ o' : Ob, σ'[r]? = some o' ∧ o.le o' := by
  subst h
  intro r o ho
  cases r with
  | zero => simp only [List.getElem?_cons_zero, Option.some.injEq] at ho; subst ho; exact ⟨_, rfl, by simp [Ob.le]⟩
  | succ r => simp at ho
attribute [go_sem] back_0 back_1 V.back V.backs

/-! ### slices written out -/
def bsOk (z : List V) (sz n : Nat) : Prop := z.length = sz ∧ 0 < sz ∧ n * sz ≤ 16777216
def vcXB (W0 : World) (P : Program) (ops : Array Oper) (l : List (Oper × Bool)) (K : St → Prop) (e : Nat → V) (σ : List Ob) (h : Nat) (d : Tmp) (n : Nat) (osz : Option Nat) (oz : Option (List V)) (parts : List (Nat × V)) : Prop := match osz, oz with
  | some sz, some z => (match fillRow sz (List.replicate n z) parts with
    | some es => bsOk z sz n ∧ ∀ g, h ≤ g → vcX W0 P ops l K ⟨upd e d (.own σ.length 0 0 n), σ ++ [.row g 0 sz (n * sz) es], g + 1⟩
    | none => False)
  | _, _ => False
/-- An empty slice that is written out, taken as nothing. -/
def vcXB0 (W0 : World) (P : Program) (ops : Array Oper) (l : List (Oper × Bool)) (K : St → Prop) (e : Nat → V) (σ : List Ob) (h : Nat) (d : Tmp) (n : Nat) (osz : Option Nat) (oz : Option (List V)) (parts : List (Nat × V)) : Prop :=
  n = 0 ∧ (∃ sz z es, osz = some sz ∧ oz = some z ∧ fillRow sz (List.replicate n z) parts = some es ∧ bsOk z sz n) ∧ ∀ h', h ≤ h' → vcX W0 P ops l K ⟨upd e d .nil0, σ, h'⟩
theorem x_buildSlice {W0 : World} {P : Program} {ops : Array Oper} {l : List (Oper × Bool)} {K : St → Prop} {e : Nat → V} {σ : List Ob} {h : Nat} {d : Tmp} {t : TypeId} {n : Nat} {parts : List (Nat × Operand)} {ty : TypeId} {pos : String} {af : Array Edge} {b : Bool} :
    vcX W0 P ops ((⟨some d, .buildSlice t n parts.toArray, ty, pos, af, none⟩, b) :: l) K ⟨e, σ, h⟩ = (vcXB W0 P ops l K e σ h d n (esize P t) (ezero P t) (parts.map fun p => (p.1, St.eval ⟨e, σ, h⟩ p.2)) ∨ vcXB0 W0 P ops l K e σ h d n (esize P t) (ezero P t) (parts.map fun p => (p.1, St.eval ⟨e, σ, h⟩ p.2))) := by
  simp only [vcX, vcOp, gd, vcRun, isQuiet, vcE, touched, esize, ezero, vcXB, vcXB0]
  cases tElem P t with
  | none => simp
  | some t' =>
    simp only
    cases tSize P t' with
    | none => simp
    | some sz =>
      cases tZero P t' with
      | none => simp
      | some z =>
        simp only
        cases hfr : fillRow sz (List.replicate n z) (parts.map fun p => (p.1, St.eval ⟨e, σ, h⟩ p.2)) with
        | none => simp [hfr]
        | some es =>
          simp only [Bool.false_eq_true, if_false, Option.some.injEq]
          rw [eq_iff_iff]
          constructor
          · rintro ⟨_, h1, h2, h3, h4 | ⟨h4, h5⟩⟩
            · exact .inl ⟨⟨h1, h2, h3⟩, fun g hg => by simpa [St.put] using h4 g hg⟩
            · exact .inr ⟨h4, ⟨sz, z, es, rfl, rfl, hfr, h1, h2, h3⟩, fun h' hh => by simpa [St.put] using h5 h' hh⟩
          · rintro (⟨⟨h1, h2, h3⟩, h4⟩ | ⟨h4, ⟨sz', z', es', rfl, rfl, _, h1, h2, h3⟩, h5⟩)
            · exact ⟨by simp, h1, h2, h3, .inl fun g hg => by simpa [St.put] using h4 g hg⟩
            · exact ⟨by simp, h1, h2, h3, .inr ⟨h4, fun h' hh => by simpa [St.put] using h5 h' hh⟩⟩
theorem vcXB0_mk {W0 : World} {P : Program} {ops : Array Oper} {l : List (Oper × Bool)} {K : St → Prop} {e : Nat → V} {σ : List Ob} {h : Nat} {d : Tmp} {sz : Nat} {z : List V} (hb : bsOk z sz 0) (hk : ∀ h', h ≤ h' → vcX W0 P ops l K ⟨upd e d .nil0, σ, h'⟩) : vcXB0 W0 P ops l K e σ h d 0 (some sz) (some z) [] :=
  ⟨rfl, ⟨sz, z, [], rfl, rfl, rfl, hb⟩, hk⟩
theorem rep1 {α : Type} (z : α) : List.replicate 1 z = [z] := rfl
theorem rep2 {α : Type} (z : α) : List.replicate 2 z = [z, z] := rfl
theorem rep3 {α : Type} (z : α) : List.replicate 3 z = [z, z, z] := rfl
theorem rep4 {α : Type} (z : α) : List.replicate 4 z = [z, z, z, z] := rfl
theorem rep5 {α : Type} (z : α) : List.replicate 5 z = [z, z, z, z, z] := rfl
theorem rep6 {α : Type} (z : α) : List.replicate 6 z = [z, z, z, z, z, z] := rfl
attribute [go_sem] nilCheckQ x_buildSlice vcXB fillRow replicate_zero' rep1 rep2 rep3 rep4 rep5 rep6

/-- A call over frozen data, some of one's own lent as frozen, each argument at least as told. -/
theorem vcX_callS {W0 : World} {P : Program} {ops : Array Oper} {l : List (Oper × Bool)} {K : St → Prop} {e : Nat → V} {σ : List Ob} {h : Nat} {d : Option Tmp} {f : FuncId} {as_ : Array Operand} {tys : Array TypeId} {ty : TypeId} {pos : String} {af : Array Edge} {b : Bool} {fop : Operand} {caps : List V} (bor : List Nat) (args : List V) (Q : V → Prop) (hc : FCtr W0 P f args Q) (hf : St.eval ⟨e, σ, h⟩ fop = .fn f caps)
    (ha : Subs ((as_.toList.map (St.eval ⟨e, σ, h⟩) ++ caps).map (V.loc σ [] bor)) args)
    (hk : ∀ r h', h ≤ h' → Q r → r.pure = true → (∀ q ∈ bor, ∀ o : Ob, σ[q]? = some o → o.g ∉ r.ids) ∧ vcX W0 P ops l K ⟨((⟨e, σ, h⟩ : St).put d r).env, σ, h'⟩) :
    vcX W0 P ops ((⟨d, .call ⟨.value fop, as_, tys⟩, ty, pos, af, none⟩, b) :: l) K ⟨e, σ, h⟩ := by
  simp only [vcX, vcOp, gd, vcRun, isQuiet, isApp, vcCall, hf]
  rw [if_neg (by simp), if_neg (by simp)]
  refine ⟨[], bor, args, _, .nil, (fun r hr => by cases hr), (fun r hr => by cases hr), .inr rfl, ha, hc, fun lo hi r σ1 h1 h2 ⟨h3, h4, h5⟩ => ?_⟩
  subst h5
  obtain ⟨k1, k2⟩ := hk r hi (by omega) h3 h4
  refine ⟨fun q hq o ho _ => ⟨k1 q hq o ho, fun o1 ho1 => by cases ho1⟩, ?_⟩
  rw [V.pure_back _ _ _ h4, backObs_nil]
  exact k2
theorem Subs.cons {x y : V} {l l' : List V} (h : Sub x y) (hl : Subs l l') : Subs (x :: l) (y :: l') := by
  refine ⟨by simp [hl.1], fun i c c' h1 h2 => ?_⟩
  cases i with
  | zero =>
    simp only [List.getElem?_cons_zero, Option.some.injEq] at h1 h2
    subst h1; subst h2
    exact h
  | succ i => exact hl.2 i c c' (by simpa using h1) (by simpa using h2)

/-- The front of a frozen slice of strings. -/
theorem q_slice_strs {P : Program} {s : St} {t : TypeId} {g n : Nat} {k : IntKind} {xs : List ByteArray} (h : n ≤ xs.length) : sliceQ P s t (.t (.sl g (xs.map fun x => [T.str x]))) none (some (.t (.int k (n : Int)))) = match esize P t with
    | some sz => if sz = 1 then some (.t (.sl g ((xs.take n).map fun x => [T.str x]))) else if n = 0 then some (.t (.sl g [])) else none
    | none => none := by
  simp only [sliceQ, esize]
  cases tElem P t with
  | none => rfl
  | some e =>
    simp only
    cases tSize P e with
    | none => rfl
    | some sz =>
      simp only [List.length_map]
      rw [sliceB_nat h]
      simp only [sliceB_none, List.drop_zero]
      by_cases hn : n = 0
      · subst hn
        simp
      · have h0 : ((xs.map fun x => [T.str x]).getD 0 []).length = 1 := by
          cases xs with
          | nil => simp at h; omega
          | cons x l => rfl
        rw [h0]
        by_cases hs : sz = 1
        · subst hs
          rw [if_pos (.inr rfl), if_pos rfl, List.map_take]
        · rw [if_neg (fun hx => hx.elim hn (fun e => hs e.symm)), if_neg hs, if_neg hn]
attribute [go_sem] q_slice_strs
end Go.VL
namespace Go.VL
set_option linter.unusedVariables false
set_option linter.unusedSimpArgs false

/-- Rows that stand for a list, element by element. -/
def Rl {α : Type} (R : α → List T → Prop) : List α → List (List T) → Prop
  | [], cs => cs = []
  | a :: l, cs => ∃ c r, cs = c :: r ∧ R a c ∧ Rl R l r
section
variable {α : Type} {R : α → List T → Prop}
theorem Rl.len : ∀ {l : List α} {cs : List (List T)}, Rl R l cs → cs.length = l.length
  | [], cs, h => by unfold Rl at h; subst h; rfl
  | a :: l, cs, h => by
    unfold Rl at h
    obtain ⟨c, r, rfl, _, h2⟩ := h
    simp [Rl.len h2]
theorem Rl.get : ∀ {l : List α} {cs : List (List T)}, Rl R l cs → ∀ {n : Nat} (h : n < l.length), ∃ c, cs[n]? = some c ∧ R l[n] c
  | [], cs, h, n, hn => by simp at hn
  | a :: l, cs, h, n, hn => by
    unfold Rl at h
    obtain ⟨c, r, rfl, h1, h2⟩ := h
    cases n with
    | zero => exact ⟨c, rfl, h1⟩
    | succ n => simpa using Rl.get h2 (by simpa using hn)
theorem Rl.append : ∀ {l l' : List α} {cs cs' : List (List T)}, Rl R l cs → Rl R l' cs' → Rl R (l ++ l') (cs ++ cs')
  | [], l', cs, cs', h, h' => by unfold Rl at h; subst h; exact h'
  | a :: l, l', cs, cs', h, h' => by
    unfold Rl at h
    obtain ⟨c, r, rfl, h1, h2⟩ := h
    show Rl R (a :: (l ++ l')) (c :: (r ++ cs'))
    unfold Rl
    exact ⟨c, _, rfl, h1, Rl.append h2 h'⟩
theorem Rl.one {a : α} {c : List T} (h : R a c) : Rl R [a] [c] := by
  unfold Rl
  exact ⟨c, [], rfl, h, by unfold Rl; rfl⟩
theorem Rl.nil : Rl R [] [] := by unfold Rl; rfl
theorem Rl.of_all {p : α → Prop} : ∀ {es : List (List T)}, (∀ x ∈ es, ∃ a, R a x ∧ p a) → ∃ l : List α, Rl R l es ∧ ∀ a ∈ l, p a
  | [], _ => ⟨[], Rl.nil, fun a h => by cases h⟩
  | x :: es, h => by
    obtain ⟨a, h1, h2⟩ := h x List.mem_cons_self
    obtain ⟨l, h3, h4⟩ := Rl.of_all (es := es) (fun y hy => h y (List.mem_cons_of_mem _ hy))
    exact ⟨a :: l, by unfold Rl; exact ⟨x, es, rfl, h1, h3⟩, fun b hb => (List.mem_cons.1 hb).elim (fun e => e ▸ h2) (h4 b)⟩
end
theorem E.repL_Rl : ∀ {l : List E} {cs : List (List T)}, E.repL l cs ↔ Rl E.rep l cs
  | [], cs => by unfold E.repL Rl; rfl
  | e :: l, cs => by
    unfold E.repL Rl
    constructor
    · rintro ⟨c, r, h1, h2, h3⟩; exact ⟨c, r, h1, h2, E.repL_Rl.1 h3⟩
    · rintro ⟨c, r, h1, h2, h3⟩; exact ⟨c, r, h1, h2, E.repL_Rl.2 h3⟩

/-- What a list weighs: its count and its elements. -/
def wl {α : Type} (f : α → Nat) : List α → Nat
  | [] => 0
  | a :: l => 1 + f a + wl f l
theorem wl_len {α : Type} (f : α → Nat) : ∀ l : List α, l.length ≤ wl f l
  | [] => Nat.le_refl _
  | a :: l => by rw [wl, List.length_cons]; have := wl_len f l; omega
theorem wl_mem {α : Type} {f : α → Nat} : ∀ {l : List α} {a : α}, a ∈ l → f a + 1 ≤ wl f l
  | [], _, h => by cases h
  | x :: l, a, h => by
    rw [wl]
    rcases List.mem_cons.1 h with rfl | h
    · omega
    · have := wl_mem (f := f) h; omega
theorem wl_drop {α : Type} {f : α → Nat} {l : List α} {n : Nat} (h : n < l.length) : wl f (l.drop n) = 1 + f l[n] + wl f (l.drop (n + 1)) := by rw [drop_get h, wl]
/-- Equality of lists by one of elements. -/
def eql {α : Type} (q : α → α → Bool) : List α → List α → Bool
  | [], [] => true
  | a :: l, b :: l' => q a b && eql q l l'
  | _, _ => false
theorem eql_len {α : Type} {q : α → α → Bool} : ∀ {a b : List α}, a.length ≠ b.length → eql q a b = false
  | [], [], h => by simp at h
  | [], _ :: _, h => rfl
  | _ :: _, [], h => rfl
  | a :: l, b :: l', h => by rw [eql, eql_len (by simpa using h), Bool.and_false]
theorem eql_drop {α : Type} {q : α → α → Bool} {a b : List α} {n : Nat} (h : n < a.length) (h' : n < b.length) : eql q (a.drop n) (b.drop n) = (q a[n] b[n] && eql q (a.drop (n + 1)) (b.drop (n + 1))) := by rw [drop_get h, drop_get h', eql]
theorem eql_self {α : Type} {q : α → α → Bool} (hq : ∀ a, q a a = true) : ∀ l : List α, eql q l l = true
  | [] => rfl
  | a :: l => by rw [eql, hq, eql_self hq l]; rfl

/-- A binding. -/
structure B where
  nm : ByteArray
  va : E
def B.rep (b : B) (c : List T) : Prop := ∃ ce, c = .str b.nm :: ce ∧ b.va.rep ce
def B.wt (b : B) : Nat := b.nm.size + b.va.wt
def B.small (b : B) : Prop := b.nm.size ≤ reachBytes ∧ b.va.small
def B.eqb (a b : B) : Bool := decide (a.nm = b.nm) && E.eqb a.va b.va
theorem B.eqb_self (a : B) : B.eqb a a = true := by rw [B.eqb, E.eqb_self, decide_eq_true rfl]; rfl
theorem B.cells {b : B} {c : List T} (h : b.rep c) : ∃ k n g cs, c = [.str b.nm, .int .i64 k, .str n, .sl g cs] ∧ b.va.rep [.int .i64 k, .str n, .sl g cs] := by
  obtain ⟨ce, rfl, h⟩ := h
  obtain ⟨g, cs, rfl, _⟩ := E.rep_cells h
  exact ⟨_, _, g, cs, rfl, h⟩
theorem B.rep_of {b : B} {ce : List T} (h : b.va.rep ce) : b.rep (.str b.nm :: ce) := ⟨ce, rfl, h⟩

theorem B_of_Ty {P : Program} {tb tn t ti tl : TypeId} {fb fs : Array Field} (hb0 : P.underlying tb = some (.struct fb)) (hfb : fb.toList.map (·.type) = [tn, t]) (hu : P.underlying t = some (.struct fs)) (hf : fs.toList.map (·.type) = [ti, tn, tl]) (h1 : P.underlying ti = some (.int .i64)) (h2 : P.underlying tn = some .string) (h3 : P.underlying tl = some (.slice t))
    (hb : 0 < P.bytesOf t) {ts : List T} (h : Ty P tb ts) : ∃ b : B, b.rep ts ∧ b.small := by
  have hF := h.inv_struct hb0
  match hfs : fb.toList, hfb with
  | [f1, f2], hfb =>
    simp only [List.map_cons, List.map_nil, List.cons.injEq, and_true] at hfb
    obtain ⟨e1, e2⟩ := hfb
    rw [hfs] at hF
    obtain ⟨x, y, rfl, k1, k2⟩ := hF.inv_cons
    obtain ⟨x2, y2, rfl, k3, k4⟩ := k2.inv_cons
    obtain rfl := k4.inv_nil
    obtain ⟨s, rfl, hs⟩ := k1.inv_str (e1 ▸ h2)
    rw [e2] at k3
    obtain ⟨v, r1, r2⟩ := E_of_Ty hu hf h1 h2 h3 hb k3
    exact ⟨⟨s, v⟩, ⟨x2, by simp, r1⟩, hs, r2⟩
theorem Bs_of_Ty {P : Program} {tbl tb tn t ti tl : TypeId} {fb fs : Array Field} (hbl : P.underlying tbl = some (.slice tb)) (hbb : 0 < P.bytesOf tb) (hb0 : P.underlying tb = some (.struct fb)) (hfb : fb.toList.map (·.type) = [tn, t]) (hu : P.underlying t = some (.struct fs)) (hf : fs.toList.map (·.type) = [ti, tn, tl]) (h1 : P.underlying ti = some (.int .i64)) (h2 : P.underlying tn = some .string) (h3 : P.underlying tl = some (.slice t))
    (hb : 0 < P.bytesOf t) {ts : List T} (h : Ty P tbl ts) : ∃ (g : Nat) (cs : List (List T)) (l : List B), ts = [.sl g cs] ∧ Rl B.rep l cs ∧ l.length ≤ reachBytes ∧ ∀ b ∈ l, b.small := by
  obtain ⟨g, es, rfl, hes, hsz⟩ := h.inv_sl hbl
  obtain ⟨l, q1, q2⟩ := Rl.of_all (fun x hx => B_of_Ty hb0 hfb hu hf h1 h2 h3 hb (hes x hx))
  exact ⟨g, es, l, rfl, q1, by rw [← q1.len]; exact Nat.le_trans (Nat.le_mul_of_pos_right _ hbb) hsz, q2⟩
end Go.VL
namespace Go.VL
set_option linter.unusedVariables false
set_option linter.unusedSimpArgs false

/-- A map's entries, out of names and numbers. -/
def mE (l : List (ByteArray × Int)) : List (T × V) := l.map fun p => (.str p.1, .t (.int .i64 p.2))
/-- The first number of a name. -/
def lk (b : ByteArray) : List (ByteArray × Int) → Option Int
  | [] => none
  | (a, n) :: l => if a = b then some n else lk b l
theorem mE_all (l : List (ByteArray × Int)) : ((mE l).all fun p => isStrT p.1) = true := by
  induction l with
  | nil => rfl
  | cons p l ih => simp only [mE, List.map_cons, List.all_cons, isStrT, Bool.true_and]; exact ih
theorem mE_find (b : ByteArray) (l : List (ByteArray × Int)) : findV b (mE l) = (lk b l).map fun n => V.t (.int .i64 n) := by
  induction l with
  | nil => rfl
  | cons p l ih =>
    obtain ⟨a, n⟩ := p
    show (if a = b then some (V.t (.int .i64 n)) else findV b (mE l)) = (if a = b then some n else lk b l).map _
    by_cases h : a = b
    · rw [if_pos h, if_pos h]; rfl
    · rw [if_neg h, if_neg h]; exact ih
theorem mE_app (l : List (ByteArray × Int)) (b : ByteArray) (n : Int) : mE (l ++ [(b, n)]) = mE l ++ [(.str b, .t (.int .i64 n))] := by simp [mE]
theorem lk_app (b a : ByteArray) (n : Int) (l : List (ByteArray × Int)) : lk b (l ++ [(a, n)]) = (lk b l).or (if a = b then some n else none) := by
  induction l with
  | nil => simp only [List.nil_append, lk, Option.none_or]
  | cons p l ih =>
    obtain ⟨c, m⟩ := p
    rw [List.cons_append, lk, lk]
    by_cases h : c = b
    · rw [if_pos h, if_pos h]; rfl
    · rw [if_neg h, if_neg h]; exact ih

/-- What a look-up gives. -/
def lkV (o : Option Int) (ok : Bool) : V := if ok then .tup [.t (.int .i64 (o.getD 0)), .t (.bool o.isSome)] else .t (.int .i64 (o.getD 0))
theorem lkV_true {o : Option Int} : lkV o true = .tup [.t (.int .i64 (o.getD 0)), .t (.bool o.isSome)] := rfl
theorem lkV_false {o : Option Int} : lkV o false = .t (.int .i64 (o.getD 0)) := rfl
def lookR (o : Option Ob) (km : Bool) (z : Option V) (b : ByteArray) (ok : Bool) : Option V := match o with
  | some (.map _ es) => if km = true ∧ (es.all fun p => isStrT p.1) = true then match z with
      | some z => some (match findV b es with | some x => if ok then .tup [x, .t (.bool true)] else x | none => if ok then .tup [z, .t (.bool false)] else z)
      | none => none
    else none
  | _ => none
theorem lookR_mE {g : Nat} {ms : List (ByteArray × Int)} {b : ByteArray} {ok : Bool} : lookR (some (.map g (mE ms))) true (some (.t (.int .i64 0))) b ok = some (lkV (lk b ms) ok) := by
  unfold lookR lkV
  simp only [mE_all, and_self, if_true, mE_find]
  cases lk b ms <;> cases ok <;> rfl

section
variable {W0 : World} {P : Program} {ops : Array Oper} {l : List (Oper × Bool)} {K : St → Prop} {s : St} {e : Nat → V} {σ : List Ob} {h : Nat} {ty : TypeId} {pos : String} {af : Array Edge} {b : Bool}

theorem x_lookup {d : Option Tmp} {t : TypeId} {m k : Operand} {ok : Bool} : vcX W0 P ops ((⟨d, .lookup t m k ok, ty, pos, af, none⟩, b) :: l) K s = vcXQ W0 P ops l K s d (lookupQ P s t (s.eval m) (s.eval k) ok) := vcX_q rfl
theorem q_lookup {t : TypeId} {r : Nat} {x : ByteArray} {ok : Bool} : lookupQ P ⟨e, σ, h⟩ t (.map r) (.t (.str x)) ok = lookR (σ[r]?) (mKey P t) (mZero P t) x ok := rfl
theorem x_makeMap {d : Tmp} {t : TypeId} : vcX W0 P ops ((⟨some d, .makeMap t none, ty, pos, af, none⟩, b) :: l) K ⟨e, σ, h⟩ = ∀ g, h ≤ g → vcX W0 P ops l K ⟨upd e d (.map σ.length), σ ++ [.map g (mE [])], g + 1⟩ := by
  simp only [vcX, vcOp, gd, vcRun, isQuiet, vcE, touched]
  simp [St.put]
  rfl
theorem x_mapUpdate {t : TypeId} {m k x : Operand} (r g : Nat) (y : ByteArray) (n : Int) (ms : List (ByteArray × Int)) (hkt : mKey P t = true) (hm : St.eval ⟨e, σ, h⟩ m = .map r) (hk : St.eval ⟨e, σ, h⟩ k = .t (.str y)) (hx : St.eval ⟨e, σ, h⟩ x = .t (.int .i64 n))
    (hσ : σ[r]? = some (.map g (mE ms))) (hn : lk y ms = none) (hK : vcX W0 P ops l K ⟨e, σ.set r (.map g (mE (ms ++ [(y, n)]))), h⟩) :
    vcX W0 P ops ((⟨none, .mapUpdate t m k x, ty, pos, af, none⟩, true) :: l) K ⟨e, σ, h⟩ := by
  have hf : findV y (mE ms) = none := by rw [mE_find, hn]; rfl
  have hK' := hK
  rw [mE_app] at hK'
  simp only [vcX, vcOp, gd, vcRun, isQuiet, vcE, touched, hm, hk, hx, hσ, Bool.false_eq_true, if_false]
  exact ⟨.inl trivial, hkt, mE_all ms, hf, rfl, by simpa [St.put] using hK'⟩
end
theorem boxQ_map {r : Nat} : boxQ (.map r) = some [.map r] := rfl
attribute [go_sem] boxQ_map x_lookup q_lookup lookR_mE lkV_true lkV_false x_makeMap

end Go.VL
