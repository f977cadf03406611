/- VL, part 12: a region whose order is open: one order stands for all. -/
import Derived.Test.YtlooiifgbiedeaaV11
namespace Go.VL
set_option linter.unusedVariables false
set_option linter.unusedSimpArgs false

/-- The operations that bind ahead. -/
def edges (o : Oper) : List Nat := (o.after.toList.filter (Region.binds .any ·)).map (·.on)
def closL (ops : Array Oper) : List (List Nat) := ops.toList.foldl (fun acc o => acc ++ [(edges o).flatMap fun j => j :: acc.getD j []]) []
def cOk (ops : Array Oper) (C : List (List Nat)) : Bool :=
  (List.range C.length).all fun i => (C.getD i []).all fun z => match ops[i]? with
    | some o => (edges o).any fun j => decide (j < i) && (z == j || (C.getD j []).contains z)
    | none => false
def rOk (ops : Array Oper) (C : List (List Nat)) (y i : Nat) : Bool := (C.getD i []).contains y || match ops[y]?, ops[i]? with
  | some oy, some oi => isQuiet oy.op && oy.apart ops oi
  | _, _ => false
def pwOk (R : Nat → Nat → Bool) : List Nat → Bool
  | [] => true
  | x :: l => l.all (R x) && pwOk R l
def eOk (ops : Array Oper) : Bool := (List.range ops.size).all fun i => match ops[i]? with | some o => (edges o).all (· < i) | none => true
def drOk (ops : Array Oper) (C : List (List Nat)) (ord : List Nat) : Bool :=
  cOk ops C && eOk ops && pwOk (rOk ops C) ord && pwOk (fun x y => x != y) ord && ord.all (· < ops.size) && (List.range ops.size).all ord.contains

/-- The order that is walked: quiet operations as soon as they may, then the first other one. -/
def ordGo (ops : Array Oper) : Nat → List Nat → List Nat → List Nat
  | 0, done, _ => done.reverse
  | n + 1, done, pend =>
    let ready := pend.filter fun i => match ops[i]? with | some o => (edges o).all done.contains | none => true
    match (ready.find? fun i => match ops[i]? with | some o => isQuiet o.op | none => true).or ready.head? with
    | some i => ordGo ops n (i :: done) (pend.filter (· != i))
    | none => done.reverse
def ordOf (ops : Array Oper) : List Nat := ordGo ops ops.size [] (List.range ops.size)

theorem mem_edges {o : Oper} {j : Nat} : j ∈ edges o ↔ ∃ e ∈ o.after, Region.binds .any e = true ∧ e.on = j := by
  simp [edges, and_assoc]

theorem pwOk_spec {R : Nat → Nat → Bool} : ∀ {l : List Nat}, pwOk R l = true → l.Pairwise fun x y => R x y = true
  | [], _ => .nil
  | x :: l, h => by
    simp only [pwOk, Bool.and_eq_true, List.all_eq_true] at h
    exact .cons h.1 (pwOk_spec h.2)

section
variable {P : Program} {ops : Array Oper} {C : List (List Nat)} {w0 : World} {av0 X : Nat → Prop} {N : Nat} {K : St → Prop} {Q : Exit → Act → World → Prop}

theorem cOk_spec (h : cOk ops C = true) {i z : Nat} (hz : z ∈ C.getD i []) : ∃ o, ops[i]? = some o ∧ ∃ j ∈ edges o, j < i ∧ (z = j ∨ z ∈ C.getD j []) := by
  have hi : i < C.length := by
    rcases Nat.lt_or_ge i C.length with h1 | h1
    · exact h1
    · rw [List.getD_eq_getElem?_getD, List.getElem?_eq_none h1] at hz
      cases hz
  have h2 := List.all_eq_true.1 (List.all_eq_true.1 h i (List.mem_range.2 hi)) z hz
  split at h2
  · rename_i o ho
    obtain ⟨j, h3, h4⟩ := List.any_eq_true.1 h2
    simp only [Bool.and_eq_true, decide_eq_true_eq, Bool.or_eq_true, beq_iff_eq, List.contains_iff_mem] at h4
    exact ⟨o, ho, j, h3, h4⟩
  · cases h2

/-- What is done has its binding forerunners done. -/
def Closed (ops : Array Oper) (listed : Array Bool) : Prop := ∀ (j : Nat) (o : Oper), ops[j]? = some o → listed.getD j true = true → ∀ x ∈ edges o, listed.getD x false = true

theorem Closed.clos (hc : cOk ops C = true) {listed : Array Bool} (h : Closed ops listed) : ∀ (i : Nat) (z : Nat), listed.getD i false = true → z ∈ C.getD i [] → listed.getD z false = true := by
  intro i
  induction i using Nat.strongRecOn with
  | _ i ih =>
    intro z hl hz
    obtain ⟨o, ho, j, hj, hlt, h1⟩ := cOk_spec hc hz
    have hlt' : listed.getD i true = true := by
      rw [Array.getD_eq_getD_getElem?] at hl ⊢
      revert hl
      cases listed[i]? <;> simp
    have hjl := h i o ho hlt' j hj
    rcases h1 with rfl | h1
    · exact hjl
    · exact ih j hlt z hjl h1

theorem region_any (hX : ∀ b, X b → b < w0.heap.size) (hd : ∀ (j : Nat) (o : Oper) (t : Nat), ops[j]? = some o → o.dst = some t → t < N) (hc : cOk ops C = true) (he : eOk ops = true)
    (hQ : ∀ a w s, Inv w0 av0 X N a w s → K s → Q .normal a w) : ∀ (n : Nat) (rem : List Nat) (listed : Array Bool) (L : Lst) (a : Act) (w : World) (s : St), rem.length = n → listed.size = ops.size →
    (∀ j, j ∈ rem ↔ listed.getD j true = false) → rem.Pairwise (fun x y => rOk ops C x y = true) → rem.Nodup → Closed ops listed → Inv w0 av0 X N a w s → vcR P ops C rem L K s → wpAny P .any ops Q n listed a w := by
  intro n
  induction n with
  | zero =>
    intro rem listed L a w s hn hsz hrem hpw hnd hcl hi h
    have : rem = [] := List.length_eq_zero_iff.1 hn
    subst this
    refine ⟨?_, hQ a w s hi h⟩
    refine List.eq_nil_iff_forall_not_mem.2 fun j hj => ?_
    exact absurd ((hrem j).2 (mem_ready.1 hj).1) (by simp)
  | succ n ih =>
    intro rem listed L a w s hn hsz hrem hpw hnd hcl hi h
    refine ⟨fun hnone => ?_, fun i hir => ?_⟩
    · exfalso
      have key : ∀ j, j ∈ rem → False := by
        intro j
        induction j using Nat.strongRecOn with
        | _ j ihj =>
          intro hj
          have hjl := (hrem j).1 hj
          have hjs : j < ops.size := by
            rcases Nat.lt_or_ge j ops.size with h1 | h1
            · exact h1
            · rw [Array.getD_eq_getD_getElem?, Array.getElem?_eq_none (by omega)] at hjl
              cases hjl
          have ho : ops[j]? = some ops[j] := Array.getElem?_eq_getElem hjs
          have hej := List.all_eq_true.1 he j (List.mem_range.2 hjs)
          rw [ho] at hej
          simp only [List.all_eq_true, decide_eq_true_eq] at hej
          refine List.not_mem_nil (hnone ▸ mem_ready.2 ⟨hjl, ops[j], ho, fun e hem heb => ?_⟩ : j ∈ ([] : List Nat))
          have hlt := hej e.on (mem_edges.2 ⟨e, hem, heb, rfl⟩)
          cases hx : listed.getD e.on true with
          | false => exact (ihj e.on hlt ((hrem e.on).2 hx)).elim
          | true =>
            rw [Array.getD_eq_getD_getElem?, Array.getElem?_eq_getElem (by omega)] at hx ⊢
            exact hx
      cases rem with
      | nil => simp at hn
      | cons x l => exact key x List.mem_cons_self
    · obtain ⟨hil, oi, hio, hall⟩ := mem_ready.1 hir
      obtain ⟨l1, l2, rfl⟩ := List.append_of_mem ((hrem i).2 hil)
      have hedge : ∀ x ∈ edges oi, listed.getD x false = true := fun x hx => by
        obtain ⟨e, h1, h2, rfl⟩ := mem_edges.1 hx
        exact hall e h1 h2
      have hCi : ∀ y, y ∈ C.getD i [] → listed.getD y false = true := fun y hy => by
        obtain ⟨o, ho, j, hj, hlt, h1⟩ := cOk_spec hc hy
        rw [hio] at ho
        cases ho
        rcases h1 with rfl | h1
        · exact hedge y hj
        · exact hcl.clos hc j y (hedge j hj) h1
      have hfront := vcR_front hX hd hio l1 l2 L a s hi (fun y hy => ?_) h
      · unfold vcR at hfront
        rw [hio] at hfront
        simp only at hfront
        refine wpOp_mono (fun a' w' ⟨s', h1, h2⟩ => ?_) (vcOp_sound hi (hi.hX hX) hd hio hfront)
        have hnd' := List.nodup_append.1 hnd
        have hni : i ∉ l1 ∧ i ∉ l2 := ⟨fun h => hnd'.2.2 i h i List.mem_cons_self rfl, (List.nodup_cons.1 hnd'.2.1).1⟩
        have hsub : (l1 ++ l2).Sublist (l1 ++ i :: l2) := List.Sublist.append (List.Sublist.refl _) (List.sublist_cons_self i l2)
        refine ih (l1 ++ l2) _ _ a' w' s' ?_ (by simpa using hsz) (fun j => ?_) (hpw.sublist hsub) (hnd.sublist hsub) ?_ h1 h2
        · simp only [List.length_append, List.length_cons] at hn ⊢
          omega
        · by_cases hji : j = i
          · subst hji
            have : j < ops.size := (Array.getElem?_eq_some_iff.1 hio).1
            simp [hni, Array.getElem?_setIfInBounds, hsz, this]
          · rw [getD_set_ne true (Ne.symm hji), ← hrem j]
            simp [hji]
        · intro j o ho hjl x hx
          by_cases hji : j = i
          · subst hji
            rw [hio] at ho
            cases ho
            exact getD_set_true (hedge x hx)
          · rw [getD_set_ne true (Ne.symm hji)] at hjl
            exact getD_set_true (hcl j o ho hjl x hx)
      · have hyr : y ∈ l1 ++ i :: l2 := List.mem_append_left _ hy
        have hyl := (hrem y).1 hyr
        have hnot : y ∉ C.getD i [] := fun hyc => by
          have := hCi y hyc
          rw [Array.getD_eq_getD_getElem?] at this hyl
          revert this hyl
          cases listed[y]? <;> simp
        have hR := (List.pairwise_append.1 hpw).2.2 y hy i List.mem_cons_self
        unfold rOk at hR
        simp only [Bool.or_eq_true, List.contains_iff_mem] at hR
        rcases hR with h1 | h1
        · exact absurd h1 hnot
        · rw [hio] at h1
          cases hoy : ops[y]? with
          | none => rw [hoy] at h1; cases h1
          | some oy =>
            rw [hoy] at h1
            simp only [Bool.and_eq_true] at h1
            exact ⟨oy, rfl, h1.1, h1.2, hnot⟩

theorem wp_region_drawn (hm : P.follows .mixedOrders = true) (hX : ∀ b, X b → b < w0.heap.size) (hd : ∀ (j : Nat) (o : Oper) (t : Nat), ops[j]? = some o → o.dst = some t → t < N) {ord : List Nat} (ho : drOk ops C ord = true)
    (hQ : ∀ a w s, Inv w0 av0 X N a w s → K s → Q .normal a w) {a : Act} {w : World} {s : St} (hi : Inv w0 av0 X N a w s) (h : vcR P ops C ord [] K s) {id : Nat} : (Code.region id ops true).wp P Q a w := by
  simp only [drOk, Bool.and_eq_true] at ho
  obtain ⟨⟨⟨⟨⟨h1, h2⟩, h3⟩, h4⟩, h5⟩, h6⟩ := ho
  have hnd : ord.Nodup := (pwOk_spec h4).imp (by simp)
  have hmem : ∀ j, j ∈ ord ↔ j < ops.size := fun j => ⟨fun hj => by simpa using List.all_eq_true.1 h5 j hj, fun hj => by simpa using List.all_eq_true.1 h6 j (List.mem_range.2 hj)⟩
  have hlen : ord.length = ops.size := by
    have h7 : ord.Perm (List.range ops.size) := (List.perm_ext_iff_of_nodup hnd List.nodup_range).2 fun j => by rw [hmem, List.mem_range]
    simpa using h7.length_eq
  refine wp_region_any hm (region_any (C := C) (K := K) hX hd h1 h2 hQ ops.size ord _ [] a _ s hlen (by simp) (fun j => ?_) (pwOk_spec h3) hnd ?_ hi.drew h)
  · rw [hmem, Array.getD_eq_getD_getElem?]
    by_cases hj : j < ops.size <;> simp [hj]
  · intro j o ho hl
    have : j < ops.size := (Array.getElem?_eq_some_iff.1 ho).1
    simp [this] at hl
end
end Go.VL
