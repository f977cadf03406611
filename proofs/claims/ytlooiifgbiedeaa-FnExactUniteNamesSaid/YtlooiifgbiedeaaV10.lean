/- VL, part 10: regions whose order is open: one order that stands for all. -/
import Derived.Test.YtlooiifgbiedeaaV9
namespace Go.VL
set_option linter.unusedVariables false
set_option linter.unusedSimpArgs false

/-! ### what a quiet operation depends on -/
theorem cells_congr {s s' : St} {p : V} {n : Nat} (h : ∀ r, p.root = some r → s'.σ[r]? = s.σ[r]?) : s'.cells p n = s.cells p n := by
  cases p <;> first | rfl | (simp only [St.cells]; rw [h _ rfl])
theorem live_congr {s s' : St} {p : V} (h : ∀ r, p.root = some r → s'.σ[r]? = s.σ[r]?) : s'.live p = s.live p := by
  cases p <;> first | rfl | (simp only [St.live]; rw [h _ rfl])
theorem elems_congr {s s' : St} {p : V} (h : ∀ r, p.root = some r → s'.σ[r]? = s.σ[r]?) : s'.elems p = s.elems p := by
  cases p <;> first | rfl | (simp only [St.elems]; rw [h _ rfl]) | (rename_i x; cases x <;> rfl)

/-- The objects that an operation's operands lead to at once. -/
def roots (s : St) (op : Op) : List Nat := op.operands.toList.filterMap fun x => (s.eval x).root

theorem evalQ_congr {P : Program} {s s' : St} {op : Op} (he : ∀ x ∈ op.operands, s'.eval x = s.eval x) (hσ : ∀ r ∈ roots s op, s'.σ[r]? = s.σ[r]?) : evalQ P s' op = evalQ P s op := by
  have hr : ∀ x ∈ op.operands, ∀ r, (s.eval x).root = some r → s'.σ[r]? = s.σ[r]? := fun x hx r h => hσ r (List.mem_filterMap.2 ⟨x, by simpa using hx, h⟩)
  cases op <;> simp only [Op.operands] at he hr <;> simp only [evalQ]
  case move x => rw [he x (by simp)]
  case assign x => rw [he x (by simp)]
  case pick c a b => rw [he c (by simp), he a (by simp), he b (by simp)]
  case load t x => rw [he x (by simp)]; unfold loadQ; rw [cells_congr (hr x (by simp))]; split <;> first | rfl | (rename_i n _ _; rw [cells_congr (hr x (by simp))])
  case nilCheck x =>
    rw [he x (by simp)]
    have := live_congr (hr x (by simp))
    cases hx : s.eval x <;> first | rfl | (simp only [nilCheckQ]; rw [hx] at this; rw [this])
  case binOp op t x y yt => rw [he x (by simp), he y (by simp)]
  case unOp op t x => rw [he x (by simp)]
  case convert src dst x =>
    rw [he x (by simp)]
    unfold convQ
    have := elems_congr (hr x (by simp))
    split <;> first | rfl | (split <;> first | rfl | (rw [this]))
  case makeFunc fn first captured =>
    have : captured.toList.map s'.eval = captured.toList.map s.eval := List.map_congr_left fun x hx => he x (by simp [Array.mem_toList_iff.1 hx])
    rw [this]
  case fieldAddr t x f =>
    rw [he x (by simp)]
    have := live_congr (hr x (by simp))
    unfold fieldAddrQ
    cases hx : s.eval x <;> cases tField P t f <;> first | rfl | (simp only; rw [hx] at this; rw [this])
  case field t x f => rw [he x (by simp)]
  case indexAddr t x i =>
    rw [he x (by simp), he i (by simp)]
    unfold indexAddrQ
    cases tElem P t with
    | none => rfl
    | some e =>
      simp only
      cases tSize P e with
      | none => rfl
      | some sz =>
        simp only
        cases hx : s.eval x <;> try rfl
        case t q => cases q <;> first | rfl | (cases s.eval i <;> first | rfl | (rename_i z; cases z <;> rfl))
        case own r ver off len =>
          cases s.eval i <;> try rfl
          rename_i z
          cases z <;> try rfl
          simp only
          rw [hr x (by simp) r (by rw [hx]; rfl)]
  case index t x i => rw [he x (by simp), he i (by simp)]
  case extract x i => rw [he x (by simp)]
  case build t parts =>
    have : (parts.toList.map fun p => (p.1, s'.eval p.2)) = parts.toList.map fun p => (p.1, s.eval p.2) := List.map_congr_left fun p hp => by
      rw [he p.2 (by simp; exact ⟨p.1, by simpa using hp⟩)]
    rw [this]
  case slice t x lo hi mx =>
    have h1 : lo.map s'.eval = lo.map s.eval := by
      cases lo with
      | none => rfl
      | some y => simp only [Option.map_some]; rw [he y (by simp)]
    have h2 : hi.map s'.eval = hi.map s.eval := by
      cases hi with
      | none => rfl
      | some y => simp only [Option.map_some]; rw [he y (by simp)]
    rw [he x (by simp), h1, h2]
    unfold sliceQ
    cases hx : s.eval x <;> first | rfl | (simp only; rw [hr x (by simp) _ (by rw [hx]; rfl)]) | (rename_i q; cases q <;> rfl)
  case call c =>
    obtain ⟨callee, args, ts⟩ := c
    simp only [Call.operands] at he hr ⊢
    have hargs : ∀ x ∈ args.toList, s'.eval x = s.eval x := fun x hx => he x (by simp [Array.mem_toList_iff.1 hx])
    have hargr : ∀ x ∈ args.toList, ∀ r, (s.eval x).root = some r → s'.σ[r]? = s.σ[r]? := fun x hx => hr x (by simp [Array.mem_toList_iff.1 hx])
    split
    · rename_i x t ha ht
      rw [hargs x (by rw [ha]; simp)]
      have := live_congr (hargr x (by rw [ha]; simp))
      unfold lenQ
      cases hx : s.eval x <;> first | rfl | (simp only; rw [hx] at this; rw [this]) | (rename_i q; cases q <;> rfl)
    · rename_i x t ha ht
      rw [hargs x (by rw [ha]; simp)]
    · rename_i x y ha
      rw [hargs x (by rw [ha]; simp), hargs y (by rw [ha]; simp)]
    · rename_i x y ha
      rw [hargs x (by rw [ha]; simp), hargs y (by rw [ha]; simp)]
    · rfl

theorem vcE_mono {P : Program} {s : St} {op : Op} {K K' : V → List Ob → Nat → Prop} (hK : ∀ v σ h, K v σ h → K' v σ h) (h : vcE P s op K) : vcE P s op K' := by
  cases op
  case alloc t =>
    simp only [vcE] at h ⊢
    revert h
    cases tZero P t with
    | none => exact fun h => h
    | some z => exact fun h g hg => hK _ _ _ (h g hg)
  case box t x => exact ⟨h.1, fun g hg => hK _ _ _ (h.2 g hg)⟩
  case buildSlice t len parts =>
    simp only [vcE] at h ⊢
    revert h
    cases tElem P t with
    | none => exact fun h => h
    | some e =>
      simp only
      cases tSize P e with
      | none => exact fun h => h
      | some sz =>
        cases tZero P e with
        | none => exact fun h => h
        | some z =>
          simp only
          cases fillRow sz (List.replicate len z) (parts.toList.map fun p => (p.1, s.eval p.2)) with
          | none => exact fun h => h
          | some es => exact fun h => ⟨h.1, h.2.1, h.2.2.1, fun g hg => hK _ _ _ (h.2.2.2 g hg)⟩
  case makeSlice t l c =>
    simp only [vcE] at h ⊢
    revert h
    cases tElem P t with
    | none => exact fun h => h
    | some e =>
      simp only
      generalize tSize P e = x1, tZero P e = x2, tBytes P e = x3, s.eval l = x4, s.eval c = x5
      split
      · exact fun h => ⟨h.1, h.2.1, h.2.2.1, h.2.2.2.1, h.2.2.2.2.1, h.2.2.2.2.2.1, fun g hg => hK _ _ _ (h.2.2.2.2.2.2 g hg)⟩
      · exact fun h => h
  case store t p x =>
    simp only [vcE] at h ⊢
    revert h
    generalize tSize P t = x1, s.eval p = x2
    split
    · rename_i r ver i j
      generalize s.σ[r]? = x3
      split
      · rename_i g v sz m es
        generalize es[i]? = x4
        split
        · exact fun h => ⟨h.1, h.2.1, h.2.2.1, h.2.2.2.1, hK _ _ _ h.2.2.2.2⟩
        · exact fun h => h
      · exact fun h => h
    · exact fun h => h
  case call c =>
    simp only [vcE] at h ⊢
    revert h
    by_cases hc : isApp c.callee = true
    · rw [if_pos hc, if_pos hc]
      generalize c.args.toList = a1, c.argTypes.toList = a2
      split
      · rename_i x y t t2
        generalize tElem P t = a3
        split
        · rename_i e
          generalize tSize P e = b1, tZero P e = b2, tBytes P e = b3
          generalize appElems P s (b1.getD 0) b2 t2 (s.eval y) = b4
          split
          · rename_i sz z b l
            rintro ⟨h1, h2, h3, h4, h⟩
            refine ⟨h1, h2, h3, h4, ?_⟩
            revert h
            generalize s.eval x = xv
            split
            · rintro ⟨h5, h⟩
              refine ⟨h5, ?_⟩
              by_cases h0 : l.length = 0
              · rw [if_pos h0] at h ⊢
                exact hK _ _ _ h
              · rw [if_neg h0] at h ⊢
                exact fun g n hg => hK _ _ _ (h g n hg)
            · rename_i r ver len
              generalize s.σ[r]? = x3
              split
              · rintro ⟨h5, h6, h7, h⟩
                exact ⟨h5, h6, h7, fun g n h' hg => hK _ _ _ (h g n h' hg)⟩
              · exact fun h => h
            · exact fun h => h
          · exact fun h => h
        · exact fun h => h
      · exact fun h => h
    · rw [if_neg hc]
      exact fun h => h.elim
  all_goals exact h.elim

theorem get_app {σ : List Ob} {o : Ob} {r : Nat} (h : r < σ.length) : (σ ++ [o])[r]? = σ[r]? := List.getElem?_append_left h

/-- Only what an operation touches has turned. -/
theorem vcE_touch {P : Program} {s : St} {op : Op} {K : V → List Ob → Nat → Prop} (h : vcE P s op K) : vcE P s op (fun v σ' h' => K v σ' h' ∧ ∀ r, r < s.σ.length → r ∉ touched s op → σ'[r]? = s.σ[r]?) := by
  cases op
  case alloc t =>
    simp only [vcE] at h ⊢
    revert h
    cases tZero P t with
    | none => exact fun h => h
    | some z => exact fun h g hg => ⟨h g hg, fun r hr _ => get_app hr⟩
  case box t x => exact ⟨h.1, fun g hg => ⟨h.2 g hg, fun r hr _ => get_app hr⟩⟩
  case buildSlice t len parts =>
    simp only [vcE] at h ⊢
    revert h
    cases tElem P t with
    | none => exact fun h => h
    | some e =>
      simp only
      cases tSize P e with
      | none => exact fun h => h
      | some sz =>
        cases tZero P e with
        | none => exact fun h => h
        | some z =>
          simp only
          cases fillRow sz (List.replicate len z) (parts.toList.map fun p => (p.1, s.eval p.2)) with
          | none => exact fun h => h
          | some es => exact fun h => ⟨h.1, h.2.1, h.2.2.1, fun g hg => ⟨h.2.2.2 g hg, fun r hr _ => get_app hr⟩⟩
  case makeSlice t l c =>
    simp only [vcE] at h ⊢
    revert h
    cases tElem P t with
    | none => exact fun h => h
    | some e =>
      simp only
      generalize tSize P e = x1, tZero P e = x2, tBytes P e = x3, s.eval l = x4, s.eval c = x5
      split
      · exact fun h => ⟨h.1, h.2.1, h.2.2.1, h.2.2.2.1, h.2.2.2.2.1, h.2.2.2.2.2.1, fun g hg => ⟨h.2.2.2.2.2.2 g hg, fun r hr _ => get_app hr⟩⟩
      · exact fun h => h
  case store t p x =>
    simp only [vcE, touched] at h ⊢
    revert h
    generalize tSize P t = x1
    generalize hx2 : s.eval p = x2
    split
    · rename_i r ver i j
      generalize s.σ[r]? = x3
      split
      · rename_i g v sz m es
        generalize es[i]? = x4
        split
        · refine fun h => ⟨h.1, h.2.1, h.2.2.1, h.2.2.2.1, h.2.2.2.2, fun q hq hnt => ?_⟩
          rw [List.getElem?_set_ne]
          intro e
          subst e
          exact hnt (by simp [V.root])
        · exact fun h => h
      · exact fun h => h
    · exact fun h => h
  case call c =>
    simp only [vcE, touched] at h ⊢
    revert h
    by_cases hc : isApp c.callee = true
    · rw [if_pos hc, if_pos hc]
      have h0 : c.args[0]? = c.args.toList[0]? := by simp
      rw [h0]
      generalize c.args.toList = a1, c.argTypes.toList = a2
      split
      · rename_i x y t t2
        generalize tElem P t = a3
        split
        · rename_i e
          generalize tSize P e = b1, tZero P e = b2, tBytes P e = b3
          generalize appElems P s (b1.getD 0) b2 t2 (s.eval y) = b4
          split
          · rename_i sz z b l
            rintro ⟨h1, h2, h3, h4, h⟩
            refine ⟨h1, h2, h3, h4, ?_⟩
            revert h
            simp only [List.getElem?_cons_zero]
            generalize s.eval x = xv
            split
            · rintro ⟨h5, h⟩
              refine ⟨h5, ?_⟩
              by_cases h0 : l.length = 0
              · rw [if_pos h0] at h ⊢
                exact ⟨h, fun _ _ _ => trivial⟩
              · rw [if_neg h0] at h ⊢
                exact fun g n hg => ⟨h g n hg, fun r hr _ => get_app hr⟩
            · rename_i r ver len
              generalize s.σ[r]? = x3
              split
              · rintro ⟨h5, h6, h7, h⟩
                refine ⟨h5, h6, h7, fun g n h' hg => ⟨h g n h' hg, fun q hq hnt => ?_⟩⟩
                rw [List.getElem?_set_ne]
                intro e
                subst e
                exact hnt (by simp [V.root])
              · exact fun h => h
            · exact fun h => h
          · exact fun h => h
        · exact fun h => h
      · exact fun h => h
    · rw [if_neg hc]
      exact fun h => h.elim
  all_goals exact h.elim

theorem vcE_congr {P : Program} {s s' : St} {op : Op} {K : V → List Ob → Nat → Prop} (he : ∀ x ∈ op.operands, s'.eval x = s.eval x) (hσ : s'.σ = s.σ) (hh : s'.h = s.h) (h : vcE P s' op K) : vcE P s op K := by
  have hel : ∀ p, s'.elems p = s.elems p := fun p => elems_congr (fun r _ => by rw [hσ])
  have hap : ∀ sz z t y, appElems P s' sz z t y = appElems P s sz z t y := fun sz z t y => by unfold appElems; rw [hel]
  cases op <;> simp only [Op.operands] at he
  case alloc t => simp only [vcE, hσ, hh] at h ⊢; exact h
  case box t x => simp only [vcE, hσ, hh, he x (by simp)] at h ⊢; exact h
  case buildSlice t len parts =>
    have : (parts.toList.map fun p => (p.1, s'.eval p.2)) = parts.toList.map fun p => (p.1, s.eval p.2) := List.map_congr_left fun p hp => by
      rw [he p.2 (by simp; exact ⟨p.1, by simpa using hp⟩)]
    simp only [vcE, hσ, hh, this] at h ⊢
    exact h
  case makeSlice t l c => simp only [vcE, hσ, hh, he l (by simp), he c (by simp)] at h ⊢; exact h
  case store t p x => simp only [vcE, hσ, hh, he p (by simp), he x (by simp)] at h ⊢; exact h
  case call c =>
    obtain ⟨callee, args, ts⟩ := c
    simp only [Call.operands] at he
    have hargs : ∀ x ∈ args.toList, s'.eval x = s.eval x := fun x hx => he x (by simp [Array.mem_toList_iff.1 hx])
    simp only [vcE, hap] at h ⊢
    by_cases hc : isApp callee = true
    · rw [if_pos hc] at h ⊢
      revert h hargs
      generalize args.toList = a1, ts.toList = a2
      intro hargs
      split
      · rename_i x y t t2
        rw [hargs x (by simp), hargs y (by simp), hσ, hh]
        exact fun h => h
      · exact fun h => h
    · rw [if_neg hc] at h
      exact h.elim
  all_goals exact h.elim

theorem locV_congr {s s' : St} (hσ : s'.σ = s.σ) : ∀ fp bor, V.loc s'.σ fp bor = V.loc s.σ fp bor := fun fp bor => by rw [hσ]

theorem vcCall_mono {P : Program} {s : St} {c : Call} {tc tc' : List Nat → Prop} {K K' : V → List Ob → Nat → Prop} (ht : ∀ fp, tc fp → tc' fp) (hK : ∀ v σ h, K v σ h → K' v σ h) (h : vcCall P s c tc K) : vcCall P s c tc' K' := by
  unfold vcCall at h ⊢
  revert h
  generalize c.callee = cal
  split
  · rename_i fop
    generalize s.eval fop = fv
    split
    · rintro ⟨fp, bor, args, R, h1, h2, h3, h4, h5, h6, h7⟩
      exact ⟨fp, bor, args, R, h1, h2, h3, ht _ h4, h5, h6, fun lo hi r σ1 k1 k2 k3 => ⟨(h7 lo hi r σ1 k1 k2 k3).1, hK _ _ _ (h7 lo hi r σ1 k1 k2 k3).2⟩⟩
    · exact fun h => h
  · exact fun h => h

theorem idx_mem {fp : List Nat} {r k : Nat} (h : idx fp r = some k) : r ∈ fp := List.mem_of_getElem? (idx_some h)

theorem vcCall_touch {P : Program} {s : St} {c : Call} {tc : List Nat → Prop} {K : V → List Ob → Nat → Prop} (h : vcCall P s c tc K) :
    vcCall P s c tc (fun v σ' h' => K v σ' h' ∧ ∃ ts, tc ts ∧ ∀ r, r < s.σ.length → r ∉ ts → σ'[r]? = s.σ[r]?) := by
  unfold vcCall at h ⊢
  revert h
  generalize c.callee = cal
  split
  · rename_i fop
    generalize s.eval fop = fv
    split
    · rintro ⟨fp, bor, args, R, h1, h2, h3, h4, h5, h6, h7⟩
      refine ⟨fp, bor, args, R, h1, h2, h3, h4, h5, h6, fun lo hi r σ1 k1 k2 k3 => ⟨(h7 lo hi r σ1 k1 k2 k3).1, (h7 lo hi r σ1 k1 k2 k3).2, fp, h4, fun q hq hnt => ?_⟩⟩
      rw [List.getElem?_eq_getElem hq]
      refine backObs_other (List.getElem?_eq_getElem hq) ?_
      cases hk : idx fp q with
      | none => rfl
      | some k => exact absurd (idx_mem hk) hnt
    · exact fun h => h
  · exact fun h => h

theorem vcCall_congr {P : Program} {s s' : St} {c : Call} {tc : List Nat → Prop} {K : V → List Ob → Nat → Prop} (he : ∀ x ∈ c.operands, s'.eval x = s.eval x) (hσ : s'.σ = s.σ) (hh : s'.h = s.h) (h : vcCall P s' c tc K) : vcCall P s c tc K := by
  obtain ⟨callee, args, ts⟩ := c
  simp only [Call.operands] at he
  have hargs : args.toList.map s'.eval = args.toList.map s.eval := List.map_congr_left fun x hx => he x (by simp [Array.mem_toList_iff.1 hx])
  unfold vcCall at h ⊢
  simp only [hargs, hσ, hh] at h ⊢
  cases callee with
  | value fop =>
    simp only at h ⊢
    rw [he fop (by simp)] at h
    exact h
  | invoke r m => exact h.elim
  | builtin b => exact h.elim

theorem vcRun_mono {P : Program} {s : St} {op : Op} {tc tc' : List Nat → Prop} {K K' : V → List Ob → Nat → Prop} (ht : ∀ fp, tc fp → tc' fp) (hK : ∀ v σ h, K v σ h → K' v σ h) (h : vcRun P s op tc K) : vcRun P s op tc' K' := by
  unfold vcRun at h ⊢
  by_cases hq : isQuiet op = true
  · rw [if_pos hq] at h ⊢
    revert h
    cases evalQ P s op with
    | none => exact fun h => h
    | some v => exact hK _ _ _
  · rw [if_neg hq] at h ⊢
    cases op
    case call c =>
      simp only at h ⊢
      by_cases hc : isApp c.callee = true
      · rw [if_pos hc] at h ⊢
        exact ⟨ht _ h.1, vcE_mono hK h.2⟩
      · rw [if_neg hc] at h ⊢
        exact vcCall_mono ht hK h
    all_goals exact ⟨ht _ h.1, vcE_mono hK h.2⟩

theorem vcRun_touch {P : Program} {s : St} {op : Op} {tc : List Nat → Prop} {K : V → List Ob → Nat → Prop} (hq : isQuiet op = false) (h : vcRun P s op tc K) :
    vcRun P s op tc (fun v σ' h' => K v σ' h' ∧ ∃ ts, tc ts ∧ ∀ r, r < s.σ.length → r ∉ ts → σ'[r]? = s.σ[r]?) := by
  unfold vcRun at h ⊢
  rw [if_neg (by rw [hq]; simp)] at h ⊢
  cases op
  case call c =>
    simp only at h ⊢
    by_cases hc : isApp c.callee = true
    · rw [if_pos hc] at h ⊢
      exact ⟨h.1, vcE_mono (fun v σ h' k => ⟨k.1, _, h.1, k.2⟩) (vcE_touch h.2)⟩
    · rw [if_neg hc] at h ⊢
      exact vcCall_touch h
  all_goals exact ⟨h.1, vcE_mono (fun v σ h' k => ⟨k.1, _, h.1, k.2⟩) (vcE_touch h.2)⟩

theorem touched_congr {s s' : St} {op : Op} (he : ∀ x ∈ op.operands, s'.eval x = s.eval x) : touched s' op = touched s op := by
  cases op <;> simp only [touched, Op.operands] at he ⊢
  case store t p x => rw [he p (by simp)]
  case call c =>
    cases hx : c.args[0]? with
    | none => rfl
    | some x => simp only; rw [he x (by simp [Call.operands, Array.mem_of_getElem? hx])]

/-- The same operation in a state that parts from the first in slots alone that it does not see. -/
theorem vcRun_congr {P : Program} {s s' : St} {op : Op} {tc : List Nat → Prop} {K : V → List Ob → Nat → Prop} (he : ∀ x ∈ op.operands, s'.eval x = s.eval x) (hσ : s'.σ = s.σ) (hh : s'.h = s.h) (h : vcRun P s' op tc K) : vcRun P s op tc K := by
  unfold vcRun at h ⊢
  by_cases hq : isQuiet op = true
  · rw [if_pos hq] at h ⊢
    rw [evalQ_congr he (fun r _ => by rw [hσ]), hσ, hh] at h
    exact h
  · rw [if_neg hq] at h ⊢
    cases op
    case call c =>
      simp only at h ⊢
      by_cases hc : isApp c.callee = true
      · rw [if_pos hc] at h ⊢
        rw [touched_congr (s := s) (s' := s') (op := .call c) he] at h
        exact ⟨h.1, vcE_congr he hσ hh h.2⟩
      · rw [if_neg hc] at h ⊢
        exact vcCall_congr he hσ hh h
    all_goals
      simp only at h ⊢
      rw [touched_congr (s := s) (s' := s') he] at h
      exact ⟨h.1, vcE_congr he hσ hh h.2⟩
end Go.VL
