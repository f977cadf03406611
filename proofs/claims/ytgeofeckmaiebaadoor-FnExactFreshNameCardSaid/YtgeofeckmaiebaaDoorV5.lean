/- A logic of values for walks: parts 5 to 8. -/
import Derived.Test.YtgeofeckmaiebaaDoorV1
import Derived.Deep.AppendSrc
import Derived.Room.Entries
import Derived.Laws.MakeOwn
import Derived.Lib.AppendZerosOnto
namespace Go.VL
set_option linter.unusedVariables false
set_option linter.unusedSimpArgs false

theorem Inv.step {w0 : World} {av0 X : Nat → Prop} {N : Nat} {a : Act} {w w' : World} {s : St} {σ' : List Ob} {h' : Nat} (hi : Inv w0 av0 X N a w s)
    (hs : w.heap.size ≤ w'.heap.size) (ho : w'.os = w.os) (ht : w'.tape = w.tape) (hu : w'.output = w.output)
    (hb : ∀ b, b < w.heap.size → (∀ (r : Nat) (o : Ob), s.σ[r]? = some o → o.g ≠ b) → w'.heap[b]? = w.heap[b]?)
    (hσ : ∀ (r : Nat) (o : Ob), s.σ[r]? = some o → ∃ o' : Ob, σ'[r]? = some o' ∧ o.le o')
    (hg : ∀ (r : Nat) (o' : Ob), σ'[r]? = some o' → (∃ (r' : Nat) (o : Ob), s.σ[r']? = some o ∧ o'.g = o.g) ∨ w.heap.size ≤ o'.g)
    (hp : Heap w' X σ') (hh : h' ≤ w'.heap.size) (hh0 : s.h ≤ h') : Inv w0 av0 X N a w' ⟨s.env, σ', h'⟩ := by
  refine ⟨hp, fun t => ?_, hh, Nat.le_trans hi.h0 hh0, ⟨ho.trans hi.fr.os, ht.trans hi.fr.tape, hu.trans hi.fr.output, Nat.le_trans hi.fr.size hs, fun b hlt hav => ?_⟩, fun r o' ho' => ?_, hi.defers, hi.sz⟩
  · have := (hi.env t).mono (X' := X) (σ' := σ') (w' := w') some hs (fun r o hr r' e => by cases e; exact hσ r o hr) (fun b hb1 hb2 => hb b hb2 (fun r o hr e => hb1 (.inr ⟨r, o, hr, e⟩)))
      (fun b hb1 hb2 => ?_)
    · rwa [V.ren_id] at this
    · rintro (hx | ⟨r, o', hr, e⟩)
      · exact hb1 (.inl hx)
      · rcases hg r o' hr with ⟨r', o, hr', e'⟩ | hge
        · exact hb1 (.inr ⟨r', o, hr', by omega⟩)
        · omega
  · rw [hb b (Nat.lt_of_lt_of_le hlt hi.fr.size) (fun r o hr e => ?_)]
    · exact hi.fr.block b hlt hav
    · rcases hi.own r o hr with h1 | h1
      · exact hav (e ▸ h1)
      · omega
  · rcases hg r o' ho' with ⟨r', o, hr', e'⟩ | hge
    · rw [e']
      exact hi.own r' o hr'
    · exact .inr (Nat.le_trans hi.fr.size hge)

theorem Inv.put {w0 : World} {av0 X : Nat → Prop} {N : Nat} {a : Act} {w : World} {s : St} (hi : Inv w0 av0 X N a w s) {d : Option Tmp} {v : V} {x : Value} (hd : ∀ t, d = some t → t < N) (hv : VR w X s.σ v x) :
    Inv w0 av0 X N (a.put d x) w (s.put d v) := by
  cases d with
  | none => exact hi
  | some d =>
    refine ⟨hi.hp, fun t => ?_, hi.h, hi.h0, hi.fr, hi.own, hi.defers, by simp [Act.put, hi.sz]⟩
    simp only [St.put, Act.put, upd]
    have hlt : d < a.tmps.size := by rw [hi.sz]; exact hd d rfl
    by_cases ht : t = d
    · subst ht
      rw [if_pos rfl, Array.getD_eq_getD_getElem?, Array.getElem?_setIfInBounds_self_of_lt hlt]
      exact hv
    · rw [if_neg ht, Array.getD_eq_getD_getElem?, Array.getElem?_setIfInBounds_ne (Ne.symm ht), ← Array.getD_eq_getD_getElem?]
      exact hi.env t

/-- A new block of cells: a new object. -/
theorem Inv.alloc {w0 : World} {av0 X : Nat → Prop} {N : Nat} {a : Act} {w : World} {s : St} (hi : Inv w0 av0 X N a w s) (hX : ∀ b, X b → b < w.heap.size) {cs : Array Value} {et : TypeId} {ver sz : Nat} {es : List (List V)}
    (hle : es.length * sz ≤ cs.size) (hc : ∀ (i : Nat) (e : List V), es[i]? = some e → e.length = sz ∧ ∀ (j : Nat) (c : V), e[j]? = some c → VR w X s.σ c (cs.getD (i * sz + j) Go.undef)) :
    Inv w0 av0 X N a (w.alloc (.cells cs et)) ⟨s.env, s.σ ++ [.row w.heap.size ver sz cs.size es], w.heap.size + 1⟩ := by
  have hold : ∀ b, b < w.heap.size → (w.alloc (.cells cs et)).heap[b]? = w.heap[b]? := fun b hb => Go.RowKit.Below.heap_alloc w _ b hb
  have hnew : (w.alloc (.cells cs et)).heap[w.heap.size]? = some (.cells cs et (0, 0)) := by
    show (w.heap.push _)[w.heap.size]? = _
    simp
  have hσ : ∀ (r : Nat) (o : Ob), s.σ[r]? = some o → ∃ o' : Ob, (s.σ ++ [.row w.heap.size ver sz cs.size es])[r]? = some o' ∧ o.le o' := fun r o hr =>
    ⟨o, by rw [List.getElem?_append_left (List.getElem?_eq_some_iff.1 hr).1]; exact hr, o.le_refl⟩
  have hav : ∀ b, ¬ AV X s.σ b → b < w.heap.size → ¬ AV X (s.σ ++ [.row w.heap.size ver sz cs.size es]) b := by
    rintro b hb hlt (hx | ⟨r, o', hr, e⟩)
    · exact hb (.inl hx)
    · rcases Nat.lt_or_ge r s.σ.length with h1 | h1
      · rw [List.getElem?_append_left h1] at hr
        exact hb (.inr ⟨r, o', hr, e⟩)
      · rw [List.getElem?_append_right h1] at hr
        have : o' = .row w.heap.size ver sz cs.size es := by
          cases hk : r - s.σ.length with
          | zero => rw [hk] at hr; simpa using hr.symm
          | succ k => rw [hk] at hr; simp at hr
        subst this
        simp only [Ob.g] at e
        omega
  have hcase : ∀ (r : Nat) (o' : Ob), (s.σ ++ [.row w.heap.size ver sz cs.size es])[r]? = some o' → s.σ[r]? = some o' ∨ (r = s.σ.length ∧ o' = .row w.heap.size ver sz cs.size es) := fun r o' hr => by
    rcases Nat.lt_or_ge r s.σ.length with h1 | h1
    · rw [List.getElem?_append_left h1] at hr
      exact .inl hr
    · rw [List.getElem?_append_right h1] at hr
      cases hk : r - s.σ.length with
      | zero => rw [hk] at hr; exact .inr ⟨by omega, by simpa using hr.symm⟩
      | succ k => rw [hk] at hr; simp at hr
  refine hi.step (by simp) rfl rfl rfl (fun b hb _ => hold b hb) hσ (fun r o' hr => ?_) ⟨fun r o' hr => ?_, fun r r' o o' h1 h2 e => ?_, fun r o' hr => ?_⟩ (by simp) (by have := hi.h; omega)
  · rcases hcase r o' hr with h1 | ⟨_, rfl⟩
    · exact .inl ⟨r, o', h1, rfl⟩
    · exact .inr (by simp [Ob.g])
  · rcases hcase r o' hr with h1 | ⟨_, rfl⟩
    · have := (hi.hp.obj r o' h1).mono (w' := w.alloc (.cells cs et)) (X' := X) (σ' := s.σ ++ [.row w.heap.size ver sz cs.size es]) some (by simp) (hold _ (hi.hp.lt h1)) (fun r o hr r' e => by cases e; exact hσ r o hr) (fun b _ hb => hold b hb) hav
      rwa [Ob.ren_id] at this
    · refine ⟨cs, et, hnew, rfl, hle, fun i e he => ?_⟩
      obtain ⟨h2, h3⟩ := hc i e he
      refine ⟨h2, fun j c hj => ?_⟩
      have := (h3 j c hj).mono (w' := w.alloc (.cells cs et)) (X' := X) (σ' := s.σ ++ [.row w.heap.size ver sz cs.size es]) some (by simp) (fun r o hr r' e => by cases e; exact hσ r o hr) (fun b _ hb => hold b hb) hav
      rwa [V.ren_id] at this
  · rcases hcase r o h1 with k1 | ⟨rfl, rfl⟩ <;> rcases hcase r' o' h2 with k2 | ⟨rfl, rfl⟩
    · exact hi.hp.nd r r' o o' k1 k2 e
    · have := hi.hp.lt k1
      simp only [Ob.g] at e this
      omega
    · have := hi.hp.lt k2
      simp only [Ob.g] at e this
      omega
    · rfl
  · rcases hcase r o' hr with h1 | ⟨_, rfl⟩
    · exact hi.hp.nx r o' h1
    · intro hx
      have := hX _ hx
      simp [Ob.g] at this

/-- A new map. -/
theorem Inv.allocMap {w0 : World} {av0 X : Nat → Prop} {N : Nat} {a : Act} {w : World} {s : St} (hi : Inv w0 av0 X N a w s) (hX : ∀ b, X b → b < w.heap.size)
    :
    Inv w0 av0 X N a (w.alloc (.map #[] 0)) ⟨s.env, s.σ ++ [.map w.heap.size []], w.heap.size + 1⟩ := by
  have hold : ∀ b, b < w.heap.size → (w.alloc (.map #[] 0)).heap[b]? = w.heap[b]? := fun b hb => Go.RowKit.Below.heap_alloc w _ b hb
  have hnew : (w.alloc (.map #[] 0)).heap[w.heap.size]? = some (.map #[] 0) := by
    show (w.heap.push _)[w.heap.size]? = _
    simp
  have hσ : ∀ (r : Nat) (o : Ob), s.σ[r]? = some o → ∃ o' : Ob, (s.σ ++ [.map w.heap.size []])[r]? = some o' ∧ o.le o' := fun r o hr =>
    ⟨o, by rw [List.getElem?_append_left (List.getElem?_eq_some_iff.1 hr).1]; exact hr, o.le_refl⟩
  have hav : ∀ b, ¬ AV X s.σ b → b < w.heap.size → ¬ AV X (s.σ ++ [.map w.heap.size []]) b := by
    rintro b hb hlt (hx | ⟨r, o', hr, e⟩)
    · exact hb (.inl hx)
    · rcases Nat.lt_or_ge r s.σ.length with h1 | h1
      · rw [List.getElem?_append_left h1] at hr
        exact hb (.inr ⟨r, o', hr, e⟩)
      · rw [List.getElem?_append_right h1] at hr
        have : o' = .map w.heap.size [] := by
          cases hk : r - s.σ.length with
          | zero => rw [hk] at hr; simpa using hr.symm
          | succ k => rw [hk] at hr; simp at hr
        subst this
        simp only [Ob.g] at e
        omega
  have hcase : ∀ (r : Nat) (o' : Ob), (s.σ ++ [.map w.heap.size []])[r]? = some o' → s.σ[r]? = some o' ∨ (r = s.σ.length ∧ o' = .map w.heap.size []) := fun r o' hr => by
    rcases Nat.lt_or_ge r s.σ.length with h1 | h1
    · rw [List.getElem?_append_left h1] at hr
      exact .inl hr
    · rw [List.getElem?_append_right h1] at hr
      cases hk : r - s.σ.length with
      | zero => rw [hk] at hr; exact .inr ⟨by omega, by simpa using hr.symm⟩
      | succ k => rw [hk] at hr; simp at hr
  refine hi.step (by simp) rfl rfl rfl (fun b hb _ => hold b hb) hσ (fun r o' hr => ?_) ⟨fun r o' hr => ?_, fun r r' o o' h1 h2 e => ?_, fun r o' hr => ?_⟩ (by simp) (by have := hi.h; omega)
  · rcases hcase r o' hr with h1 | ⟨_, rfl⟩
    · exact .inl ⟨r, o', h1, rfl⟩
    · exact .inr (by simp [Ob.g])
  · rcases hcase r o' hr with h1 | ⟨_, rfl⟩
    · have := (hi.hp.obj r o' h1).mono (w' := w.alloc (.map #[] 0)) (X' := X) (σ' := s.σ ++ [.map w.heap.size []]) some (by simp) (hold _ (hi.hp.lt h1)) (fun r o hr r' e => by cases e; exact hσ r o hr) (fun b _ hb => hold b hb) hav
      rwa [Ob.ren_id] at this
    · exact ⟨#[], 0, hnew, rfl, fun i k x hx => by simp at hx⟩
  · rcases hcase r o h1 with k1 | ⟨rfl, rfl⟩ <;> rcases hcase r' o' h2 with k2 | ⟨rfl, rfl⟩
    · exact hi.hp.nd r r' o o' k1 k2 e
    · have := hi.hp.lt k1
      simp only [Ob.g] at e this
      omega
    · have := hi.hp.lt k2
      simp only [Ob.g] at e this
      omega
    · rfl
  · rcases hcase r o' hr with h1 | ⟨_, rfl⟩
    · exact hi.hp.nx r o' h1
    · intro hx
      have := hX _ hx
      simp [Ob.g] at this

theorem setCells_spec (g : Nat) : ∀ (vs : List Value) (o : Nat) (w : World) (cs : Array Value) (et : TypeId) (fr : Nat × Nat), w.heap[g]? = some (.cells cs et fr) →
    ∃ cs' : Array Value, (w.setCells g o vs).heap[g]? = some (.cells cs' et fr) ∧ cs'.size = cs.size ∧ (∀ k, cs'[k]? = if o ≤ k ∧ k < o + vs.length ∧ k < cs.size then vs[k - o]? else cs[k]?) ∧
      (w.setCells g o vs).heap.size = w.heap.size ∧ (∀ b, b ≠ g → (w.setCells g o vs).heap[b]? = w.heap[b]?) ∧ (w.setCells g o vs).os = w.os ∧ (w.setCells g o vs).tape = w.tape ∧ (w.setCells g o vs).output = w.output
  | [], o, w, cs, et, fr, h => ⟨cs, h, rfl, fun k => by rw [if_neg (by simp; omega)], rfl, fun _ _ => rfl, rfl, rfl, rfl⟩
  | v :: vs, o, w, cs, et, fr, h => by
    have h1 : (w.setCell ⟨g, o, none⟩ v).heap[g]? = some (.cells (cs.setIfInBounds o v) et fr) := by
      simp [World.setCell, Array.getElem?_modify, h]
    obtain ⟨cs', h2, h3, h4, h5, h6, h7, h8, h9⟩ := setCells_spec g vs (o + 1) _ _ et fr h1
    refine ⟨cs', h2, by rw [h3]; simp, fun k => ?_, by rw [World.setCells, h5]; simp, fun b hb => by rw [World.setCells, h6 b hb]; simp [World.setCell, Array.getElem?_modify, Ne.symm hb], h7, h8, h9⟩
    rw [h4 k]
    simp only [Array.size_setIfInBounds, List.length_cons]
    by_cases hk : o = k
    · subst hk
      rw [if_neg (by omega)]
      by_cases hs : o < cs.size
      · rw [if_pos ⟨by omega, by omega, hs⟩]
        simp [hs]
      · rw [if_neg (by omega)]
        simp [hs]
    · by_cases h10 : o + 1 ≤ k ∧ k < o + 1 + vs.length ∧ k < cs.size
      · rw [if_pos h10, if_pos ⟨by omega, by omega, h10.2.2⟩]
        have : k - o = k - (o + 1) + 1 := by omega
        rw [this, List.getElem?_cons_succ]
      · rw [if_neg h10, if_neg (by omega), Array.getElem?_setIfInBounds_ne hk]

/-- An object of one's own is written in place. -/
theorem Inv.write {w0 : World} {av0 X : Nat → Prop} {N : Nat} {a : Act} {w w' : World} {s : St} (hi : Inv w0 av0 X N a w s) {r g ver sz n ver' : Nat} {es es' : List (List V)} (hr : s.σ[r]? = some (.row g ver sz n es))
    {cs' : Array Value} {et : TypeId} (hw : w'.heap[g]? = some (.cells cs' et (0, 0))) (hn : cs'.size = n) (hs : w'.heap.size = w.heap.size) (hb : ∀ b, b ≠ g → w'.heap[b]? = w.heap[b]?) (ho : w'.os = w.os) (ht : w'.tape = w.tape) (hu : w'.output = w.output)
    (hv : ver ≤ ver' ∧ (ver = ver' → es'.length = es.length)) (hle : es'.length * sz ≤ n)
    (hc : ∀ (i : Nat) (e : List V), es'[i]? = some e → e.length = sz ∧ ∀ (j : Nat) (c : V), e[j]? = some c → VR w X s.σ c (cs'.getD (i * sz + j) Go.undef)) :
    Inv w0 av0 X N a w' ⟨s.env, s.σ.set r (.row g ver' sz n es'), s.h⟩ := by
  have hlt := (List.getElem?_eq_some_iff.1 hr).1
  have hcase : ∀ (q : Nat) (o' : Ob), (s.σ.set r (.row g ver' sz n es'))[q]? = some o' → (q ≠ r ∧ s.σ[q]? = some o') ∨ (q = r ∧ o' = .row g ver' sz n es') := fun q o' hq => by
    by_cases h1 : q = r
    · subst h1
      rw [List.getElem?_set_self hlt] at hq
      exact .inr ⟨rfl, by simpa using hq.symm⟩
    · rw [List.getElem?_set_ne (Ne.symm h1)] at hq
      exact .inl ⟨h1, hq⟩
  have hσ : ∀ (q : Nat) (o : Ob), s.σ[q]? = some o → ∃ o' : Ob, (s.σ.set r (.row g ver' sz n es'))[q]? = some o' ∧ o.le o' := fun q o hq => by
    by_cases h1 : q = r
    · subst h1
      rw [hr] at hq
      simp only [Option.some.injEq] at hq
      subst hq
      exact ⟨_, List.getElem?_set_self hlt, hv.1, fun e => ⟨rfl, rfl, rfl, hv.2 e⟩⟩
    · exact ⟨o, by rw [List.getElem?_set_ne (Ne.symm h1)]; exact hq, o.le_refl⟩
  have hav : ∀ b, ¬ AV X s.σ b → b < w.heap.size → ¬ AV X (s.σ.set r (.row g ver' sz n es')) b := by
    rintro b hb hlt' (hx | ⟨q, o', hq, e⟩)
    · exact hb (.inl hx)
    · rcases hcase q o' hq with ⟨_, h2⟩ | ⟨_, rfl⟩
      · exact hb (.inr ⟨q, o', h2, e⟩)
      · exact hb (.inr ⟨r, _, hr, e⟩)
  have hbl : ∀ b, ¬ AV X s.σ b → b < w.heap.size → w'.heap[b]? = w.heap[b]? := fun b h1 _ => hb b (fun e => h1 (.inr ⟨r, _, hr, e.symm⟩))
  refine hi.step (by omega) ho ht hu (fun b _ h2 => hb b (fun e => h2 r _ hr e.symm)) hσ (fun q o' hq => ?_) ⟨fun q o' hq => ?_, fun q q' o o' h1 h2 e => ?_, fun q o' hq => ?_⟩ (by rw [hs]; exact hi.h) (Nat.le_refl _)
  · rcases hcase q o' hq with ⟨_, h2⟩ | ⟨_, rfl⟩
    · exact .inl ⟨q, o', h2, rfl⟩
    · exact .inl ⟨r, _, hr, rfl⟩
  · rcases hcase q o' hq with ⟨h1, h2⟩ | ⟨_, rfl⟩
    · have hne : o'.g ≠ g := fun e => h1 (hi.hp.nd q r o' _ h2 hr e)
      have := (hi.hp.obj q o' h2).mono (w' := w') (X' := X) (σ' := s.σ.set r (.row g ver' sz n es')) some (by omega) (hb _ hne) (fun r o hr r' e => by cases e; exact hσ r o hr) hbl hav
      rwa [Ob.ren_id] at this
    · refine ⟨cs', et, hw, hn, hle, fun i e he => ?_⟩
      obtain ⟨h2, h3⟩ := hc i e he
      refine ⟨h2, fun j c hj => ?_⟩
      have := (h3 j c hj).mono (w' := w') (X' := X) (σ' := s.σ.set r (.row g ver' sz n es')) some (by omega) (fun r o hr r' e => by cases e; exact hσ r o hr) hbl hav
      rwa [V.ren_id] at this
  · rcases hcase q o h1 with ⟨k1, k2⟩ | ⟨rfl, rfl⟩ <;> rcases hcase q' o' h2 with ⟨k3, k4⟩ | ⟨rfl, rfl⟩
    · exact hi.hp.nd q q' o o' k2 k4 e
    · exact absurd (hi.hp.nd q q' o _ k2 hr e) k1
    · exact absurd (hi.hp.nd q' q o' _ k4 hr e.symm) k3
    · rfl
  · rcases hcase q o' hq with ⟨_, h2⟩ | ⟨_, rfl⟩
    · exact hi.hp.nx q o' h2
    · have h3 := hi.hp.nx r _ hr
      exact h3

/-- A new block that nobody keeps. -/
theorem Inv.lost {w0 : World} {av0 X : Nat → Prop} {N : Nat} {a : Act} {w : World} {s : St} (hi : Inv w0 av0 X N a w s) (o : Obj) : Inv w0 av0 X N a (w.alloc o) ⟨s.env, s.σ, w.heap.size + 1⟩ := by
  have hold : ∀ b, b < w.heap.size → (w.alloc o).heap[b]? = w.heap[b]? := fun b hb => Go.RowKit.Below.heap_alloc w _ b hb
  refine hi.step (by simp) rfl rfl rfl (fun b hb _ => hold b hb) (fun r o hr => ⟨o, hr, o.le_refl⟩) (fun r o' hr => .inl ⟨r, o', hr, rfl⟩) ⟨fun r o' hr => ?_, hi.hp.nd, hi.hp.nx⟩ (by simp) (by have := hi.h; omega)
  have := (hi.hp.obj r o' hr).mono (w' := w.alloc o) (X' := X) (σ' := s.σ) some (by simp) (hold _ (hi.hp.lt hr)) (fun r o hr r' e => by cases e; exact ⟨o, hr, o.le_refl⟩) (fun b _ hb => hold b hb) (fun b hb _ => hb)
  rwa [Ob.ren_id] at this

/-- A map of one's own is written. -/
theorem Inv.writeMap {w0 : World} {av0 X : Nat → Prop} {N : Nat} {a : Act} {w w' : World} {s : St} (hi : Inv w0 av0 X N a w s) {r g : Nat} {es es' : List (T × V)} (hr : s.σ[r]? = some (.map g es))
    {ents' : Array MapEntry} {clock' : Nat} (hw : w'.heap[g]? = some (.map ents' clock')) (hs : w'.heap.size = w.heap.size) (hb : ∀ b, b ≠ g → w'.heap[b]? = w.heap[b]?) (ho : w'.os = w.os) (ht : w'.tape = w.tape) (hu : w'.output = w.output)
    (hn : ents'.size = es'.length) (hc : ∀ (i : Nat) (k : T) (x : V), es'[i]? = some (k, x) → ∃ e : MapEntry, ents'[i]? = some e ∧ k.plain = some e.key ∧ VR w X s.σ x e.val) :
    Inv w0 av0 X N a w' ⟨s.env, s.σ.set r (.map g es'), s.h⟩ := by
  have hlt := (List.getElem?_eq_some_iff.1 hr).1
  have hcase : ∀ (q : Nat) (o' : Ob), (s.σ.set r (.map g es'))[q]? = some o' → (q ≠ r ∧ s.σ[q]? = some o') ∨ (q = r ∧ o' = .map g es') := fun q o' hq => by
    by_cases h1 : q = r
    · subst h1
      rw [List.getElem?_set_self hlt] at hq
      exact .inr ⟨rfl, by simpa using hq.symm⟩
    · rw [List.getElem?_set_ne (Ne.symm h1)] at hq
      exact .inl ⟨h1, hq⟩
  have hσ : ∀ (q : Nat) (o : Ob), s.σ[q]? = some o → ∃ o' : Ob, (s.σ.set r (.map g es'))[q]? = some o' ∧ o.le o' := fun q o hq => by
    by_cases h1 : q = r
    · subst h1
      rw [hr] at hq
      simp only [Option.some.injEq] at hq
      subst hq
      exact ⟨_, List.getElem?_set_self hlt, rfl⟩
    · exact ⟨o, by rw [List.getElem?_set_ne (Ne.symm h1)]; exact hq, o.le_refl⟩
  have hav : ∀ b, ¬ AV X s.σ b → b < w.heap.size → ¬ AV X (s.σ.set r (.map g es')) b := by
    rintro b hb hlt' (hx | ⟨q, o', hq, e⟩)
    · exact hb (.inl hx)
    · rcases hcase q o' hq with ⟨_, h2⟩ | ⟨_, rfl⟩
      · exact hb (.inr ⟨q, o', h2, e⟩)
      · exact hb (.inr ⟨r, _, hr, e⟩)
  have hbl : ∀ b, ¬ AV X s.σ b → b < w.heap.size → w'.heap[b]? = w.heap[b]? := fun b h1 _ => hb b (fun e => h1 (.inr ⟨r, _, hr, e.symm⟩))
  refine hi.step (by omega) ho ht hu (fun b _ h2 => hb b (fun e => h2 r _ hr e.symm)) hσ (fun q o' hq => ?_) ⟨fun q o' hq => ?_, fun q q' o o' h1 h2 e => ?_, fun q o' hq => ?_⟩ (by rw [hs]; exact hi.h) (Nat.le_refl _)
  · rcases hcase q o' hq with ⟨_, h2⟩ | ⟨_, rfl⟩
    · exact .inl ⟨q, o', h2, rfl⟩
    · exact .inl ⟨r, _, hr, rfl⟩
  · rcases hcase q o' hq with ⟨h1, h2⟩ | ⟨_, rfl⟩
    · have hne : o'.g ≠ g := fun e => h1 (hi.hp.nd q r o' _ h2 hr e)
      have := (hi.hp.obj q o' h2).mono (w' := w') (X' := X) (σ' := s.σ.set r (.map g es')) some (by omega) (hb _ hne) (fun r o hr r' e => by cases e; exact hσ r o hr) hbl hav
      rwa [Ob.ren_id] at this
    · refine ⟨ents', clock', hw, hn, fun i k x hx => ?_⟩
      obtain ⟨e, h1, h2, h3⟩ := hc i k x hx
      refine ⟨e, h1, h2, ?_⟩
      have := h3.mono (w' := w') (X' := X) (σ' := s.σ.set r (.map g es')) some (by omega) (fun r o hr r' e => by cases e; exact hσ r o hr) hbl hav
      rwa [V.ren_id] at this
  · rcases hcase q o h1 with ⟨k1, k2⟩ | ⟨rfl, rfl⟩ <;> rcases hcase q' o' h2 with ⟨k3, k4⟩ | ⟨rfl, rfl⟩
    · exact hi.hp.nd q q' o o' k2 k4 e
    · exact absurd (hi.hp.nd q q' o _ k2 hr e) k1
    · exact absurd (hi.hp.nd q' q o' _ k4 hr e.symm) k3
    · rfl
  · rcases hcase q o' hq with ⟨_, h2⟩ | ⟨_, rfl⟩
    · exact hi.hp.nx q o' h2
    · have h3 := hi.hp.nx r _ hr
      exact h3
end Go.VL
namespace Go.VL
set_option linter.unusedVariables false
set_option linter.unusedSimpArgs false

def tBytes (P : Program) (t : TypeId) : Option Nat := (P.info? t).map (·.bytes)
/-- A value that lies in cells. -/
def V.isVal : V → Bool | .agg _ => true | v => v.leaf
theorem V.isVal_or {v : V} (h : v.isVal = true) : v.leaf = true ∨ ∃ cs, v = .agg cs := by
  cases v <;> first | exact .inr ⟨_, rfl⟩ | exact .inl h

/-- Elements laid into a row. -/
def fillRow (sz : Nat) (es : List (List V)) : List (Nat × V) → Option (List (List V))
  | [] => some es
  | (i, v) :: rest => if v.isVal = true ∧ v.cells.length = sz ∧ i < es.length then fillRow sz (es.set i v.cells) rest else none

/-- The elements that an append appends: another slice's, a string's bytes, or so many zeros. -/
def appElems (P : Program) (s : St) (sz : Nat) (z : Option (List V)) (t : TypeId) (y : V) : Option (List (List V)) := match tElem P t with
  | some _ => s.elems y
  | none => if tStr P t = true ∧ sz = 1 then match y with
      | .t (.str b) => some (b.data.toList.map fun c => [.t (.int .u8 (c.toNat : Int))])
      | _ => none
    else match tInt P t, z, y with
      | some _, some z, .t (.int _ n) => if 0 ≤ n ∧ n ≤ 9223372036854775807 then some (List.replicate n.toNat z) else none
      | _, _, _ => none

def isApp : Callee → Bool | .builtin .append => true | _ => false

/-- What an operation that makes or writes memory asks, of what holds for whatever it may give. -/
def vcE (P : Program) (s : St) (op : Op) (K : V → List Ob → Nat → Prop) : Prop := match op with
  | .alloc t => match tZero P t with
    | some z => ∀ g, s.h ≤ g → K (.ptr s.σ.length 0 0 0) (s.σ ++ [.row g 0 z.length z.length [z]]) (g + 1)
    | none => False
  | .box t x => (s.eval x).isVal = true ∧ ∀ g, s.h ≤ g → K (.ptr s.σ.length 0 0 0) (s.σ ++ [.row g 0 (s.eval x).cells.length (s.eval x).cells.length [(s.eval x).cells]]) (g + 1)
  | .buildSlice t len parts => match tElem P t with
    | some e => match tSize P e, tZero P e with
      | some sz, some z => match fillRow sz (List.replicate len z) (parts.toList.map fun p => (p.1, s.eval p.2)) with
        | some es => z.length = sz ∧ 0 < sz ∧ len * sz ≤ 16777216 ∧ ((∀ g, s.h ≤ g → K (.own s.σ.length 0 0 len) (s.σ ++ [.row g 0 sz (len * sz) es]) (g + 1)) ∨ (len = 0 ∧ ∀ h', s.h ≤ h' → K .nil0 s.σ h'))
        | none => False
      | _, _ => False
    | none => False
  | .makeSlice t l c => match tElem P t with
    | some e => match tSize P e, tZero P e, tBytes P e, s.eval l, s.eval c with
      | some sz, some z, some b, .t (.int _ n), .t (.int _ m) => z.length = sz ∧ 0 < sz ∧ 0 ≤ n ∧ n ≤ m ∧ m ≤ 9223372036854775807 ∧ (b : Int) * m ≤ 281474976710656 ∧
          ∀ g, s.h ≤ g → K (.own s.σ.length 0 0 n.toNat) (s.σ ++ [.row g 0 sz (m.toNat * sz) (List.replicate n.toNat z)]) (g + 1)
      | _, _, _, _, _ => False
    | none => False
  | .store t a x => match tSize P t, s.eval a with
    | some n, .ptr r ver i j => match s.σ[r]? with
      | some (.row g v sz m es) => match es[i]? with
        | some e => ver = v ∧ (s.eval x).solid = true ∧ (s.eval x).cells.length = n ∧ j + n ≤ e.length ∧ K .skip (s.σ.set r (.row g v sz m (es.set i (setV e j (s.eval x).cells)))) s.h
        | none => False
      | _ => False
    | _, _ => False
  | .makeMap _ r => if r.isNone then ∀ g, s.h ≤ g → K (.map s.σ.length) (s.σ ++ [.map g []]) (g + 1) else False
  | .mapUpdate t m k x => match s.eval m, s.eval k with
    | .map r, .t (.str b) => match s.σ[r]? with
      | some (.map g es) => mKey P t = true ∧ (es.all fun p => isStrT p.1) = true ∧ findV b es = none ∧ (s.eval x).leaf = true ∧ K .skip (s.σ.set r (.map g (es ++ [(.str b, s.eval x)]))) s.h
      | _ => False
    | _, _ => False
  | .call c => if isApp c.callee then match c.args.toList, c.argTypes.toList with
      | [x, y], [t, t2] => match tElem P t with
        | some e => match tSize P e, tZero P e, tBytes P e, appElems P s ((tSize P e).getD 0) (tZero P e) t2 (s.eval y) with
          | some sz, some z, some b, some l => z.length = sz ∧ 0 < sz ∧ 0 < b ∧ (∀ e ∈ l, e.length = sz ∧ ∀ c ∈ e, V.leaf c = true) ∧ match s.eval x with
            | .nil0 => 2 * l.length * b ≤ 281474976710656 ∧ (if l.length = 0 then K .nil0 s.σ s.h else ∀ g n, s.h ≤ g → K (.own s.σ.length 0 0 l.length) (s.σ ++ [.row g 0 sz n l]) (g + 1))
            | .own r ver 0 len => match s.σ[r]? with
              | some (.row g v sz' m es) => ver = v ∧ sz' = sz ∧ 2 * (len + l.length) * b ≤ 281474976710656 ∧
                  ∀ g' n' h', (g' = g ∧ h' = s.h) ∨ (s.h ≤ g' ∧ h' = g' + 1) → K (.own r (ver + 1) 0 (len + l.length)) (s.σ.set r (.row g' (ver + 1) sz n' (es.take len ++ l))) h'
              | _ => False
            | _ => False
          | _, _, _, _ => False
        | none => False
      | _, _ => False
    else False
  | _ => False

section
variable {W0 : World} {P : Program} {w0 : World} {av0 X : Nat → Prop} {N : Nat} {a : Act} {w : World} {s : St}

/-- What 'vcE_sound' gives: the machine's result, and the state that stands for it. -/
def Gives (P : Program) (w0 : World) (av0 X : Nat → Prop) (N : Nat) (a : Act) (w : World) (s : St) (m : Sem Value) (K : V → List Ob → Nat → Prop) : Prop :=
  ∃ (val : Value) (w' : World) (v : V) (σ' : List Ob) (h' : Nat), m.run P w = .ok val w' ∧ Inv w0 av0 X N a w' ⟨s.env, σ', h'⟩ ∧ VR w' X σ' v val ∧ K v σ' h'

theorem Inv.ptr_new {g ver sz n : Nat} {es : List (List V)} {w' : World} {σ : List Ob} : VR w' X (σ ++ [.row g 0 sz n es]) (.ptr σ.length 0 0 0) (.pointer (some ⟨g, 0, none⟩)) :=
  .ptr (g := g) (ver' := 0) (sz := sz) (n := n) (es := es) (by simp) (Nat.le_refl _) rfl (fun _ => by simp)

theorem gives_newVar (hi : Inv w0 av0 X N a w s) (hX : ∀ b, X b → b < w.heap.size) {t : TypeId} {x : Value} {z : List V} (hz : VRs w X s.σ z x.cells) {K : V → List Ob → Nat → Prop}
    (hK : ∀ g, s.h ≤ g → K (.ptr s.σ.length 0 0 0) (s.σ ++ [.row g 0 z.length z.length [z]]) (g + 1)) : Gives P w0 av0 X N a w s (do pure (.pointer (some (← newVar t x)))) K := by
  have h1 := hi.alloc hX (cs := x.cells) (et := t) (ver := 0) (sz := z.length) (es := [z]) (by rw [hz.1]; simp) (fun i e he => by
    cases i with
    | zero =>
      simp only [List.getElem?_cons_zero, Option.some.injEq] at he
      subst he
      exact ⟨rfl, fun j c hj => by simpa using hz.2 j c hj⟩
    | succ i => simp at he)
  rw [hz.1] at h1
  refine ⟨.pointer (some ⟨w.heap.size, 0, none⟩), _, _, _, _, ?_, h1, Inv.ptr_new (ver := 0), hK w.heap.size hi.h⟩
  simp [newVar, newRow]

theorem gives_alloc (hi : Inv w0 av0 X N a w s) (hX : ∀ b, X b → b < w.heap.size) {t : TypeId} {K : V → List Ob → Nat → Prop} (h : vcE P s (.alloc t) K) : Gives P w0 av0 X N a w s (Instr.alloc t true (.tuple #[])) K := by
  simp only [vcE] at h
  split at h
  · rename_i z hz
    unfold tZero at hz
    cases hi2 : P.info? t with
    | none => simp [hi2] at hz
    | some inf =>
      simp only [hi2] at hz
      cases hzz : inf.zero with
      | none => simp [hzz] at hz
      | some zv =>
        simp only [hzz, Option.some.injEq] at hz
        subst hz
        have hzr : (zeroValue t).run P w = .ok zv w := by simp [zeroValue, run_typeInfo hi2, hzz]
        have hc0 : VRs w X s.σ (zv.cells.toList.map V.ofLeaf) zv.cells := by
          refine ⟨by simp, fun i c hc => ?_⟩
          rw [List.getElem?_map] at hc
          obtain ⟨c0, h0, rfl⟩ := Option.map_eq_some_iff.1 hc
          rw [Array.getElem?_toList] at h0
          rw [Array.getD_eq_getD_getElem?, h0]
          exact VR.ofLeaf _ _ _ _
        obtain ⟨val, w', v, σ', h', h1, h2, h3, h4⟩ := gives_newVar (P := P) (t := t) hi hX hc0 h
        refine ⟨val, w', v, σ', h', ?_, h2, h3, h4⟩
        rw [← h1]
        simp [Instr.alloc, hzr]
  · exact h.elim

theorem gives_box (hi : Inv w0 av0 X N a w s) (hX : ∀ b, X b → b < w.heap.size) {t : TypeId} {x : Operand} {K : V → List Ob → Nat → Prop} (h : vcE P s (.box t x) K) : Gives P w0 av0 X N a w s (Instr.box t (a.eval x)) K := by
  simp only [vcE] at h
  exact gives_newVar hi hX ((hi.eval x).cells (V.isVal_or h.1)) h.2

theorem zero_parts {e : TypeId} {z : List V} (hz : tZero P e = some z) : ∃ inf zv, P.info? e = some inf ∧ inf.zero = some zv ∧ (zeroValue e).run P w = .ok zv w ∧ z = zv.cells.toList.map V.ofLeaf ∧ VRs w X s.σ z zv.cells := by
  unfold tZero at hz
  cases hi2 : P.info? e with
  | none => simp [hi2] at hz
  | some inf =>
    simp only [hi2] at hz
    cases hzz : inf.zero with
    | none => simp [hzz] at hz
    | some zv =>
      simp only [hzz, Option.some.injEq] at hz
      subst hz
      refine ⟨inf, zv, rfl, hzz, by simp [zeroValue, run_typeInfo hi2, hzz], rfl, by simp, fun i c hc => ?_⟩
      rw [List.getElem?_map] at hc
      obtain ⟨c0, h0, rfl⟩ := Option.map_eq_some_iff.1 hc
      rw [Array.getElem?_toList] at h0
      rw [Array.getD_eq_getD_getElem?, h0]
      exact VR.ofLeaf _ _ _ _

/-- A row's elements by an array of cells. -/
def RowOk (w : World) (X : Nat → Prop) (σ : List Ob) (sz : Nat) (es : List (List V)) (cs : Array Value) : Prop :=
  es.length * sz ≤ cs.size ∧ ∀ (i : Nat) (e : List V), es[i]? = some e → e.length = sz ∧ ∀ (j : Nat) (c : V), e[j]? = some c → VR w X σ c (cs.getD (i * sz + j) Go.undef)

theorem rowOk_zeros {σ : List Ob} {z : List V} {zc : Array Value} {sz n m : Nat} (hz : VRs w X σ z zc) (hs : z.length = sz) (h0 : 0 < sz) (hnm : n ≤ m) : RowOk w X σ sz (List.replicate n z) (madeCells zc (m * sz)) := by
  refine ⟨by rw [size_madeCells, List.length_replicate]; exact Nat.mul_le_mul_right _ hnm, fun i e he => ?_⟩
  rw [List.getElem?_replicate] at he
  split at he
  · rename_i hin
    simp only [Option.some.injEq] at he
    subst he
    refine ⟨hs, fun j c hj => ?_⟩
    have hjl := (List.getElem?_eq_some_iff.1 hj).1
    have hk : i * sz + j < m * sz := by
      have : i * sz + sz ≤ m * sz := by rw [← Nat.succ_mul]; exact Nat.mul_le_mul_right _ (by omega)
      omega
    have hmod : (i * sz + j) % zc.size = j := by
      have : zc.size = sz := by rw [hz.1, hs]
      rw [this, Nat.mul_comm, Nat.mul_add_mod, Nat.mod_eq_of_lt (by omega)]
    have := hz.2 j c hj
    rw [Array.getD_eq_getD_getElem?] at this ⊢
    have hjz : j < zc.size := by rw [hz.1]; omega
    rw [Array.getElem?_eq_getElem hjz] at this
    have hm : (madeCells zc (m * sz))[i * sz + j]? = some zc[j] := by
      unfold madeCells
      rw [Array.getElem?_map]
      simp [hk, hmod, hjz]
    rw [hm]
    exact this
  · cases he

theorem fillRow_sound {σ : List Ob} {sz : Nat} : ∀ (parts : List (Nat × V)) (vparts : List (Nat × Value)) (es es' : List (List V)) (cs : Array Value), vparts.length = parts.length →
    (∀ (k i : Nat) (x : V), parts[k]? = some (i, x) → ∃ y, vparts[k]? = some (i, y) ∧ VR w X σ x y) → RowOk w X σ sz es cs → fillRow sz es parts = some es' →
    ∃ cs', Instr.fill (fun i => some (i * sz, sz)) cs vparts = some cs' ∧ RowOk w X σ sz es' cs' ∧ cs'.size = cs.size
  | [], vparts, es, es', cs, hl, hr, hc, h => by
    simp only [fillRow, Option.some.injEq] at h
    subst h
    obtain rfl : vparts = [] := List.length_eq_zero_iff.1 (by simpa using hl)
    exact ⟨cs, rfl, hc, rfl⟩
  | (i, v) :: rest, vparts, es, es', cs, hl, hr, hc, h => by
    obtain ⟨y, hy, hv⟩ := hr 0 i v rfl
    match vparts, hl, hy, hr with
    | (i', y') :: vrest, hl, hy, hr =>
    simp only [List.getElem?_cons_zero, Option.some.injEq, Prod.mk.injEq] at hy
    obtain ⟨rfl, rfl⟩ := hy
    simp only [fillRow] at h
    split at h
    · rename_i hb
      obtain ⟨hs, h1, h2⟩ := hb
      have hcell := hv.cells (V.isVal_or hs)
      have hy' : y'.cells.size = sz := by rw [hcell.1, h1]
      have hroom : i' * sz + sz ≤ cs.size := by
        refine Nat.le_trans ?_ hc.1
        rw [← Nat.succ_mul]
        exact Nat.mul_le_mul_right _ h2
      have e : y'.cells.zipIdx.foldl (fun cs (c, j) => cs.setIfInBounds (i' * sz + j) c) cs = (y'.cells.toList.zipIdx 0).foldl (fun cs (p : Value × Nat) => cs.setIfInBounds (i' * sz + p.2) p.1) cs := by
        rw [← Array.foldl_toList, Array.toList_zipIdx]
      have hrow : RowOk w X σ sz (es.set i' v.cells) (y'.cells.zipIdx.foldl (fun cs (c, j) => cs.setIfInBounds (i' * sz + j) c) cs) := by
        rw [e]
        refine ⟨by rw [foldl_set_size]; simpa using hc.1, fun k e' he' => ?_⟩
        by_cases hk : k = i'
        · subst hk
          rw [List.getElem?_set_self h2] at he'
          simp only [Option.some.injEq] at he'
          subst he'
          refine ⟨h1, fun j c hj => ?_⟩
          have hjl := (List.getElem?_eq_some_iff.1 hj).1
          rw [Array.getD_eq_getD_getElem?, foldl_set_get]
          simp only [Nat.add_zero, Array.length_toList]
          rw [if_pos ⟨by omega, by omega, by omega⟩]
          have := hcell.2 j c hj
          rw [Array.getD_eq_getD_getElem?] at this
          have e2 : k * sz + j - k * sz = j := by omega
          rw [e2, Array.getElem?_toList]
          exact this
        · rw [List.getElem?_set_ne (Ne.symm hk)] at he'
          obtain ⟨h3, h4⟩ := hc.2 k e' he'
          refine ⟨h3, fun j c hj => ?_⟩
          have hjl := (List.getElem?_eq_some_iff.1 hj).1
          rw [Array.getD_eq_getD_getElem?, foldl_set_get]
          simp only [Nat.add_zero, Array.length_toList]
          have hno : ¬ (i' * sz ≤ k * sz + j ∧ k * sz + j < i' * sz + y'.cells.size ∧ k * sz + j < cs.size) := by
            rintro ⟨g1, g2, _⟩
            rcases Nat.lt_or_gt_of_ne hk with hlt | hgt
            · have : k * sz + sz ≤ i' * sz := by rw [← Nat.succ_mul]; exact Nat.mul_le_mul_right _ hlt
              omega
            · have : i' * sz + sz ≤ k * sz := by rw [← Nat.succ_mul]; exact Nat.mul_le_mul_right _ hgt
              omega
          rw [if_neg hno, ← Array.getD_eq_getD_getElem?]
          exact h4 j c hj
      obtain ⟨cs', h3, h4, h5⟩ := fillRow_sound rest vrest _ es' _ (by simpa using hl) (fun k i x hx => hr (k + 1) i x hx) hrow h
      refine ⟨cs', ?_, h4, by rw [h5, e, foldl_set_size]⟩
      simp only [Instr.fill]
      have e3 : (decide (y'.cells.size ≠ sz) || decide (i' * sz + y'.cells.size > cs.size)) = false := by
        rw [Bool.or_eq_false_iff]
        exact ⟨decide_eq_false (by omega), decide_eq_false (by omega)⟩
      rw [e3]
      exact h3
    · cases h

theorem VR.own_new {g sz n len : Nat} {es : List (List V)} {w' : World} {σ : List Ob} {c : Nat} (hl : len ≤ c) (hc : c * sz ≤ n) (he : len ≤ es.length) : VR w' X (σ ++ [.row g 0 sz n es]) (.own σ.length 0 0 len) (.slice (some ⟨g, 0, none⟩) len c) :=
  .own (g := g) (ver' := 0) (sz := sz) (n := n) (es := es) (by simp) (Nat.le_refl _) rfl (fun _ => ⟨c, by simp, hl, by simpa using hc, by simpa using he⟩)

theorem gives_buildSlice (hi : Inv w0 av0 X N a w s) (hX : ∀ b, X b → b < w.heap.size) {t : TypeId} {len : Nat} {parts : Array (Nat × Operand)} {K : V → List Ob → Nat → Prop} (h : vcE P s (.buildSlice t len parts) K) :
    Gives P w0 av0 X N a w s (Instr.buildSlice t len (parts.map fun (i, x) => (i, a.eval x))) K := by
  simp only [vcE] at h
  split at h
  · rename_i e he
    split at h
    · rename_i sz z hsz hz
      split at h
      · rename_i es hes
        obtain ⟨h1, h2, h3, h4⟩ := h
        obtain ⟨inf, zv, hinf, hzv, hzr, hzz, hzs⟩ := zero_parts (X := X) (w := w) (s := s) hz
        have hr0 := rowOk_zeros (n := len) (m := len) hzs h1 h2 (Nat.le_refl _)
        obtain ⟨cs', g1, g2, g3⟩ := fillRow_sound (parts.toList.map fun p => (p.1, s.eval p.2)) (parts.map fun (i, x) => (i, a.eval x)).toList _ es _ (by simp) (fun k i x hx => by
          rw [List.getElem?_map] at hx
          obtain ⟨⟨i', x'⟩, hx', he⟩ := Option.map_eq_some_iff.1 hx
          simp only [Prod.mk.injEq] at he
          obtain ⟨rfl, rfl⟩ := he
          rw [Array.getElem?_toList] at hx'
          exact ⟨a.eval x', by rw [Array.getElem?_toList, Array.getElem?_map, hx']; rfl, hi.eval x'⟩) hr0 hes
        have hsize : cs'.size = len * sz := by rw [g3, size_madeCells]
        have hinv := hi.alloc hX (cs := cs') (et := e) (ver := 0) (sz := sz) (es := es) g2.1 g2.2
        have hlen : es.length = len := by
          have key : ∀ (parts : List (Nat × V)) (es es' : List (List V)), fillRow sz es parts = some es' → es'.length = es.length := by
            intro parts
            induction parts with
            | nil => intro es es' h; simp only [fillRow, Option.some.injEq] at h; rw [h]
            | cons p rest ih =>
              intro es es' h
              obtain ⟨i, v⟩ := p
              simp only [fillRow] at h
              split at h
              · rw [ih _ _ h]; simp
              · cases h
          rw [key _ _ _ hes]
          simp
        rw [hsize] at hinv
        suffices hrun : (Instr.buildSlice t len (parts.map fun (i, x) => (i, a.eval x))).run P w = .ok (.slice (some ⟨w.heap.size, 0, none⟩) len len) (w.alloc (.cells cs' e)) by
          rcases h4 with h4 | ⟨rfl, h4⟩
          · exact ⟨.slice (some ⟨w.heap.size, 0, none⟩) len len, _, _, _, _, hrun, hinv, VR.own_new (Nat.le_refl _) (Nat.le_refl _) (by omega), h4 w.heap.size hi.h⟩
          · exact ⟨.slice (some ⟨w.heap.size, 0, none⟩) 0 0, _, .nil0, s.σ, w.heap.size + 1, hrun, hi.lost _, .nil0 _, h4 _ (by have := hi.h; omega)⟩
        have hn : ¬ (len * sz > 2 ^ 24) := by simpa using h3
        by_cases hl0 : len * sz = 0
        · have hl0' : len = 0 := by
            rcases Nat.mul_eq_zero.1 hl0 with h5 | h5
            · exact h5
            · omega
          subst hl0'
          have hmc : madeCells zv.cells (0 * sz) = #[] := by simp [madeCells]
          rw [hmc] at g1
          simp only [Array.toList_map] at g1
          have hr00 : Array.range 0 = #[] := rfl
          simp [Instr.buildSlice, run_underlying (tElem_spec he), run_sizeOf hsz, newRow, hr00]
          rw [g1]
          simp
        · simp only [Instr.buildSlice, Sem.run_bind, run_underlying (tElem_spec he), Result.andThen_ok, run_sizeOf hsz, Sem.run_ite, if_neg hn, if_neg hl0, Sem.run_pure, hzr]
          unfold madeCells at g1
          rw [g1]
          simp [newRow]
      · exact h.elim
    · exact h.elim
  · exact h.elim

theorem tSize_info {P : Program} {e n : Nat} {inf : TypeInfo} (h : tSize P e = some n) (hi : P.info? e = some inf) : inf.size = n := by simpa [tSize, hi] using h
theorem tBytes_info {P : Program} {e n : Nat} {inf : TypeInfo} (h : tBytes P e = some n) (hi : P.info? e = some inf) : inf.bytes = n := by simpa [tBytes, hi] using h

theorem gives_makeSlice (hi : Inv w0 av0 X N a w s) (hX : ∀ b, X b → b < w.heap.size) {t : TypeId} {l c : Operand} {K : V → List Ob → Nat → Prop} (h : vcE P s (.makeSlice t l c) K) :
    Gives P w0 av0 X N a w s (Instr.makeSlice t (a.eval l) (a.eval c)) K := by
  simp only [vcE] at h
  split at h
  · rename_i e he
    split at h
    · rename_i sz z b kl n kc m hsz hz hb hl hc
      obtain ⟨h1, h2, h3, h4, h5, h6, h7⟩ := h
      obtain ⟨inf, zv, hinf, hzv, hzr, hzz, hzs⟩ := zero_parts (X := X) (w := w) (s := s) hz
      have el := (hl ▸ hi.eval l).int_inv
      have ec := (hc ▸ hi.eval c).int_inv
      have e1 := tSize_info hsz hinf
      have e2 := tBytes_info hb hinf
      subst e1
      subst e2
      have hr := run_make (P := P) w t e inf zv (tElem_spec he) hinf hzv kl kc n m h3 h4 h6 h5
      have hrow := rowOk_zeros (n := n.toNat) (m := m.toNat) hzs h1 h2 (by omega)
      have hinv := hi.alloc hX (cs := madeCells zv.cells (m.toNat * inf.size)) (et := e) (ver := 0) (sz := inf.size) (es := List.replicate n.toNat z) hrow.1 hrow.2
      rw [size_madeCells] at hinv
      refine ⟨_, _, _, _, _, ?_, hinv, VR.own_new (c := m.toNat) (by omega) (Nat.le_refl _) (by simp), h7 w.heap.size hi.h⟩
      rw [el, ec]
      exact hr
    · exact h.elim
  · exact h.elim

theorem frozen_of_cells {w : World} {g k : Nat} {cs : Array Value} {et : TypeId} (h : w.heap[g]? = some (.cells cs et (0, 0))) : w.frozen? ⟨g, k, none⟩ = false := by
  simp [World.frozen?, h]

theorem gives_store (hi : Inv w0 av0 X N a w s) {t : TypeId} {p x : Operand} {K : V → List Ob → Nat → Prop} (h : vcE P s (.store t p x) K) :
    ∃ (w' : World) (σ' : List Ob) (h' : Nat), (Instr.storeAt t (a.eval p) (a.eval x)).run P w = .ok () w' ∧ Inv w0 av0 X N a w' ⟨s.env, σ', h'⟩ ∧ K .skip σ' h' := by
  simp only [vcE] at h
  split at h
  · rename_i n r ver i j hn hp
    split at h
    · rename_i g v sz m es hσ
      split at h
      · rename_i e he
        obtain ⟨rfl, hsol, hlen, hj, hK⟩ := h
        have hpv := hp ▸ hi.eval p
        cases hpv with
        | @ptr _ _ _ _ g2 v2 sz2 n2 es2 _ h2 hv2 h1c hp2 =>
        rw [hσ] at h2
        simp only [Option.some.injEq, Ob.row.injEq] at h2
        obtain ⟨rfl, rfl, rfl, rfl, rfl⟩ := h2
        obtain ⟨cs, et, h3, h4, h5, h6⟩ := hi.hp.obj r _ hσ
        obtain ⟨h7, h8⟩ := h6 i e he
        have hil : i < es.length := (List.getElem?_eq_some_iff.1 he).1
        have hcs : i * sz + sz ≤ cs.size := by rw [h4]; refine Nat.le_trans ?_ h5; rw [← Nat.succ_mul]; exact Nat.mul_le_mul_right _ hil
        have hx := (hi.eval x).cells (V.solid_or hsol)
        have hone := (hi.eval x).solid_one hsol
        generalize hvs : (a.eval x).cells = vs at hx hone
        have hvl : vs.toList.length = n := by rw [Array.length_toList, hx.1, hlen]
        obtain ⟨cs', k1, k2, k3, k4, k5, k6, k7, k8⟩ := setCells_spec g vs.toList (i * sz + j) w cs et (0, 0) h3
        have hst := run_storeCells_cells (P := P) g (i * sz + j) vs.toList 0 w (fun q hq => by
            rw [cell_of_cells h3]
            have : i * sz + j + q < cs.size := by omega
            simp [this]) (fun q hq => frozen_of_cells h3) hone
        simp only [Nat.add_zero] at hst
        have hinv := hi.write (w' := w.setCells g (i * sz + j) vs.toList) (ver' := ver) (es' := es.set i (setV e j (s.eval x).cells)) hσ k1 (by rw [k2, h4]) k4 k5 k6 k7 k8 ⟨Nat.le_refl _, fun _ => by simp⟩ (by simpa using h5) (fun q e' he' => by
            by_cases hq : q = i
            · subst hq
              rw [List.getElem?_set_self hil] at he'
              simp only [Option.some.injEq] at he'
              subst he'
              refine ⟨by rw [setV_length, h7], fun y c hc => ?_⟩
              rw [setV_get] at hc
              rw [Array.getD_eq_getD_getElem?, k3]
              by_cases hin : j ≤ y ∧ y < j + (s.eval x).cells.length ∧ y < e.length
              · rw [if_pos hin] at hc
                rw [if_pos ⟨by omega, by omega, by omega⟩]
                have := hx.2 _ c hc
                rw [Array.getD_eq_getD_getElem?] at this
                have e2 : q * sz + y - (q * sz + j) = y - j := by omega
                rw [e2, Array.getElem?_toList]
                exact this
              · rw [if_neg hin] at hc
                have hyl := (List.getElem?_eq_some_iff.1 hc).1
                rw [if_neg (by omega), ← Array.getD_eq_getD_getElem?]
                exact h8 y c hc
            · rw [List.getElem?_set_ne (Ne.symm hq)] at he'
              obtain ⟨g1, g2⟩ := h6 q e' he'
              refine ⟨g1, fun y c hc => ?_⟩
              have hyl := (List.getElem?_eq_some_iff.1 hc).1
              rw [Array.getD_eq_getD_getElem?, k3]
              have hno : ¬ (i * sz + j ≤ q * sz + y ∧ q * sz + y < i * sz + j + vs.toList.length ∧ q * sz + y < cs.size) := by
                rintro ⟨m1, m2, _⟩
                rcases Nat.lt_or_gt_of_ne hq with hlt | hgt
                · have : q * sz + sz ≤ i * sz := by rw [← Nat.succ_mul]; exact Nat.mul_le_mul_right _ hlt
                  omega
                · have : i * sz + sz ≤ q * sz := by rw [← Nat.succ_mul]; exact Nat.mul_le_mul_right _ hgt
                  omega
              rw [if_neg hno, ← Array.getD_eq_getD_getElem?]
              exact g2 y c hc)
        refine ⟨_, _, _, ?_, hinv, hK⟩
        rw [hp2 rfl]
        have hnn : ¬ (vs.size ≠ n) := by rw [hx.1, hlen]; simp
        simp only [Instr.storeAt, Instr.sureAddr, storeVar, Sem.run_bind, Sem.run_pure, Result.andThen_ok, run_sizeOf hn, hvs, if_neg hnn]
        exact hst
      · exact h.elim
    · exact h.elim
  · exact h.elim

/-- What is appended, as the machine reads it. -/
theorem gives_makeMap (hi : Inv w0 av0 X N a w s) (hX : ∀ b, X b → b < w.heap.size) {t : TypeId} {r : Option Operand} {K : V → List Ob → Nat → Prop} (h : vcE P s (.makeMap t r) K) : Gives P w0 av0 X N a w s (Instr.makeMap t (r.map a.eval)) K := by
  simp only [vcE] at h
  cases r with
  | some x => simp at h
  | none =>
    simp only [Option.isNone_none, if_true] at h
    refine ⟨.map (some w.heap.size), w.alloc (.map #[] 0), .map s.σ.length, _, _, rfl, hi.allocMap hX, .map (g := w.heap.size) (es := []) (by simp), h w.heap.size hi.h⟩

theorem gives_mapUpdate (hi : Inv w0 av0 X N a w s) {t : TypeId} {m k x : Operand} {K : V → List Ob → Nat → Prop} (h : vcE P s (.mapUpdate t m k x) K) :
    ∃ (w' : World) (σ' : List Ob) (h' : Nat), (Instr.mapUpdate t (a.eval m) (a.eval k) (a.eval x)).run P w = .ok () w' ∧ Inv w0 av0 X N a w' ⟨s.env, σ', h'⟩ ∧ K .skip σ' h' := by
  simp only [vcE] at h
  split at h
  · rename_i r b hm hk
    split at h
    · rename_i g es hσ
      obtain ⟨h1, h2, h3, h4, hK⟩ := h
      obtain ⟨kt, et, hu, hks⟩ := mKey_spec h1
      have hmv := hm ▸ hi.eval m
      have hkv := hk ▸ hi.eval k
      generalize a.eval m = vm at hmv
      generalize a.eval k = vk at hkv
      cases hmv with
      | @map _ g' es' q1 =>
      rw [hσ] at q1
      simp only [Option.some.injEq, Ob.map.injEq] at q1
      obtain ⟨rfl, rfl⟩ := q1
      cases hkv with
      | t hkv =>
      cases hkv with
      | str =>
      obtain ⟨ents, clock, hb, hsz, hent⟩ := hi.hp.obj r _ hσ
      have hfn := findNow_es (w := w) (X := X) (σ := s.σ) (b := b) es ents.toList 0 (by simpa using hsz) (fun j k x hx => by obtain ⟨e, h1, h2⟩ := hent j k x hx; exact ⟨e, by rw [Array.getElem?_toList]; exact h1, h2⟩) h2
      have hck : (Instr.checkKey false 10000 kt (.string b)).run P w = .ok () w := MapKept.run_checkKey (k := .string b) hks (by simp [MapKept.IsKey]) false 9999
      have hfk := MapKept.run_findKey (P := P) (w := w) hks (hfn.1 h3)
      have hlt : g < w.heap.size := (Array.getElem?_eq_some_iff.1 hb).1
      have hinv := hi.writeMap (w' := { w with heap := w.heap.setIfInBounds g (.map (ents.push { key := .string b, val := a.eval x, born := clock }) (clock + 1)) }) (es' := es ++ [(.str b, s.eval x)]) (ents' := ents.push { key := .string b, val := a.eval x, born := clock }) (clock' := clock + 1) hσ
        (by simp [hlt]) (by simp) (fun q hq => by simp [Array.getElem?_setIfInBounds_ne (Ne.symm hq)]) rfl rfl rfl (by simp [hsz]) (fun i k y hy => by
          rcases Nat.lt_or_ge i es.length with hil | hil
          · rw [List.getElem?_append_left hil] at hy
            obtain ⟨e, k1, k2⟩ := hent i k y hy
            exact ⟨e, by rw [Array.getElem?_push, if_neg (by omega)]; exact k1, k2⟩
          · rw [List.getElem?_append_right hil] at hy
            have hi0 : i - es.length = 0 := by
              cases hq : i - es.length with
              | zero => rfl
              | succ n => rw [hq] at hy; simp at hy
            rw [hi0] at hy
            simp only [List.getElem?_cons_zero, Option.some.injEq, Prod.mk.injEq] at hy
            obtain ⟨rfl, rfl⟩ := hy
            exact ⟨_, by rw [Array.getElem?_push, if_pos (by omega)], rfl, hi.eval x⟩)
      refine ⟨_, _, _, ?_, hinv, hK⟩
      simp [Instr.mapUpdate, run_underlying hu, MapKept.run_getObj_map hb, hck, hfk, MapKept.run_setObj_map _ hb, Result.andThen]
    · exact h.elim
  · exact h.elim

theorem src_of {t2 : TypeId} {y : V} {x : Value} {l : List (List V)} {sz : Nat} (hi : Inv w0 av0 X N a w s) (hy : VR w X s.σ y x) {z : Option (List V)} (h : appElems P s sz z t2 y = some l) (hl : ∀ e ∈ l, e.length = sz ∧ ∀ c ∈ e, V.leaf c = true) (hsz : 0 < sz) (hE : (tElem P t2).isSome ∨ (tStr P t2 = true ∧ sz = 1)) :
    ∃ news : List Value, Src P sz t2 x l.length news w ∧ news.length = l.length * sz ∧ ∀ (i : Nat) (e : List V), l[i]? = some e → ∀ (j : Nat) (c : V), e[j]? = some c → VR w X s.σ c (news.getD (i * sz + j) Go.undef) := by
  unfold appElems at h
  split at h
  · rename_i e2 he2
    obtain ⟨ao, c, rfl, hc, hcell⟩ := hi.elems h hy
    by_cases hne : l = []
    · subst hne
      refine ⟨[], ?_, by simp, fun i e he => by simp at he⟩
      cases ao with
      | none => 
        have := Src.ofNil (P := P) w (size := sz) (tElem_spec he2) c
        simpa using this
      | some ad => exact Src.ofSlice w (tElem_spec he2) ad 0 c [] (by simp) (fun j u hu => by simp at hu) (fun u hu => by simp at hu)
    · obtain ⟨g, o, sz', rfl, hg, cell, hcc⟩ := hcell hne
      have hs' : sz' = sz := by
        obtain ⟨e, l', rfl⟩ := List.exists_cons_of_ne_nil hne
        have h1 := hl e (by simp)
        have h2 := (hcc 0 e rfl).1
        omega
      subst hs'
      have hval : ∀ (k : Nat), k < l.length * sz' → ∃ (e : List V) (cv : V), l[k / sz']? = some e ∧ e[k % sz']? = some cv ∧ k % sz' < sz' ∧ k / sz' * sz' + k % sz' = k := fun k hk => by
        have h1 : k / sz' < l.length := Nat.div_lt_of_lt_mul (by rwa [Nat.mul_comm])
        have h2 : k % sz' < sz' := Nat.mod_lt _ hsz
        have h3 := (hcc _ l[k / sz'] (List.getElem?_eq_getElem h1)).1
        exact ⟨l[k / sz'], l[k / sz'][k % sz'], List.getElem?_eq_getElem h1, List.getElem?_eq_getElem (by omega), h2, by rw [Nat.mul_comm]; exact Nat.div_add_mod k sz'⟩
      refine ⟨(List.range (l.length * sz')).map fun k => cell (k / sz') (k % sz'), Src.ofSlice w (tElem_spec he2) ⟨g, o, none⟩ l.length c _ (by simp) (fun j u hu => ?_) (fun u hu => ?_), by simp, fun i e he j cv hj => ?_⟩
      · rw [List.getElem?_map] at hu
        obtain ⟨k, hk, rfl⟩ := Option.map_eq_some_iff.1 hu
        obtain ⟨hk1, hk2⟩ := List.getElem?_eq_some_iff.1 hk
        simp at hk1 hk2
        subst hk2
        obtain ⟨e, cv, h1, h2, h3, h4⟩ := hval j hk1
        have h5 := ((hcc _ e h1).2 _ cv h2).1
        rw [addr_add]
        have : o + j = o + j / sz' * sz' + j % sz' := by omega
        rw [this]
        exact h5
      · obtain ⟨k, hk, rfl⟩ := List.mem_map.1 hu
        obtain ⟨e, cv, h1, h2, h3, h4⟩ := hval k (by simpa using hk)
        have h5 := ((hcc _ e h1).2 _ cv h2).2
        exact h5.one ((hl e (List.mem_of_getElem? h1)).2 cv (List.mem_of_getElem? h2))
      · have hil := (List.getElem?_eq_some_iff.1 he).1
        have hjl := (List.getElem?_eq_some_iff.1 hj).1
        obtain ⟨h1, h2⟩ := hcc i e he
        have hk : i * sz' + j < l.length * sz' := by
          have : i * sz' + sz' ≤ l.length * sz' := by rw [← Nat.succ_mul]; exact Nat.mul_le_mul_right _ hil
          omega
        have hd : (i * sz' + j) / sz' = i := by rw [Nat.mul_comm, Nat.mul_add_div hsz, Nat.div_eq_of_lt (by omega)]; rfl
        have hm : (i * sz' + j) % sz' = j := by rw [Nat.mul_comm, Nat.mul_add_mod, Nat.mod_eq_of_lt (by omega)]
        rw [List.getD_eq_getElem?_getD, List.getElem?_map, List.getElem?_range hk]
        simp only [Option.map_some, Option.getD_some, hd, hm]
        exact (h2 j cv hj).2
  · split at h
    · rename_i hs
      obtain ⟨hs, hs1⟩ := hs
      subst hs1
      split at h
      · rename_i b
        simp only [Option.some.injEq] at h
        subst h
        rw [hy.str_inv]
        have hlen : (b.data.toList.map fun c => [V.t (.int .u8 (c.toNat : Int))]).length = b.size := by simp
        refine ⟨byteCells b, ?_, by rw [byteCells_length, hlen, Nat.mul_one], fun i e he j cv hj => ?_⟩
        · rw [hlen]
          exact Src.ofString w (tStr_spec hs) b
        · rw [List.getElem?_map] at he
          obtain ⟨c, hc, rfl⟩ := Option.map_eq_some_iff.1 he
          cases j with
          | zero =>
            simp only [List.getElem?_cons_zero, Option.some.injEq] at hj
            subst hj
            rw [Nat.mul_one, Nat.add_zero, List.getD_eq_getElem?_getD, byteCells, List.getElem?_map, hc]
            exact .t (.int _ _)
          | succ j => simp at hj
      · cases h
    · rename_i he2 hs
      rcases hE with hE | hE
      · rw [he2] at hE; cases hE
      · exact absurd hE hs

/-- What an append of n elements does. -/
structure Src2 (P : Program) (t t2 ty e : TypeId) (inf : TypeInfo) (x : Value) (n : Nat) (news : List Value) (w : World) : Prop where
  nil : n = 0 → ∀ ao : Option Addr, (Builtin.append_ #[t, t2] ty #[.slice ao 0 0, x]).run P w = .ok (.slice ao 0 0) w
  room : ∀ b off sLen sCap, sLen + n ≤ sCap → (∀ j, j < news.length → (w.cell? ⟨b, off + sLen * inf.size + j, none⟩).isSome = true) → (∀ j, j < news.length → w.frozen? ⟨b, off + sLen * inf.size + j, none⟩ = false) →
    (Builtin.append_ #[t, t2] ty #[.slice (some ⟨b, off, none⟩) sLen sCap, x]).run P w = .ok (.slice (some ⟨b, off, none⟩) (sLen + n) sCap) (w.setCells b (off + sLen * inf.size) news)
  grow : ∀ (z : Value) (base : Option Addr) (sLen sCap : Nat) (olds : List Value), inf.zero = some z → (Builtin.firstCells inf.size sLen (.slice base sLen sCap)).run P w.drew = .ok olds.toArray w.drew → sCap < sLen + n →
    ((sLen + n : Nat) : Int) ≤ 9223372036854775807 → Builtin.nextslicecap (sLen + n) sCap * inf.bytes ≤ 281474976710656 → sLen ≤ sCap →
    (Builtin.append_ #[t, t2] ty #[.slice base sLen sCap, x]).run P w = .ok (.slice (some ⟨w.heap.size, 0, none⟩) (sLen + n) (grownCap w (sLen + n) sCap e))
        (w.drew.alloc (.cells ((olds ++ news).toArray ++ Builtin.zeroCells z.cells (grownCap w (sLen + n) sCap e - (sLen + n))) e))
theorem src_two {t t2 ty e : TypeId} {inf : TypeInfo} {x : Value} {n : Nat} {news : List Value} (hs : Src P inf.size t2 x n news w) (hu : P.underlying t = some (.slice e)) (hinf : P.info? e = some inf) (hnl : news.length = n * inf.size) : Src2 P t t2 ty e inf x n news w where
  nil := fun hn ao => by
    subst hn
    obtain rfl : news = [] := List.length_eq_zero_iff.1 (by rw [hnl]; simp)
    have hk := hs.kind
    have hln := hs.len w
    have hcl := hs.cells
    cases ao with
    | none => rcases hk with ⟨e', hk⟩ | hk <;> simp [Builtin.append_, Go.run_underlying hu, Go.run_underlying hk, sizeOf, typeInfo, hinf, hln, hcl]
    | some ad => rcases hk with ⟨e', hk⟩ | hk <;> simp [Builtin.append_, Go.run_underlying hu, Go.run_underlying hk, sizeOf, typeInfo, hinf, hln, hcl, storeCells]
  room := fun b off sLen sCap h1 h2 h3 => run_append_room_src (P := P) w t t2 ty e inf hu hinf b off sLen sCap x n news hs h1 h2 h3
  grow := fun z base sLen sCap olds hz ho hg h63 hfit _ => run_append_grow_src (P := P) w t t2 ty e inf z hu hinf hz base sLen sCap olds ho x n news hs hg h63 hfit
theorem Src2.zeros {t t2 ty e : TypeId} {inf : TypeInfo} {k kn : IntKind} {n : Nat} {z : Value} (hu : P.underlying t = some (.slice e)) (hk : P.underlying t2 = some (.int kn)) (hinf : P.info? e = some inf) (hz : inf.zero = some z) (hsz : 0 < inf.size) (hzs : z.cells.size = inf.size) (hb : 0 < inf.bytes) (hn : n ≤ 9223372036854775807) (h48 : n * inf.bytes ≤ 281474976710656)
    (h1 : ∀ u ∈ (Builtin.zeroCells z.cells n).toList, u.oneCell' = true) : Src2 P t t2 ty e inf (.int k n) n (Builtin.zeroCells z.cells n).toList w := by
  have hw : IntKind.i64.wrap (n : Int) = n := by rw [IntKind.wrap_i64]; omega
  have hneg : ¬ ((n : Int) < 0) := by omega
  have h48i : ¬ (281474976710656 < (n : Int) * (inf.bytes : Int)) := by
    rw [← Int.natCast_mul]
    omega
  refine ⟨fun h0 ao => ?_, fun b off sLen sCap h2 h3 h4 => ?_, fun z' base sLen sCap olds hz' ho hg h63 hfit hlc => ?_⟩
  · subst h0
    have hw0 : IntKind.i64.wrap 0 = 0 := by simpa using hw
    cases ao with
    | none => simp [Builtin.append_, Go.run_underlying hu, Go.run_underlying hk, sizeOf, typeInfo, hinf, hw0, asInt, asIntOf]
    | some ad => simp [Builtin.append_, Go.run_underlying hu, Go.run_underlying hk, sizeOf, typeInfo, hinf, hw0, asInt, asIntOf, storeCells]
  · have hst := run_storeCells_cells (P := P) b (off + sLen * inf.size) (Builtin.zeroCells z.cells n).toList 0 w (by simpa using h3) (by simpa using h4) h1
    simp only [Nat.add_zero] at hst
    by_cases h0 : n = 0
    · subst h0
      have hw0 : IntKind.i64.wrap 0 = 0 := by simpa using hw
      have hz0 : (Builtin.zeroCells z.cells 0).toList = [] := by simp [Builtin.zeroCells]
      rw [hz0] at hst ⊢
      have h2' : sLen ≤ sCap := h2
      simp [Builtin.append_, Go.run_underlying hu, Go.run_underlying hk, sizeOf, typeInfo, hinf, hw0, asInt, asIntOf, h2', Addr.add_lit, hst]
    · have hns : ¬ (n * inf.size = 0) := Nat.mul_ne_zero h0 (by omega)
      simp [Builtin.append_, Go.run_underlying hu, Go.run_underlying hk, sizeOf, typeInfo, zeroValue, hinf, hz, hw, hneg, h48i, hns, asInt, asIntOf, h2, Addr.add_lit, hst]
  · rw [hz] at hz'
    cases hz'
    have h0 : 0 < n := by omega
    have := Lib.run_append_grow_zeros (P := P) w t t2 ty e inf z k kn hu hk hinf hz base sLen sCap olds ho n h0 hsz hg h63 h48 hfit
    have e9 : olds.toArray ++ Builtin.zeroCells z.cells n ++ Builtin.zeroCells z.cells (grownCap w (sLen + n) sCap e - (sLen + n)) = (olds ++ (Builtin.zeroCells z.cells n).toList).toArray ++ Builtin.zeroCells z.cells (grownCap w (sLen + n) sCap e - (sLen + n)) := by
      apply Array.ext'
      simp
    rw [this, e9]
theorem zeroCells_get {zc : Array Value} {n i j : Nat} (hi : i < n) (hj : j < zc.size) : (Builtin.zeroCells zc n).toList.getD (i * zc.size + j) Go.undef = zc.getD j Go.undef := by
  have hlt : i * zc.size + j < n * zc.size := by
    have : i * zc.size + zc.size ≤ n * zc.size := by rw [← Nat.succ_mul]; exact Nat.mul_le_mul_right _ hi
    omega
  have hm : (i * zc.size + j) % zc.size = j := by rw [Nat.mul_comm, Nat.mul_add_mod, Nat.mod_eq_of_lt hj]
  have hlt2 : (i * zc.size + j) % zc.size < zc.size := by rw [hm]; exact hj
  simp [Builtin.zeroCells, List.getD_eq_getElem?_getD, hlt, hm, hj]
/-- The same of whatever is appended. -/
theorem src2_of {t t2 ty e : TypeId} {y : V} {x : Value} {l : List (List V)} {inf : TypeInfo} {z : List V} {zv : Value} (hi : Inv w0 av0 X N a w s) (hy : VR w X s.σ y x) (h : appElems P s inf.size (some z) t2 y = some l) (hl : ∀ e ∈ l, e.length = inf.size ∧ ∀ c ∈ e, V.leaf c = true) (hsz : 0 < inf.size)
    (hu : P.underlying t = some (.slice e)) (hinf : P.info? e = some inf) (hzv : inf.zero = some zv) (hzs : VRs w X s.σ z zv.cells) (hzl : z.length = inf.size) (hb : 0 < inf.bytes) (h48 : l.length * inf.bytes ≤ 281474976710656) :
    ∃ news : List Value, Src2 P t t2 ty e inf x l.length news w ∧ news.length = l.length * inf.size ∧ ∀ (i : Nat) (e : List V), l[i]? = some e → ∀ (j : Nat) (c : V), e[j]? = some c → VR w X s.σ c (news.getD (i * inf.size + j) Go.undef) := by
  by_cases hE : (tElem P t2).isSome ∨ (tStr P t2 = true ∧ inf.size = 1)
  · obtain ⟨news, h1, h2, h3⟩ := src_of (sz := inf.size) hi hy (z := some z) h hl hsz hE
    exact ⟨news, src_two h1 hu hinf h2, h2, h3⟩
  · unfold appElems at h
    split at h
    · rename_i e2 he2
      exact absurd (.inl (by rw [he2]; rfl)) hE
    · split at h
      · rename_i hs
        exact absurd (.inr hs) hE
      · split at h
        · rename_i kn z' kk n hkn hze
          split at h
          · rename_i hn
            simp only [Option.some.injEq] at h hze
            subst h
            subst hze
            obtain ⟨m, rfl⟩ : ∃ m : Nat, n = m := ⟨n.toNat, by omega⟩
            rw [hy.int_inv]
            simp only [Int.toNat_natCast, List.length_replicate] at h48 hl ⊢
            have hzsz : zv.cells.size = inf.size := by rw [hzs.1, hzl]
            have hget : ∀ (i : Nat) (e : List V), (List.replicate m z)[i]? = some e → ∀ (j : Nat) (c : V), e[j]? = some c → VR w X s.σ c ((Builtin.zeroCells zv.cells m).toList.getD (i * inf.size + j) Go.undef) := fun i e he j c hj => by
              obtain ⟨k1, k2⟩ := List.getElem?_eq_some_iff.1 he
              simp at k1 k2
              subst k2
              have hjl := (List.getElem?_eq_some_iff.1 hj).1
              rw [← hzsz, zeroCells_get k1 (by omega)]
              exact hzs.2 j c hj
            refine ⟨(Builtin.zeroCells zv.cells m).toList, Src2.zeros hu (tInt_spec hkn) hinf hzv hsz hzsz hb (by omega) h48 (fun u hu => ?_), by simp [Builtin.zeroCells, hzsz], hget⟩
            obtain ⟨k, hk⟩ := List.getElem?_of_mem hu
            have hkl := (List.getElem?_eq_some_iff.1 hk).1
            have hkl2 : k < m * inf.size := by simpa [Builtin.zeroCells, hzsz] using hkl
            have hd : k / inf.size < m := Nat.div_lt_of_lt_mul (by rwa [Nat.mul_comm])
            have hmm : k % inf.size < inf.size := Nat.mod_lt _ hsz
            have he : (List.replicate m z)[k / inf.size]? = some z := by rw [List.getElem?_replicate, if_pos hd]
            have hj : z[k % inf.size]? = some z[k % inf.size] := List.getElem?_eq_getElem (by omega)
            have hv := hget _ z he _ _ hj
            have hkk : k / inf.size * inf.size + k % inf.size = k := by rw [Nat.mul_comm]; exact Nat.div_add_mod k inf.size
            rw [hkk, List.getD_eq_getElem?_getD, hk] at hv
            have hm0 : 0 < m := Nat.lt_of_le_of_lt (Nat.zero_le _) hd
            exact hv.one ((hl z (by rw [List.mem_replicate]; exact ⟨Nat.ne_of_gt hm0, rfl⟩)).2 _ (List.getElem_mem _))
          · cases h
        · cases h

theorem Inv.drew (hi : Inv w0 av0 X N a w s) : Inv w0 av0 X N a w.drew s := by
  have h := hi.step (w' := w.drew) (σ' := s.σ) (h' := s.h) (by simp) rfl rfl rfl (fun b _ _ => rfl) (fun r o hr => ⟨o, hr, o.le_refl⟩) (fun r o hr => .inl ⟨r, o, hr, rfl⟩)
    ⟨fun r o hr => by
      have := (hi.hp.obj r o hr).mono (w' := w.drew) (X' := X) (σ' := s.σ) some (by simp) rfl (fun r o hr r' e => by cases e; exact ⟨o, hr, o.le_refl⟩) (fun b _ _ => rfl) (fun b hb _ => hb)
      rwa [Ob.ren_id] at this, hi.hp.nd, hi.hp.nx⟩ hi.h (Nat.le_refl _)
  exact h

/-- A row of one's own that is laid anew, in a new block. -/
theorem Inv.move (hi : Inv w0 av0 X N a w s) (hX : ∀ b, X b → b < w.heap.size) {r g ver sz n : Nat} {es es' : List (List V)} (hr : s.σ[r]? = some (.row g ver sz n es)) {cs : Array Value} {et : TypeId}
    (hrow : RowOk w X s.σ sz es' cs) : Inv w0 av0 X N a (w.alloc (.cells cs et)) ⟨s.env, s.σ.set r (.row w.heap.size (ver + 1) sz cs.size es'), w.heap.size + 1⟩ := by
  have hlt := (List.getElem?_eq_some_iff.1 hr).1
  have hold : ∀ b, b < w.heap.size → (w.alloc (.cells cs et)).heap[b]? = w.heap[b]? := fun b hb => Go.RowKit.Below.heap_alloc w _ b hb
  have hnew : (w.alloc (.cells cs et)).heap[w.heap.size]? = some (.cells cs et (0, 0)) := by
    show (w.heap.push _)[w.heap.size]? = _
    simp
  have hcase : ∀ (q : Nat) (o' : Ob), (s.σ.set r (.row w.heap.size (ver + 1) sz cs.size es'))[q]? = some o' → (q ≠ r ∧ s.σ[q]? = some o') ∨ (q = r ∧ o' = .row w.heap.size (ver + 1) sz cs.size es') := fun q o' hq => by
    by_cases h1 : q = r
    · subst h1
      rw [List.getElem?_set_self hlt] at hq
      exact .inr ⟨rfl, by simpa using hq.symm⟩
    · rw [List.getElem?_set_ne (Ne.symm h1)] at hq
      exact .inl ⟨h1, hq⟩
  have hσ : ∀ (q : Nat) (o : Ob), s.σ[q]? = some o → ∃ o' : Ob, (s.σ.set r (.row w.heap.size (ver + 1) sz cs.size es'))[q]? = some o' ∧ o.le o' := fun q o hq => by
    by_cases h1 : q = r
    · subst h1
      rw [hr] at hq
      simp only [Option.some.injEq] at hq
      subst hq
      exact ⟨_, List.getElem?_set_self hlt, by omega, fun e => by omega⟩
    · exact ⟨o, by rw [List.getElem?_set_ne (Ne.symm h1)]; exact hq, o.le_refl⟩
  have hav : ∀ b, ¬ AV X s.σ b → b < w.heap.size → ¬ AV X (s.σ.set r (.row w.heap.size (ver + 1) sz cs.size es')) b := by
    rintro b hb hlt' (hx | ⟨q, o', hq, e⟩)
    · exact hb (.inl hx)
    · rcases hcase q o' hq with ⟨_, h2⟩ | ⟨_, rfl⟩
      · exact hb (.inr ⟨q, o', h2, e⟩)
      · simp only [Ob.g] at e
        omega
  refine hi.step (by simp) rfl rfl rfl (fun b hb _ => hold b hb) hσ (fun q o' hq => ?_) ⟨fun q o' hq => ?_, fun q q' o o' h1 h2 e => ?_, fun q o' hq => ?_⟩ (by simp) (by have := hi.h; omega)
  · rcases hcase q o' hq with ⟨_, h2⟩ | ⟨_, rfl⟩
    · exact .inl ⟨q, o', h2, rfl⟩
    · exact .inr (by simp [Ob.g])
  · rcases hcase q o' hq with ⟨h1, h2⟩ | ⟨_, rfl⟩
    · have := (hi.hp.obj q o' h2).mono (w' := w.alloc (.cells cs et)) (X' := X) (σ' := s.σ.set r (.row w.heap.size (ver + 1) sz cs.size es')) some (by simp) (hold _ (hi.hp.lt h2)) (fun r o hr r' e => by cases e; exact hσ r o hr) (fun b _ hb => hold b hb) hav
      rwa [Ob.ren_id] at this
    · refine ⟨cs, et, hnew, rfl, hrow.1, fun i e he => ?_⟩
      obtain ⟨h2, h3⟩ := hrow.2 i e he
      refine ⟨h2, fun j c hj => ?_⟩
      have := (h3 j c hj).mono (w' := w.alloc (.cells cs et)) (X' := X) (σ' := s.σ.set r (.row w.heap.size (ver + 1) sz cs.size es')) some (by simp) (fun r o hr r' e => by cases e; exact hσ r o hr) (fun b _ hb => hold b hb) hav
      rwa [V.ren_id] at this
  · rcases hcase q o h1 with ⟨k1, k2⟩ | ⟨rfl, rfl⟩ <;> rcases hcase q' o' h2 with ⟨k3, k4⟩ | ⟨rfl, rfl⟩
    · exact hi.hp.nd q q' o o' k2 k4 e
    · have := hi.hp.lt k2
      simp only [Ob.g] at e this
      omega
    · have := hi.hp.lt k4
      simp only [Ob.g] at e this
      omega
    · rfl
  · rcases hcase q o' hq with ⟨_, h2⟩ | ⟨_, rfl⟩
    · exact hi.hp.nx q o' h2
    · intro hx
      have := hX _ hx
      simp [Ob.g] at this

theorem rowOk_append {σ : List Ob} {sz : Nat} {es l : List (List V)} {olds news rest : List Value} (ho : olds.length = es.length * sz) (hn : news.length = l.length * sz) (hes : ∀ e ∈ es, e.length = sz) (hl : ∀ e ∈ l, e.length = sz)
    (h1 : ∀ (i : Nat) (e : List V), es[i]? = some e → ∀ (j : Nat) (c : V), e[j]? = some c → VR w X σ c (olds.getD (i * sz + j) Go.undef))
    (h2 : ∀ (i : Nat) (e : List V), l[i]? = some e → ∀ (j : Nat) (c : V), e[j]? = some c → VR w X σ c (news.getD (i * sz + j) Go.undef)) : RowOk w X σ sz (es ++ l) ((olds ++ news ++ rest).toArray) := by
  refine ⟨by simp [ho, hn, Nat.add_mul], fun i e he => ?_⟩
  have hle : e.length = sz := by
    rcases List.mem_append.1 (List.mem_of_getElem? he) with h | h
    · exact hes e h
    · exact hl e h
  refine ⟨hle, fun j c hj => ?_⟩
  have hjl := (List.getElem?_eq_some_iff.1 hj).1
  rw [Array.getD_eq_getD_getElem?, List.getElem?_toArray, List.append_assoc]
  rcases Nat.lt_or_ge i es.length with hi' | hi'
  · rw [List.getElem?_append_left hi'] at he
    have hk : i * sz + j < olds.length := by
      have : i * sz + sz ≤ es.length * sz := by rw [← Nat.succ_mul]; exact Nat.mul_le_mul_right _ hi'
      omega
    rw [List.getElem?_append_left hk, ← List.getD_eq_getElem?_getD]
    exact h1 i e he j c hj
  · rw [List.getElem?_append_right hi'] at he
    have hil := (List.getElem?_eq_some_iff.1 he).1
    have e1 : i * sz = es.length * sz + (i - es.length) * sz := by rw [← Nat.add_mul]; congr 1; omega
    have hk2 : (i - es.length) * sz + j < news.length := by
      have : (i - es.length) * sz + sz ≤ l.length * sz := by rw [← Nat.succ_mul]; exact Nat.mul_le_mul_right _ hil
      omega
    rw [List.getElem?_append_right (by omega)]
    have e2 : i * sz + j - olds.length = (i - es.length) * sz + j := by omega
    rw [e2, List.getElem?_append_left hk2, ← List.getD_eq_getElem?_getD]
    exact h2 _ e he j c hj

theorem gives_append (hi : Inv w0 av0 X N a w s) (hX : ∀ b, X b → b < w.heap.size) {c : Call} {ty : TypeId} {K : V → List Ob → Nat → Prop} (hc : isApp c.callee = true) (h : vcE P s (.call c) K) :
    Gives P w0 av0 X N a w s (Builtin.append_ c.argTypes ty (c.args.map a.eval)) K := by
  obtain ⟨callee, args, ts⟩ := c
  simp only [vcE] at h hc
  rw [if_pos hc] at h
  split at h
  · rename_i x y t t2 ha hts
    have hargs : args = #[x, y] := by rw [← Array.toArray_toList (xs := args), ha]
    have htss : ts = #[t, t2] := by rw [← Array.toArray_toList (xs := ts), hts]
    subst hargs
    subst htss
    split at h
    · rename_i e he
      split at h
      · rename_i sz z b l hsz hz hb hl
        obtain ⟨h1, h2, h3, h4, h⟩ := h
        rw [hsz] at hl
        simp only [Option.getD_some] at hl
        obtain ⟨inf, zv, hinf, hzv, hzr, hzz, hzs⟩ := zero_parts (X := X) (w := w) (s := s) hz
        have e1 := tSize_info hsz hinf
        have e2 := tBytes_info hb hinf
        subst e1
        subst e2
        have hu := tElem_spec he
        have h48 : l.length * inf.bytes ≤ 281474976710656 := by
          have hm : l.length * inf.bytes ≤ 2 * l.length * inf.bytes := Nat.mul_le_mul_right _ (by omega)
          split at h
          · exact Nat.le_trans hm h.1
          · split at h
            · rename_i len _ _ _ _ _ _ _
              obtain ⟨_, _, h, _⟩ := h
              exact Nat.le_trans (Nat.mul_le_mul_right _ (by omega)) h
            · exact h.elim
          · exact h.elim
        rw [hz] at hl
        obtain ⟨news, hsrc, hnl, hnews⟩ := src2_of (t := t) (ty := ty) (e := e) hi (hi.eval y) hl h4 h2 hu hinf hzv hzs h1 h3 h48
        have hmap : (#[x, y].map a.eval) = #[a.eval x, a.eval y] := by simp
        rw [hmap]
        have hlb : l.length ≤ l.length * inf.bytes := Nat.le_mul_of_pos_right _ h3
        split at h
        · rename_i hx
          have hxv := hx ▸ hi.eval x
          generalize a.eval x = xv at hxv
          cases hxv with
          | nil0 ao =>
          obtain ⟨hbd, h⟩ := h
          split at h
          · rename_i hl0
            exact ⟨.slice ao 0 0, w, .nil0, s.σ, s.h, hsrc.nil hl0 ao, hi, .nil0 _, h⟩
          · rename_i hl0
            have hbb : l.length * inf.bytes * 2 ≤ 281474976710656 := by
              have : 2 * l.length * inf.bytes = l.length * inf.bytes * 2 := by rw [Nat.mul_assoc, Nat.mul_comm]
              omega
            have hfit : Builtin.nextslicecap (0 + l.length) 0 * inf.bytes ≤ 281474976710656 := by
              have := Nat.mul_le_mul_right inf.bytes (Room.nextslicecap_le' (need := 0 + l.length) (old := 0) (by omega))
              have e3 : 2 * (0 + l.length) * inf.bytes = 2 * l.length * inf.bytes := by rw [Nat.zero_add]
              omega
            have hr := hsrc.grow zv ao 0 0 [] hzv (by
                cases ao with
                | none => exact run_firstCells_none w.drew inf.size 0 0 0
                | some ad => exact run_firstCells_some w.drew inf.size 0 ad 0 0 [] (by simp) (fun j u hu => by simp at hu)) (by omega) (by omega) hfit (Nat.le_refl _)
            have hrow : RowOk w.drew X s.σ inf.size l (([] ++ news).toArray ++ Builtin.zeroCells zv.cells (grownCap w (0 + l.length) 0 e - (0 + l.length))) := by
              have := rowOk_append (w := w.drew) (X := X) (σ := s.σ) (sz := inf.size) (es := []) (l := l) (olds := []) (news := news) (rest := (Builtin.zeroCells zv.cells (grownCap w (0 + l.length) 0 e - (0 + l.length))).toList) (by simp) hnl (by simp) (fun e he => (h4 e he).1) (fun i e he => by simp at he) (fun i e he j c hj => by
                have := (hnews i e he j c hj).mono (w' := w.drew) (X' := X) (σ' := s.σ) some (by simp) (fun r o hr r' e => by cases e; exact ⟨o, hr, o.le_refl⟩) (fun b _ _ => rfl) (fun b hb _ => hb)
                rwa [V.ren_id] at this)
              have e4 : ([] ++ news ++ (Builtin.zeroCells zv.cells (grownCap w (0 + l.length) 0 e - (0 + l.length))).toList).toArray = ([] ++ news).toArray ++ Builtin.zeroCells zv.cells (grownCap w (0 + l.length) 0 e - (0 + l.length)) := by
                apply Array.ext'
                simp
              rw [← e4]
              simpa using this
            have hinv := hi.drew.alloc (by simpa using hX) (cs := ([] ++ news).toArray ++ Builtin.zeroCells zv.cells (grownCap w (0 + l.length) 0 e - (0 + l.length))) (et := e) (ver := 0) hrow.1 hrow.2
            have hcap : grownCap w (0 + l.length) 0 e * inf.size ≤ (([] ++ news).toArray ++ Builtin.zeroCells zv.cells (grownCap w (0 + l.length) 0 e - (0 + l.length))).size := by
              have hg := grownCap_ge w (0 + l.length) 0 e
              have hzs2 : zv.cells.size = inf.size := by rw [hzs.1, h1]
              simp only [Array.size_append, List.size_toArray, List.nil_append, Builtin.zeroCells, Array.size_map, Array.size_range, hnl, hzs2]
              rw [← Nat.add_mul]
              exact Nat.mul_le_mul_right _ (by omega)
            refine ⟨_, _, .own s.σ.length 0 0 l.length, _, _, hr, hinv, ?_, ?_⟩
            · have := VR.own_new (X := X) (w' := w.drew.alloc (.cells (([] ++ news).toArray ++ Builtin.zeroCells zv.cells (grownCap w (0 + l.length) 0 e - (0 + l.length))) e)) (σ := s.σ) (g := w.heap.size) (sz := inf.size) (es := l) (len := l.length) (c := grownCap w (0 + l.length) 0 e) (by have := grownCap_ge w (0 + l.length) 0 e; omega) hcap (Nat.le_refl _)
              simpa using this
            · exact h w.heap.size _ hi.h
        · rename_i r ver len hx
          have hxv := hx ▸ hi.eval x
          generalize a.eval x = xv at hxv
          split at h
          · rename_i g v sz' m es hσ
            obtain ⟨rfl, rfl, hbd, hK⟩ := h
            cases hxv with
            | @own _ _ _ _ g2 v2 sz2 n2 es2 _ h2' hv2 h1c hp2 =>
            rw [hσ] at h2'
            simp only [Option.some.injEq, Ob.row.injEq] at h2'
            obtain ⟨rfl, rfl, rfl, rfl, rfl⟩ := h2'
            obtain ⟨cap, rfl, hc1, hc2, hc3⟩ := hp2 rfl
            rw [Nat.zero_add] at hc2 hc3
            have haddr : (0 : Nat) * inf.size = 0 := Nat.zero_mul _
            rw [haddr]
            obtain ⟨cs, et, k1, k2, k3, k4⟩ := hi.hp.obj r _ hσ
            have htl : (es.take len).length = len := by simp; omega
            have htm : ∀ e ∈ es.take len, e.length = inf.size := fun e' he' => by
              obtain ⟨i, hi'⟩ := List.getElem?_of_mem (List.mem_of_mem_take he')
              exact (k4 i e' hi').1
            have htk : ∀ (i : Nat) (e' : List V), (es.take len)[i]? = some e' → ∀ (j : Nat) (c : V), e'[j]? = some c → VR w X s.σ c (cs.getD (i * inf.size + j) Go.undef) := fun i e' he' j c hj => by
              rw [List.getElem?_take] at he'
              split at he'
              · exact (k4 i e' he').2 j c hj
              · cases he'
            by_cases hroom : len + l.length ≤ cap
            · have hle2 : len * inf.size + l.length * inf.size ≤ cs.size := by
                rw [← Nat.add_mul, k2]
                exact Nat.le_trans (Nat.mul_le_mul_right _ hroom) hc2
              have hr := hsrc.room g 0 len cap hroom (fun j hj => by
                  rw [cell_of_cells k1]
                  have : 0 + len * inf.size + j < cs.size := by omega
                  simp only [this, Array.getElem?_eq_getElem, Option.isSome_some]) (fun j hj => frozen_of_cells k1)
              obtain ⟨cs', q1, q2, q3, q4, q5, q6, q7, q8⟩ := setCells_spec g news (0 + len * inf.size) w cs et (0, 0) k1
              have hrow : RowOk w X s.σ inf.size (es.take len ++ l) cs' := by
                refine ⟨by rw [q2, List.length_append, htl, Nat.add_mul]; exact hle2, fun i e' he' => ?_⟩
                rcases Nat.lt_or_ge i len with hil | hil
                · rw [List.getElem?_append_left (by omega)] at he'
                  refine ⟨htm e' (List.mem_of_getElem? he'), fun j c hj => ?_⟩
                  have hjl := (List.getElem?_eq_some_iff.1 hj).1
                  have hel := htm e' (List.mem_of_getElem? he')
                  have hlt3 : i * inf.size + inf.size ≤ len * inf.size := by rw [← Nat.succ_mul]; exact Nat.mul_le_mul_right _ hil
                  rw [Array.getD_eq_getD_getElem?, q3, if_neg (by omega), ← Array.getD_eq_getD_getElem?]
                  exact htk i e' he' j c hj
                · rw [List.getElem?_append_right (by omega), htl] at he'
                  have hel := (h4 e' (List.mem_of_getElem? he')).1
                  refine ⟨hel, fun j c hj => ?_⟩
                  have hjl := (List.getElem?_eq_some_iff.1 hj).1
                  have hil2 := (List.getElem?_eq_some_iff.1 he').1
                  have e1 : i * inf.size = len * inf.size + (i - len) * inf.size := by rw [← Nat.add_mul]; congr 1; omega
                  have hk2 : (i - len) * inf.size + inf.size ≤ l.length * inf.size := by rw [← Nat.succ_mul]; exact Nat.mul_le_mul_right _ hil2
                  rw [Array.getD_eq_getD_getElem?, q3, if_pos ⟨by omega, by omega, by omega⟩]
                  have e2 : i * inf.size + j - (0 + len * inf.size) = (i - len) * inf.size + j := by omega
                  rw [e2, ← List.getD_eq_getElem?_getD]
                  exact hnews _ e' he' j c hj
              have hinv := hi.write (w' := w.setCells g (0 + len * inf.size) news) (ver' := ver + 1) (es' := es.take len ++ l) hσ q1 (by rw [q2, k2]) q4 q5 q6 q7 q8 ⟨by omega, fun e => by omega⟩ (by rw [← k2, ← q2]; exact hrow.1) hrow.2
              refine ⟨_, _, _, _, _, hr, hinv, ?_, hK g m s.h (.inl ⟨rfl, rfl⟩)⟩
              refine .own (g := g) (ver' := ver + 1) (sz := inf.size) (n := m) (es := es.take len ++ l) (List.getElem?_set_self (List.getElem?_eq_some_iff.1 hσ).1) (Nat.le_refl _) rfl (fun _ => ⟨cap, by simp, hroom, by simpa using hc2, by simp [htl]⟩)
            · have hbb : (len + l.length) * inf.bytes * 2 ≤ 281474976710656 := by
                have : 2 * (len + l.length) * inf.bytes = (len + l.length) * inf.bytes * 2 := by rw [Nat.mul_assoc, Nat.mul_comm]
                omega
              have hfit : Builtin.nextslicecap (len + l.length) cap * inf.bytes ≤ 281474976710656 := by
                have := Nat.mul_le_mul_right inf.bytes (Room.nextslicecap_le' (need := len + l.length) (old := cap) (by omega))
                omega
              have hlb2 : len + l.length ≤ (len + l.length) * inf.bytes := Nat.le_mul_of_pos_right _ h3
              have hcsl : len * inf.size ≤ cs.size := by rw [k2]; exact Nat.le_trans (Nat.mul_le_mul_right _ hc1) hc2
              have hr := hsrc.grow zv (some ⟨g, 0, none⟩) len cap ((List.range (len * inf.size)).map fun k => cs.getD k Go.undef) hzv (run_firstCells_some w.drew inf.size len ⟨g, 0, none⟩ len cap _ (by simp) (fun j u hu => by
                  rw [List.getElem?_map] at hu
                  obtain ⟨k, hk, rfl⟩ := Option.map_eq_some_iff.1 hu
                  obtain ⟨hk1, hk2⟩ := List.getElem?_eq_some_iff.1 hk
                  simp at hk1 hk2
                  subst hk2
                  rw [addr_add]
                  have hjl : j < cs.size := by omega
                  show w.cell? _ = _
                  rw [Nat.zero_add, cell_of_cells k1]
                  simp [hjl])) (by omega) (by omega) hfit hc1
              generalize hgc : grownCap w (len + l.length) cap e = gc at hr
              have hg := grownCap_ge w (len + l.length) cap e
              rw [hgc] at hg
              generalize hC : (((List.range (len * inf.size)).map fun k => cs.getD k Go.undef) ++ news).toArray ++ Builtin.zeroCells zv.cells (gc - (len + l.length)) = C at hr
              have hCs : C.size = gc * inf.size := by
                have hzs2 : zv.cells.size = inf.size := by rw [hzs.1, h1]
                rw [← hC]
                simp only [Array.size_append, List.size_toArray, List.length_append, List.length_map, List.length_range, Builtin.zeroCells, Array.size_map, Array.size_range, hnl, hzs2]
                rw [← Nat.add_mul, ← Nat.add_mul]
                congr 1
                omega
              have hrow : RowOk w.drew X s.σ inf.size (es.take len ++ l) C := by
                have := rowOk_append (w := w.drew) (X := X) (σ := s.σ) (sz := inf.size) (es := es.take len) (l := l) (olds := (List.range (len * inf.size)).map fun k => cs.getD k Go.undef) (news := news) (rest := (Builtin.zeroCells zv.cells (gc - (len + l.length))).toList) (by simp [htl]) hnl htm (fun e he => (h4 e he).1) (fun i e' he' j c hj => by
                  have hjl := (List.getElem?_eq_some_iff.1 hj).1
                  have hel := htm e' (List.mem_of_getElem? he')
                  have hil := (List.getElem?_eq_some_iff.1 he').1
                  rw [htl] at hil
                  have hlt3 : i * inf.size + inf.size ≤ len * inf.size := by rw [← Nat.succ_mul]; exact Nat.mul_le_mul_right _ hil
                  have := (htk i e' he' j c hj).mono (w' := w.drew) (X' := X) (σ' := s.σ) some (by simp) (fun r o hr r' e => by cases e; exact ⟨o, hr, o.le_refl⟩) (fun b _ _ => rfl) (fun b hb _ => hb)
                  rw [V.ren_id] at this
                  rw [List.getD_eq_getElem?_getD, List.getElem?_map, List.getElem?_range (by omega)]
                  exact this) (fun i e he j c hj => by
                  have := (hnews i e he j c hj).mono (w' := w.drew) (X' := X) (σ' := s.σ) some (by simp) (fun r o hr r' e => by cases e; exact ⟨o, hr, o.le_refl⟩) (fun b _ _ => rfl) (fun b hb _ => hb)
                  rwa [V.ren_id] at this)
                have e4 : (((List.range (len * inf.size)).map fun k => cs.getD k Go.undef) ++ news ++ (Builtin.zeroCells zv.cells (gc - (len + l.length))).toList).toArray = C := by
                  rw [← hC]
                  apply Array.ext'
                  simp
                rw [← e4]
                exact this
              have hinv := hi.drew.move (by simpa using hX) (es' := es.take len ++ l) (et := e) hσ hrow
              refine ⟨_, _, _, _, _, hr, hinv, ?_, hK w.heap.size C.size _ (.inr ⟨hi.h, rfl⟩)⟩
              refine .own (g := w.heap.size) (ver' := ver + 1) (sz := inf.size) (n := C.size) (es := es.take len ++ l) (List.getElem?_set_self (List.getElem?_eq_some_iff.1 hσ).1) (Nat.le_refl _) rfl (fun _ => ⟨gc, by simp, hg, by rw [hCs]; simp, by simp [htl]⟩)
          · exact h.elim
        · exact h.elim
      · exact h.elim
    · exact h.elim
  · exact h.elim
end
end Go.VL
namespace Go.VL
set_option linter.unusedVariables false
set_option linter.unusedSimpArgs false

/-- Rows of one's own as frozen data: those of 'bor', nested at most so deep. -/
def frz (σ : List Ob) (bor : List Nat) : Nat → V → Option T
  | _, .t x => some x
  | _, .nil0 => some (.sl 0 [])
  | n + 1, .own r ver off len => if r ∈ bor then match σ[r]? with
      | some (.row g v _ _ es) => if ver = v then match ((es.drop off).take len).mapM (fun e => e.mapM (frz σ bor n)) with
          | some ts => some (.sl g ts)
          | none => none
        else none
      | _ => none
    else none
  | _, _ => none

def idx : List Nat → Nat → Option Nat
  | [], _ => none
  | x :: l, r => if x = r then some 0 else match idx l r with | some k => some (k + 1) | none => none
theorem idx_some : ∀ {fp : List Nat} {r k : Nat}, idx fp r = some k → fp[k]? = some r
  | [], r, k, h => by cases h
  | x :: l, r, k, h => by
    unfold idx at h
    split at h
    · rename_i hx
      simp only [Option.some.injEq] at h
      subst h
      simp [hx]
    · split at h
      · rename_i k' hk
        simp only [Option.some.injEq] at h
        subst h
        simpa using idx_some hk
      · cases h

mutual
/-- A value, of one's own objects with those of 'fp' alone (under new numbers), those of 'bor' frozen. -/
def V.loc (σ : List Ob) (fp bor : List Nat) : V → V
  | .own r ver off len => match idx fp r with
    | some k => .own k ver off len
    | none => match frz σ bor (σ.length + 1) (.own r ver off len) with | some x => .t x | none => .undef
  | .ptr r ver i j => match idx fp r with | some k => .ptr k ver i j | none => .undef
  | .map r => match idx fp r with | some k => .map k | none => .undef
  | .fn f caps => .fn f (V.locs σ fp bor caps)
  | .agg cs => .agg (V.locs σ fp bor cs)
  | .tup vs => .tup (V.locs σ fp bor vs)
  | .t x => .t x
  | .nil0 => .nil0
  | .fz e j => .fz e j
  | .err b => .err b
  | .undef => .undef
  | .skip => .skip
def V.locs (σ : List Ob) (fp bor : List Nat) : List V → List V
  | [] => []
  | v :: l => V.loc σ fp bor v :: V.locs σ fp bor l
end
theorem V.locs_eq (σ : List Ob) (fp bor : List Nat) (l : List V) : V.locs σ fp bor l = l.map (V.loc σ fp bor) := by
  induction l with
  | nil => rfl
  | cons v l ih => rw [V.locs, ih]; rfl

def Ob.loc (σ : List Ob) (fp bor : List Nat) : Ob → Ob
  | .row g ver sz n es => .row g ver sz n (es.map (·.map (V.loc σ fp bor)))
  | .map g es => .map g (es.map fun p => (p.1, p.2.loc σ fp bor))
theorem Ob.loc_g (σ : List Ob) (fp bor : List Nat) (o : Ob) : (o.loc σ fp bor).g = o.g := by cases o <;> rfl
theorem Ob.loc_le (σ : List Ob) (fp bor : List Nat) (o : Ob) : o.le (o.loc σ fp bor) := by cases o <;> simp [Ob.loc, Ob.le]
/-- The objects that are taken along. -/
def locObs (σ : List Ob) (fp bor : List Nat) : List Ob := fp.map fun r => ((σ[r]?).getD default).loc σ fp bor
theorem locObs_get {σ : List Ob} {fp bor : List Nat} {k r : Nat} {o : Ob} (h : fp[k]? = some r) (ho : σ[r]? = some o) : (locObs σ fp bor)[k]? = some (o.loc σ fp bor) := by
  simp [locObs, h, ho]

theorem mapM_get {α β : Type} {f : α → Option β} : ∀ {l : List α} {l' : List β}, l.mapM f = some l' → l'.length = l.length ∧ ∀ (i : Nat) (y : β), l'[i]? = some y → ∃ x, l[i]? = some x ∧ f x = some y
  | [], l', h => by
    simp only [List.mapM_nil, Option.pure_def, Option.some.injEq] at h
    subst h
    exact ⟨rfl, fun i y hy => by simp at hy⟩
  | x :: l, l', h => by
    rw [List.mapM_cons] at h
    simp only [Option.bind_eq_bind, Option.bind_eq_some_iff, Option.pure_def, Option.some.injEq] at h
    obtain ⟨y, hy, l2, hl2, rfl⟩ := h
    obtain ⟨h1, h2⟩ := mapM_get hl2
    refine ⟨by simp [h1], fun i z hz => ?_⟩
    cases i with
    | zero =>
      simp only [List.getElem?_cons_zero, Option.some.injEq] at hz
      subst hz
      exact ⟨x, rfl, hy⟩
    | succ i => 
      obtain ⟨x', h3, h4⟩ := h2 i z (by simpa using hz)
      exact ⟨x', by simpa using h3, h4⟩

/-- Frozen rows are read as before, by whoever keeps clear of fewer blocks. -/
theorem frz_sound {w : World} {X X' : Nat → Prop} {σ σ' : List Ob} {bor : List Nat} (hp : Heap w X σ)
    (hav : ∀ b, AV X' σ' b → X b ∨ ∃ (r : Nat) (o : Ob), σ[r]? = some o ∧ r ∉ bor ∧ o.g = b) : ∀ (n : Nat) (v : V) (x : T) (y : Value), frz σ bor n v = some x → VR w X σ v y → FR w (AV X' σ') x y := by
  have hav2 : ∀ b, ¬ AV X σ b → b < w.heap.size → ¬ AV X' σ' b := fun b hb _ h => by
    rcases hav b h with h | ⟨r, o, h1, _, h2⟩
    · exact hb (.inl h)
    · exact hb (.inr ⟨r, o, h1, h2⟩)
  intro n
  induction n with
  | zero =>
    intro v x y h hv
    unfold frz at h
    split at h
    · simp only [Option.some.injEq] at h
      subst h
      cases hv with
      | t hv => exact hv.mono (Nat.le_refl _) (fun _ _ _ => rfl) hav2
    · simp only [Option.some.injEq] at h
      subst h
      cases hv with
      | nil0 a => exact .nil _ _ _
    · omega
    · cases h
  | succ n ih =>
    intro v x y h hv
    unfold frz at h
    split at h
    · simp only [Option.some.injEq] at h
      subst h
      cases hv with
      | t hv => exact hv.mono (Nat.le_refl _) (fun _ _ _ => rfl) hav2
    · simp only [Option.some.injEq] at h
      subst h
      cases hv with
      | nil0 a => exact .nil _ _ _
    · rename_i m r ver off len heq
      have hmn : m = n := by omega
      subst hmn
      split at h
      · rename_i hb
        split at h
        · rename_i g v' sz' n' es hσ
          split at h
          · rename_i hver
            subst hver
            split at h
            · rename_i ts hts
              simp only [Option.some.injEq] at h
              subst h
              cases hv with
              | @own _ _ _ _ g2 v2 sz2 n2 es2 _ h2 hv2 h1c hp2 =>
              rw [hσ] at h2
              simp only [Option.some.injEq, Ob.row.injEq] at h2
              obtain ⟨rfl, rfl, rfl, rfl, rfl⟩ := h2
              obtain ⟨c, rfl, hc1, hc2, hc3⟩ := hp2 rfl
              obtain ⟨cs, et, h3, h4, h5, h6⟩ := hp.obj r _ hσ
              obtain ⟨t1, t2⟩ := mapM_get hts
              have hlen : ts.length = len := by rw [t1]; simp; omega
              rw [← hlen]
              refine .sl g ts (off * sz') c sz' (fun i j => cs.getD ((off + i) * sz' + j) Go.undef) (by omega) (Array.getElem?_eq_some_iff.1 h3).1 (fun hbad => ?_) (fun i e he => ?_) (fun i j e t he ht => ?_) (fun i j e t he ht => ?_)
              · rcases hav g hbad with hx | ⟨r', o, k1, k2, k3⟩
                · exact hp.nx r _ hσ hx
                · exact k2 (by rw [hp.nd r' r o _ k1 hσ k3]; exact hb)
              · obtain ⟨e0, k1, k2⟩ := t2 i e he
                rw [List.getElem?_take] at k1
                split at k1
                · rw [List.getElem?_drop] at k1
                  rw [(mapM_get k2).1]
                  exact (h6 _ e0 k1).1
                · cases k1
              · obtain ⟨e0, k1, k2⟩ := t2 i e he
                rw [List.getElem?_take] at k1
                split at k1
                · rw [List.getElem?_drop] at k1
                  have hjl := (List.getElem?_eq_some_iff.1 ht).1
                  rw [(mapM_get k2).1, (h6 _ e0 k1).1] at hjl
                  have hil2 := (List.getElem?_eq_some_iff.1 k1).1
                  have hcs : (off + i) * sz' + sz' ≤ cs.size := by rw [h4]; refine Nat.le_trans ?_ h5; rw [← Nat.succ_mul]; exact Nat.mul_le_mul_right _ hil2
                  rw [cell_of_cells h3]
                  have e1 : off * sz' + i * sz' + j = (off + i) * sz' + j := by rw [Nat.add_mul]
                  have e2 : (off + i) * sz' + j < cs.size := by omega
                  rw [e1]
                  simp [e2]
                · cases k1
              · obtain ⟨e0, k1, k2⟩ := t2 i e he
                rw [List.getElem?_take] at k1
                split at k1
                · rw [List.getElem?_drop] at k1
                  obtain ⟨c0, k3, k4⟩ := (mapM_get k2).2 j t ht
                  exact ih c0 t _ k4 ((h6 _ e0 k1).2 j c0 k3)
                · cases k1
            · cases h
          · cases h
        · cases h
      · cases h
    · cases h

theorem VR.loc {w : World} {X X' : Nat → Prop} {σ : List Ob} {fp bor : List Nat} {v : V} {y : Value} (hv : VR w X σ v y) (hp : Heap w X σ) (hfp : ∀ r ∈ fp, r < σ.length)
    (hav : ∀ b, AV X' (locObs σ fp bor) b → X b ∨ ∃ (r : Nat) (o : Ob), σ[r]? = some o ∧ r ∉ bor ∧ o.g = b) : VR w X' (locObs σ fp bor) (v.loc σ fp bor) y := by
  have hav2 : ∀ b, ¬ AV X σ b → b < w.heap.size → ¬ AV X' (locObs σ fp bor) b := fun b hb _ h => by
    rcases hav b h with h | ⟨r, o, h1, _, h2⟩
    · exact hb (.inl h)
    · exact hb (.inr ⟨r, o, h1, h2⟩)
  have hlist : ∀ {cs : List V} {vs : Array Value}, (∀ (i : Nat) (c : V), cs[i]? = some c → VR w X' (locObs σ fp bor) (c.loc σ fp bor) (vs.getD i Go.undef)) → ∀ (i : Nat) (c : V), (V.locs σ fp bor cs)[i]? = some c → VR w X' (locObs σ fp bor) c (vs.getD i Go.undef) := fun h i c hc => by
    rw [V.locs_eq, List.getElem?_map] at hc
    obtain ⟨c0, h0, rfl⟩ := Option.map_eq_some_iff.1 hc
    exact h i c0 h0
  induction hv with
  | t h => exact .t (h.mono (Nat.le_refl _) (fun _ _ _ => rfl) hav2)
  | nil0 a => exact .nil0 a
  | @own r ver off len g ver' sz n es v h hv h1 hp' =>
    simp only [V.loc]
    cases hk : idx fp r with
    | some k => exact .own (locObs_get (idx_some hk) h) hv h1 (fun e => by obtain ⟨c, h2, h3, h4, h5⟩ := hp' e; exact ⟨c, h2, h3, h4, by simpa using h5⟩)
    | none =>
      simp only
      cases hf : frz σ bor (σ.length + 1) (.own r ver off len) with
      | none => exact .undef _
      | some x => exact .t (frz_sound hp hav (σ.length + 1) _ x _ hf (.own h hv h1 hp'))
  | @ptr r ver i j g ver' sz n es v h hv h1 hp' =>
    simp only [V.loc]
    cases hk : idx fp r with
    | some k => exact .ptr (locObs_get (idx_some hk) h) hv h1 hp'
    | none => exact .undef _
  | @fz e j b off cell hb ha hc hr => exact .fz hb (hav2 b ha hb) hc (fun k t ht => (hr k t ht).mono (Nat.le_refl _) (fun _ _ _ => rfl) hav2)
  | @fn f caps vs hl hr ih => exact .fn (by rw [V.locs_eq]; simpa using hl) (hlist ih)
  | @map r g es h =>
    simp only [V.loc]
    cases hk : idx fp r with
    | some k => exact .map (locObs_get (idx_some hk) h)
    | none => exact .undef _
  | errN => exact .errN
  | errS t v => exact .errS t v
  | @agg cs vs hl hr ih => exact .agg (by rw [V.locs_eq]; simpa using hl) (hlist ih)
  | @tup cs vs hl hr ih => exact .tup (by rw [V.locs_eq]; simpa using hl) (hlist ih)
  | undef v => exact .undef v
  | skip => exact .skip

theorem locObs_cases {σ : List Ob} {fp bor : List Nat} (hfp : ∀ r ∈ fp, r < σ.length) {k : Nat} {o' : Ob} (h : (locObs σ fp bor)[k]? = some o') : ∃ (r : Nat) (o : Ob), fp[k]? = some r ∧ σ[r]? = some o ∧ o' = o.loc σ fp bor := by
  unfold locObs at h
  rw [List.getElem?_map] at h
  obtain ⟨r, hr, rfl⟩ := Option.map_eq_some_iff.1 h
  have hlt := hfp r (List.mem_of_getElem? hr)
  exact ⟨r, σ[r], hr, List.getElem?_eq_getElem hlt, by simp [hlt]⟩

theorem Heap.loc {w : World} {X X' : Nat → Prop} {σ : List Ob} {fp bor : List Nat} (hp : Heap w X σ) (hfp : ∀ r ∈ fp, r < σ.length) (hn : fp.Nodup) (hd : ∀ r ∈ fp, r ∉ bor)
    (hX : ∀ b, X' b → X b ∨ ∃ (r : Nat) (o : Ob), σ[r]? = some o ∧ r ∉ fp ∧ r ∉ bor ∧ o.g = b) : Heap w X' (locObs σ fp bor) ∧ ∀ b, AV X' (locObs σ fp bor) b → X b ∨ ∃ (r : Nat) (o : Ob), σ[r]? = some o ∧ r ∉ bor ∧ o.g = b := by
  have hav : ∀ b, AV X' (locObs σ fp bor) b → X b ∨ ∃ (r : Nat) (o : Ob), σ[r]? = some o ∧ r ∉ bor ∧ o.g = b := by
    rintro b (hx | ⟨k, o', hk, e⟩)
    · rcases hX b hx with h | ⟨r, o, h1, h2, h3, h4⟩
      · exact .inl h
      · exact .inr ⟨r, o, h1, h3, h4⟩
    · obtain ⟨r, o, h1, h2, rfl⟩ := locObs_cases hfp hk
      exact .inr ⟨r, o, h2, hd r (List.mem_of_getElem? h1), by rw [← e, Ob.loc_g]⟩
  refine ⟨⟨fun k o' hk => ?_, fun k k' o o' h1 h2 e => ?_, fun k o' hk hx => ?_⟩, hav⟩
  · obtain ⟨r, o, h1, h2, rfl⟩ := locObs_cases hfp hk
    have ho := hp.obj r o h2
    cases o with
    | row g ver sz n es =>
      obtain ⟨cs, et, h3, h4, h5, h6⟩ := ho
      refine ⟨cs, et, h3, h4, by simpa using h5, fun i e he => ?_⟩
      rw [List.getElem?_map] at he
      obtain ⟨e0, he0, rfl⟩ := Option.map_eq_some_iff.1 he
      obtain ⟨h7, h8⟩ := h6 i e0 he0
      refine ⟨by simpa using h7, fun j c hc => ?_⟩
      rw [List.getElem?_map] at hc
      obtain ⟨c0, hc0, rfl⟩ := Option.map_eq_some_iff.1 hc
      exact (h8 j c0 hc0).loc hp hfp hav
    | map g es =>
      obtain ⟨ents, clock, h3, h4, h5⟩ := ho
      refine ⟨ents, clock, h3, by simpa using h4, fun i k x hx => ?_⟩
      rw [List.getElem?_map] at hx
      obtain ⟨⟨k0, x0⟩, hx0, he⟩ := Option.map_eq_some_iff.1 hx
      obtain ⟨rfl, rfl⟩ := Prod.mk.inj he
      obtain ⟨e, g1, g2, g3⟩ := h5 i k0 x0 hx0
      exact ⟨e, g1, g2, g3.loc hp hfp hav⟩
  · obtain ⟨r, o1, g1, g2, rfl⟩ := locObs_cases hfp h1
    obtain ⟨r', o2, g3, g4, rfl⟩ := locObs_cases hfp h2
    rw [Ob.loc_g, Ob.loc_g] at e
    have := hp.nd r r' o1 o2 g2 g4 e
    subst this
    exact (List.getElem?_inj (List.getElem?_eq_some_iff.1 g1).1 hn).1 (g1.trans g3.symm)
  · obtain ⟨r, o, g1, g2, rfl⟩ := locObs_cases hfp hk
    rw [Ob.loc_g] at hx
    rcases hX _ hx with h | ⟨r', o', k1, k2, k3, k4⟩
    · exact hp.nx r o g2 h
    · have := hp.nd r r' o o' g2 k1 k4.symm
      subst this
      exact k2 (List.mem_of_getElem? g1)
end Go.VL
namespace Go.VL
set_option linter.unusedVariables false
set_option linter.unusedSimpArgs false

/-- A value that says less. -/
inductive Sub : V → V → Prop
  | refl (v : V) : Sub v v
  | undef (v : V) : Sub v .undef
  | nil (g : Nat) : Sub .nil0 (.t (.sl g []))
  | agg {l l' : List V} (hl : l.length = l'.length) (h : ∀ (i : Nat) (c c' : V), l[i]? = some c → l'[i]? = some c' → Sub c c') : Sub (.agg l) (.agg l')
  | tup {l l' : List V} (hl : l.length = l'.length) (h : ∀ (i : Nat) (c c' : V), l[i]? = some c → l'[i]? = some c' → Sub c c') : Sub (.tup l) (.tup l')
def Subs (l l' : List V) : Prop := l.length = l'.length ∧ ∀ (i : Nat) (c c' : V), l[i]? = some c → l'[i]? = some c' → Sub c c'
theorem Subs.refl (l : List V) : Subs l l := ⟨rfl, fun i c c' h h' => by rw [h] at h'; cases h'; exact .refl _⟩
theorem VR.sub {w : World} {X : Nat → Prop} {σ : List Ob} {v v' : V} (h : Sub v v') : ∀ {y : Value}, VR w X σ v y → VR w X σ v' y := by
  induction h with
  | refl v => exact fun h => h
  | undef v => exact fun _ => .undef _
  | nil g => intro y h; cases h with | nil0 a => exact .t (.nil _ _ _)
  | @agg l l' hl h ih =>
    intro y hy
    cases hy with
    | @agg _ vs hs hr =>
      refine .agg (by omega) (fun i c' hc' => ?_)
      have hlt := (List.getElem?_eq_some_iff.1 hc').1
      have hc : l[i]? = some l[i] := List.getElem?_eq_getElem (by omega)
      exact ih i _ c' hc hc' (hr i _ hc)
  | @tup l l' hl h ih =>
    intro y hy
    cases hy with
    | @tup _ vs hs hr =>
      refine .tup (by omega) (fun i c' hc' => ?_)
      have hlt := (List.getElem?_eq_some_iff.1 hc').1
      have hc : l[i]? = some l[i] := List.getElem?_eq_getElem (by omega)
      exact ih i _ c' hc hc' (hr i _ hc)

mutual
def T.ids : T → List Nat
  | .sl g es => if es.isEmpty then [] else g :: T.idsLL es
  | .int .. => []
  | .bool _ => []
  | .str _ => []
def T.idsL : List T → List Nat
  | [] => []
  | x :: l => T.ids x ++ T.idsL l
def T.idsLL : List (List T) → List Nat
  | [] => []
  | e :: l => T.idsL e ++ T.idsLL l
end
theorem T.idsL_mem {b : Nat} : ∀ {l : List T} {j : Nat} {t : T}, l[j]? = some t → b ∈ t.ids → b ∈ T.idsL l
  | [], j, t, h, _ => by simp at h
  | x :: l, j, t, h, hb => by
    rw [T.idsL, List.mem_append]
    cases j with
    | zero => simp only [List.getElem?_cons_zero, Option.some.injEq] at h; subst h; exact .inl hb
    | succ j => exact .inr (T.idsL_mem (by simpa using h) hb)
theorem T.idsLL_mem {b : Nat} : ∀ {l : List (List T)} {i : Nat} {e : List T}, l[i]? = some e → b ∈ T.idsL e → b ∈ T.idsLL l
  | [], i, e, h, _ => by simp at h
  | x :: l, i, e, h, hb => by
    rw [T.idsLL, List.mem_append]
    cases i with
    | zero => simp only [List.getElem?_cons_zero, Option.some.injEq] at h; subst h; exact .inl hb
    | succ i => exact .inr (T.idsLL_mem (by simpa using h) hb)
theorem FR.ids {w : World} {av av' : Nat → Prop} {x : T} {v : Value} (h : FR w av x v) (ha : ∀ b, av' b → av b ∨ b ∉ x.ids) : FR w av' x v := by
  induction h with
  | int => exact .int _ _
  | bool => exact .bool _
  | str => exact .str _
  | nil => exact .nil _ _ _
  | sl g es off c sz cell hc hg h1 hl hcell hr ih =>
    cases es with
    | nil => exact .nil _ _ _
    | cons e0 es =>
    have hids : (T.sl g (e0 :: es)).ids = g :: T.idsLL (e0 :: es) := by rw [T.ids]; rfl
    rw [hids] at ha
    refine .sl g (e0 :: es) off c sz cell hc hg (fun hb => ?_) hl hcell (fun i j e t he ht => ih i j e t he ht (fun b hb => ?_))
    · rcases ha g hb with h | h
      · exact h1 h
      · exact h List.mem_cons_self
    · rcases ha b hb with h | h
      · exact .inl h
      · exact .inr (fun hm => h (List.mem_cons_of_mem _ (T.idsLL_mem he (T.idsL_mem ht hm))))

mutual
def V.ids : V → List Nat
  | .t x => x.ids
  | .fn _ caps => V.idsL caps
  | .agg cs => V.idsL cs
  | .tup vs => V.idsL vs
  | .nil0 => []
  | .own .. => []
  | .ptr .. => []
  | .fz .. => []
  | .map _ => []
  | .err _ => []
  | .undef => []
  | .skip => []
def V.idsL : List V → List Nat
  | [] => []
  | v :: l => V.ids v ++ V.idsL l
end
theorem V.idsL_mem {b : Nat} : ∀ {l : List V} {j : Nat} {u : V}, l[j]? = some u → b ∈ u.ids → b ∈ V.idsL l
  | [], j, u, h, _ => by simp at h
  | x :: l, j, u, h, hb => by
    rw [V.idsL, List.mem_append]
    cases j with
    | zero => simp only [List.getElem?_cons_zero, Option.some.injEq] at h; subst h; exact .inl hb
    | succ j => exact .inr (V.idsL_mem (by simpa using h) hb)
def Ob.ids : Ob → List Nat
  | .row _ _ _ _ es => es.flatMap V.idsL
  | .map _ es => es.flatMap fun p => p.2.ids

/-- A callee's number for an object, as the caller's: fp's own, then new ones from 'n' on. -/
def bk (fp : List Nat) (n k : Nat) : Nat := match fp[k]? with | some r => r | none => n + (k - fp.length)
mutual
def V.back (fp : List Nat) (n : Nat) : V → V
  | .own r ver off len => .own (bk fp n r) ver off len
  | .ptr r ver i j => .ptr (bk fp n r) ver i j
  | .map r => .map (bk fp n r)
  | .fn f caps => .fn f (V.backs fp n caps)
  | .agg cs => .agg (V.backs fp n cs)
  | .tup vs => .tup (V.backs fp n vs)
  | .fz e j => .undef
  | .t x => .t x
  | .nil0 => .nil0
  | .err b => .err b
  | .undef => .undef
  | .skip => .skip
def V.backs (fp : List Nat) (n : Nat) : List V → List V
  | [] => []
  | v :: l => V.back fp n v :: V.backs fp n l
end
theorem V.backs_eq (fp : List Nat) (n : Nat) (l : List V) : V.backs fp n l = l.map (V.back fp n) := by
  induction l with
  | nil => rfl
  | cons v l ih => rw [V.backs, ih]; rfl
def Ob.back (fp : List Nat) (n : Nat) : Ob → Ob
  | .row g ver sz m es => .row g ver sz m (es.map (·.map (V.back fp n)))
  | .map g es => .map g (es.map fun p => (p.1, p.2.back fp n))
theorem Ob.back_g (fp : List Nat) (n : Nat) (o : Ob) : (o.back fp n).g = o.g := by cases o <;> rfl
theorem Ob.back_le (fp : List Nat) (n : Nat) (o : Ob) : o.le (o.back fp n) := by cases o <;> simp [Ob.back, Ob.le]
/-- The caller's objects behind a call. -/
def backAt (fp : List Nat) (n : Nat) (σ1 : List Ob) : Nat → List Ob → List Ob
  | _, [] => []
  | r, o :: l => (match idx fp r with | some k => ((σ1[k]?).getD default).back fp n | none => o) :: backAt fp n σ1 (r + 1) l
def backObs (σ : List Ob) (fp : List Nat) (σ1 : List Ob) : List Ob := backAt fp σ.length σ1 0 σ ++ (σ1.drop fp.length).map (Ob.back fp σ.length)
theorem backAt_nil (n : Nat) (σ1 : List Ob) : ∀ (r : Nat) (σ : List Ob), backAt [] n σ1 r σ = σ
  | _, [] => rfl
  | r, o :: l => by rw [backAt, backAt_nil n σ1 (r + 1) l]; rfl
theorem backObs_nil (σ : List Ob) : backObs σ [] [] = σ := by simp [backObs, backAt_nil]
theorem backAt_get (fp : List Nat) (n : Nat) (σ1 : List Ob) : ∀ (σ : List Ob) (r q : Nat), (backAt fp n σ1 r σ)[q]? = match σ[q]? with
    | some o => some (match idx fp (r + q) with | some k => ((σ1[k]?).getD default).back fp n | none => o)
    | none => none
  | [], r, q => by simp [backAt]
  | o :: l, r, q => by
    rw [backAt]
    cases q with
    | zero => simp
    | succ q =>
      rw [List.getElem?_cons_succ, backAt_get fp n σ1 l (r + 1) q, List.getElem?_cons_succ]
      have : r + 1 + q = r + (q + 1) := by omega
      rw [this]
theorem backAt_length (fp : List Nat) (n : Nat) (σ1 : List Ob) : ∀ (σ : List Ob) (r : Nat), (backAt fp n σ1 r σ).length = σ.length
  | [], r => rfl
  | o :: l, r => by rw [backAt, List.length_cons, backAt_length fp n σ1 l (r + 1), List.length_cons]

/-- A function of ours: it has a body, and the model runs it. -/
def callable (P : Program) (f : FuncId) : Bool := match P.funcs[f]? with | some fn => !(fn.name == "runtime.NumGoroutine") && fn.body.isSome | none => false

/-- A contract: called with such arguments and such objects, the function returns; what it gives and leaves is as R says (lo, hi: the heap's size before and behind). -/
def Ctr (W0 : World) (P : Program) (f : FuncId) (args : List V) (σ : List Ob) (R : Nat → Nat → V → List Ob → Prop) : Prop :=
  callable P f = true ∧ ∀ (w : World) (X : Nat → Prop) (vs : Array Value), XOk W0 w X σ → VRs w X σ args vs → Heap w X σ →
    Calls P f vs w fun e w' => ∃ (v : Value) (r : V) (σ' : List Ob), e = .returned v ∧ R w.heap.size w'.heap.size r σ' ∧ VR w' X σ' r v ∧ Heap w' X σ' ∧ Fr w (fun b => ∃ (r : Nat) (o : Ob), σ[r]? = some o ∧ o.g = b) w' ∧
      (∀ (r : Nat) (o : Ob), σ[r]? = some o → ∃ o' : Ob, σ'[r]? = some o' ∧ o.le o') ∧
      (∀ (r : Nat) (o : Ob), σ'[r]? = some o → (∃ (r' : Nat) (o' : Ob), σ[r']? = some o' ∧ o.g = o'.g) ∨ w.heap.size ≤ o.g)

/-- What a call asks, of what holds behind it. -/
def vcCall (W0 : World) (P : Program) (s : St) (c : Call) (tc : List Nat → Prop) (K : V → List Ob → Nat → Prop) : Prop := match c.callee with
  | .value fop => match s.eval fop with
    | .fn f caps => ∃ (fp bor : List Nat) (args : List V) (R : Nat → Nat → V → List Ob → Prop), fp.Nodup ∧ (∀ r ∈ fp, r < s.σ.length) ∧ (∀ r ∈ fp, r ∉ bor) ∧ tc fp ∧
        Subs ((c.args.toList.map s.eval ++ caps).map (V.loc s.σ fp bor)) args ∧ Ctr W0 P f args (locObs s.σ fp bor) R ∧
        ∀ lo hi r σ1, s.h ≤ lo → lo ≤ hi → R lo hi r σ1 →
          (∀ q ∈ bor, ∀ o : Ob, s.σ[q]? = some o → o.g < lo → o.g ∉ r.ids ∧ ∀ o1 ∈ σ1, o.g ∉ o1.ids) ∧ K (r.back fp s.σ.length) (backObs s.σ fp σ1) hi
    | _ => False
  | _ => False

theorem VR.back {w : World} {X X1 : Nat → Prop} {σ1 σ2 : List Ob} {fp : List Nat} {n : Nat} {v : V} {y : Value} (hv : VR w X1 σ1 v y)
    (hσ : ∀ (k : Nat) (o : Ob), σ1[k]? = some o → ∃ o' : Ob, σ2[bk fp n k]? = some o' ∧ o.le o')
    (ha : ∀ b, AV X σ2 b → AV X1 σ1 b ∨ b ∉ v.ids) : VR w X σ2 (v.back fp n) y := by
  have hlist : ∀ {cs : List V} {vs : Array Value}, (∀ (i : Nat) (c : V), cs[i]? = some c → VR w X σ2 (c.back fp n) (vs.getD i Go.undef)) → ∀ (i : Nat) (c : V), (V.backs fp n cs)[i]? = some c → VR w X σ2 c (vs.getD i Go.undef) := fun h i c hc => by
    rw [V.backs_eq, List.getElem?_map] at hc
    obtain ⟨c0, h0, rfl⟩ := Option.map_eq_some_iff.1 hc
    exact h i c0 h0
  induction hv with
  | t h => exact .t (h.ids ha)
  | nil0 a => exact .nil0 a
  | @own r ver off len g ver' sz m es v h hv h1 hp' =>
    obtain ⟨o', ho', hle⟩ := hσ r _ h
    cases o' with
    | map g es => exact hle.elim
    | row g2 v2 s2 n2 es2 =>
      refine .own ho' (Nat.le_trans hv hle.1) h1 (fun e => ?_)
      obtain ⟨rfl, rfl, rfl, e4⟩ := hle.2 (by have := hle.1; omega)
      obtain ⟨c, k1, k2, k3, k4⟩ := hp' (by have := hle.1; omega)
      exact ⟨c, k1, k2, k3, by omega⟩
  | @ptr r ver i j g ver' sz m es v h hv h1 hp' =>
    obtain ⟨o', ho', hle⟩ := hσ r _ h
    cases o' with
    | map g es => exact hle.elim
    | row g2 v2 s2 n2 es2 =>
      refine .ptr ho' (Nat.le_trans hv hle.1) h1 (fun e => ?_)
      obtain ⟨rfl, rfl, rfl, e4⟩ := hle.2 (by have := hle.1; omega)
      exact hp' (by have := hle.1; omega)
  | fz hb ha' hc hr => exact .undef _
  | @fn f caps vs hl hr ih =>
    refine .fn (by rw [V.backs_eq]; simpa using hl) (hlist (fun i c hc => ih i c hc (fun b hb => ?_)))
    rcases ha b hb with h | h
    · exact .inl h
    · exact .inr (fun hm => h (by rw [V.ids]; exact V.idsL_mem hc hm))
  | @map r g es h =>
    obtain ⟨o', ho', hle⟩ := hσ r _ h
    cases o' with
    | row g2 v2 s2 n2 es2 => exact hle.elim
    | map g2 es2 =>
      have : g2 = g := hle
      subst this
      exact .map ho'
  | errN => exact .errN
  | errS t v => exact .errS t v
  | @agg cs vs hl hr ih =>
    refine .agg (by rw [V.backs_eq]; simpa using hl) (hlist (fun i c hc => ih i c hc (fun b hb => ?_)))
    rcases ha b hb with h | h
    · exact .inl h
    · exact .inr (fun hm => h (by rw [V.ids]; exact V.idsL_mem hc hm))
  | @tup cs vs hl hr ih =>
    refine .tup (by rw [V.backs_eq]; simpa using hl) (hlist (fun i c hc => ih i c hc (fun b hb => ?_)))
    rcases ha b hb with h | h
    · exact .inl h
    · exact .inr (fun hm => h (by rw [V.ids]; exact V.idsL_mem hc hm))
  | undef v => exact .undef v
  | skip => exact .skip

theorem OR.back {w : World} {X X1 : Nat → Prop} {σ1 σ2 : List Ob} {fp : List Nat} {n : Nat} {o : Ob} (ho : OR w X1 σ1 o)
    (hσ : ∀ (k : Nat) (o : Ob), σ1[k]? = some o → ∃ o' : Ob, σ2[bk fp n k]? = some o' ∧ o.le o')
    (ha : ∀ b, AV X σ2 b → AV X1 σ1 b ∨ b ∉ o.ids) : OR w X σ2 (o.back fp n) := by
  cases o with
  | row g ver sz m es =>
    obtain ⟨cs, et, h1, h2, h3, h4⟩ := ho
    refine ⟨cs, et, h1, h2, by simpa using h3, fun i e he => ?_⟩
    rw [List.getElem?_map] at he
    obtain ⟨e0, he0, rfl⟩ := Option.map_eq_some_iff.1 he
    obtain ⟨h5, h6⟩ := h4 i e0 he0
    refine ⟨by simpa using h5, fun j c hc => ?_⟩
    rw [List.getElem?_map] at hc
    obtain ⟨c0, hc0, rfl⟩ := Option.map_eq_some_iff.1 hc
    refine (h6 j c0 hc0).back hσ (fun b hb => ?_)
    rcases ha b hb with h | h
    · exact .inl h
    · exact .inr (fun hm => h (by rw [Ob.ids, List.mem_flatMap]; exact ⟨e0, List.mem_of_getElem? he0, V.idsL_mem hc0 hm⟩))
  | map g es =>
    obtain ⟨ents, clock, h1, h2, h3⟩ := ho
    refine ⟨ents, clock, h1, by simpa using h2, fun i k x hx => ?_⟩
    rw [List.getElem?_map] at hx
    obtain ⟨⟨k0, x0⟩, hx0, he⟩ := Option.map_eq_some_iff.1 hx
    obtain ⟨rfl, rfl⟩ := Prod.mk.inj he
    obtain ⟨e, g1, g2, g3⟩ := h3 i k0 x0 hx0
    refine ⟨e, g1, g2, g3.back hσ (fun b hb => ?_)⟩
    rcases ha b hb with h | h
    · exact .inl h
    · exact .inr (fun hm => h (by rw [Ob.ids, List.mem_flatMap]; exact ⟨_, List.mem_of_getElem? hx0, hm⟩))

theorem Ob.le.trans_ {a b c : Ob} (h : a.le b) (k : b.le c) : a.le c := Ob.le_trans h k

theorem idx_get : ∀ {fp : List Nat}, fp.Nodup → ∀ {r k : Nat}, fp[k]? = some r → idx fp r = some k
  | [], _, r, k, h => by simp at h
  | x :: l, hn, r, k, h => by
    rw [List.nodup_cons] at hn
    unfold idx
    cases k with
    | zero =>
      simp only [List.getElem?_cons_zero, Option.some.injEq] at h
      rw [if_pos h]
    | succ k =>
      have h2 : l[k]? = some r := by simpa using h
      rw [if_neg (fun e : x = r => hn.1 (e ▸ List.mem_of_getElem? h2)), idx_get hn.2 h2]
theorem idx_none {fp : List Nat} {r : Nat} (hn : fp.Nodup) (h : idx fp r = none) : r ∉ fp := fun hm => by
  obtain ⟨k, hk⟩ := List.getElem?_of_mem hm
  rw [idx_get hn hk] at h
  cases h

theorem getElem?_append_cases {α : Type} {l l' : List α} {i : Nat} {x : α} (h : (l ++ l')[i]? = some x) : (i < l.length ∧ l[i]? = some x) ∨ (l.length ≤ i ∧ l'[i - l.length]? = some x) := by
  rcases Nat.lt_or_ge i l.length with hi | hi
  · rw [List.getElem?_append_left hi] at h
    exact .inl ⟨hi, h⟩
  · rw [List.getElem?_append_right hi] at h
    exact .inr ⟨hi, h⟩

/-- The caller's objects behind a call, each by where it comes from. -/
theorem backObs_cases {σ σ1 : List Ob} {fp : List Nat} (hn : fp.Nodup) (hfp : ∀ r ∈ fp, r < σ.length) (hl : fp.length ≤ σ1.length) {q : Nat} {o' : Ob} (h : (backObs σ fp σ1)[q]? = some o') :
    (q ∉ fp ∧ q < σ.length ∧ σ[q]? = some o') ∨ ∃ (k : Nat) (o : Ob), σ1[k]? = some o ∧ o' = o.back fp σ.length ∧ q = bk fp σ.length k := by
  unfold backObs at h
  rcases getElem?_append_cases h with ⟨h1, h2⟩ | ⟨h1, h2⟩
  · rw [backAt_length] at h1
    rw [backAt_get, List.getElem?_eq_getElem h1, Nat.zero_add] at h2
    simp only [Option.some.injEq] at h2
    cases hk : idx fp q with
    | none =>
      rw [hk] at h2
      simp only at h2
      exact .inl ⟨idx_none hn hk, h1, by rw [← h2]; exact List.getElem?_eq_getElem h1⟩
    | some k =>
      rw [hk] at h2
      simp only at h2
      have hkf := idx_some hk
      have hkl : k < σ1.length := Nat.lt_of_lt_of_le (List.getElem?_eq_some_iff.1 hkf).1 hl
      refine .inr ⟨k, σ1[k], List.getElem?_eq_getElem hkl, ?_, by unfold bk; rw [hkf]⟩
      rw [← h2, List.getElem?_eq_getElem hkl]
      rfl
  · rw [backAt_length] at h1 h2
    rw [List.getElem?_map, List.getElem?_drop] at h2
    obtain ⟨o, h3, h4⟩ := Option.map_eq_some_iff.1 h2
    refine .inr ⟨fp.length + (q - σ.length), o, h3, h4.symm, ?_⟩
    unfold bk
    rw [List.getElem?_eq_none (by omega)]
    simp only
    omega
theorem backObs_get {σ σ1 : List Ob} {fp : List Nat} (hn : fp.Nodup) (hfp : ∀ r ∈ fp, r < σ.length) {k : Nat} {o : Ob} (h : σ1[k]? = some o) : (backObs σ fp σ1)[bk fp σ.length k]? = some (o.back fp σ.length) := by
  unfold backObs bk
  cases hk : fp[k]? with
  | some r =>
    have hr := hfp r (List.mem_of_getElem? hk)
    simp only
    rw [List.getElem?_append_left (by rw [backAt_length]; exact hr), backAt_get, List.getElem?_eq_getElem hr, Nat.zero_add, idx_get hn hk]
    simp [h]
  | none =>
    have hkl := List.getElem?_eq_none_iff.1 hk
    simp only
    rw [List.getElem?_append_right (by rw [backAt_length]; omega), backAt_length, List.getElem?_map, List.getElem?_drop]
    have : fp.length + (σ.length + (k - fp.length) - σ.length) = k := by omega
    rw [this, h]
    rfl
theorem backObs_other {σ σ1 : List Ob} {fp : List Nat} {r : Nat} {o : Ob} (h : σ[r]? = some o) (hr : idx fp r = none) : (backObs σ fp σ1)[r]? = some o := by
  have hlt := (List.getElem?_eq_some_iff.1 h).1
  unfold backObs
  rw [List.getElem?_append_left (by rw [backAt_length]; exact hlt), backAt_get, h, Nat.zero_add, hr]

section
variable {W0 : World} {P : Program} {w0 : World} {av0 X : Nat → Prop} {N : Nat} {a : Act} {w : World} {s : St}

theorem vcCall_sound (hi : Inv w0 av0 X N a w s) (hX : ∀ b, X b → b < w.heap.size) (hB : BaseA W0 w0 av0) {o : Oper} {c : Call} (ho : o.op = .call c) {tc : List Nat → Prop} {K : V → List Ob → Nat → Prop} (h : vcCall W0 P s c tc K) {Q : Exit → Act → World → Prop} {next : Act → World → Prop}
    (hnext : ∀ (val : Value) (w' : World) (v : V) (σ' : List Ob) (h' : Nat), Inv w0 av0 X N a w' ⟨s.env, σ', h'⟩ → VR w' X σ' v val → K v σ' h' → next (a.put o.dst val) w') : o.wp P a w next Q := by
  unfold vcCall at h
  split at h
  · rename_i fop hcal
    split at h
    · rename_i f caps hf
      obtain ⟨fp, bor, args, R, hn, hfp, hd, htc, hsub, hctr, hK⟩ := h
      have hfv := hf ▸ hi.eval fop
      obtain ⟨hcall, hctr⟩ := hctr
      generalize hfe : a.eval fop = fv at hfv
      cases hfv with
      | @fn _ _ cvs hcl hcr =>
      -- the machine comes to the call
      have henter : (execOp a.eval o).run P w = .ok (.enter f (c.args.map a.eval ++ cvs)) w := by
        unfold callable at hcall
        cases hfn : P.funcs[f]? with
        | none => rw [hfn] at hcall; cases hcall
        | some fn =>
          rw [hfn] at hcall
          simp only [Bool.and_eq_true, Bool.not_eq_true'] at hcall
          obtain ⟨hc1, hc2⟩ := hcall
          have hb : fn.body.isNone = false := by cases hbb : fn.body <;> simp [hbb] at hc2 ⊢
          obtain ⟨callee, cargs, ts⟩ := c
          simp only at hcal
          subst hcal
          have hc1' : (fn.name == "runtime.NumGoroutine") = false := hc1
          simp [execOp, ho, resolve, Deferred.ofValue, hfe, invoke, callFunc, hfn, hb]
          rw [if_neg (by simpa using hc1')]
          rw [if_neg (by intro hnone; rw [hnone] at hb; cases hb)]
      unfold Oper.wp
      rw [henter, Oper.upon_enter]
      -- what the callee gets
      let X1 : Nat → Prop := fun b => X b ∨ ∃ (r : Nat) (o : Ob), s.σ[r]? = some o ∧ r ∉ fp ∧ r ∉ bor ∧ o.g = b
      obtain ⟨hheap, hav⟩ := hi.hp.loc (X' := X1) hfp hn hd (fun b hb => hb)
      have hX1 : ∀ b, X1 b → b < w.heap.size := by
        rintro b (hb | ⟨r, o, h1, _, _, h2⟩)
        · exact hX b hb
        · rw [← h2]; exact hi.hp.lt h1
      have hargs : VRs w X1 (locObs s.σ fp bor) args (c.args.map a.eval ++ cvs) := by
        obtain ⟨hl, hs⟩ := hsub
        simp only [List.length_map, List.length_append, Array.length_toList] at hl
        refine ⟨by simp only [Array.size_append, Array.size_map]; omega, fun i v' hv' => ?_⟩
        have hil := (List.getElem?_eq_some_iff.1 hv').1
        have hlt : i < (c.args.toList.map s.eval ++ caps).length := by simp; omega
        have h1 : ((c.args.toList.map s.eval ++ caps).map (V.loc s.σ fp bor))[i]? = some ((c.args.toList.map s.eval ++ caps)[i].loc s.σ fp bor) := by rw [List.getElem?_map, List.getElem?_eq_getElem hlt]; rfl
        refine (VR.loc ?_ hi.hp hfp hav).sub (hs i _ v' h1 hv')
        rw [Array.getD_eq_getD_getElem?]
        by_cases hia : i < c.args.size
        · rw [Array.getElem?_append_left (by simpa using hia), Array.getElem?_map, Array.getElem?_eq_getElem hia]
          have : (c.args.toList.map s.eval ++ caps)[i] = s.eval c.args[i] := by
            rw [List.getElem_append_left (by simpa using hia)]
            simp
          rw [this]
          exact hi.eval _
        · have hic : i - c.args.size < caps.length := by simp at hlt; omega
          rw [Array.getElem?_append_right (by simp; omega)]
          have : (c.args.toList.map s.eval ++ caps)[i] = caps[i - c.args.size] := by
            rw [List.getElem_append_right (by simp; omega)]
            simp
          rw [this]
          have := hcr (i - c.args.size) caps[i - c.args.size] (List.getElem?_eq_getElem hic)
          rw [Array.getD_eq_getD_getElem?] at this
          simpa using this
      refine (hctr w X1 _ ⟨hX1, (hi.base hB).1, fun k o hk => by obtain ⟨r, o0, _, h2, rfl⟩ := locObs_cases hfp hk; rw [Ob.loc_g]; exact (hi.base hB).2 r o0 h2⟩ hargs hheap).mono ?_
      rintro e w' ⟨v, r, σ1, rfl, hR, hrv, hhp, hfr, hsucc, hown⟩
      simp only
      obtain ⟨hclear, hKK⟩ := hK w.heap.size w'.heap.size r σ1 hi.h hfr.size hR
      have hl1 : fp.length ≤ σ1.length := by
        rcases Nat.lt_or_ge σ1.length fp.length with hlt | hge
        · obtain ⟨o0, hloc⟩ : ∃ o0, (locObs s.σ fp bor)[σ1.length]? = some o0 := ⟨_, List.getElem?_eq_getElem (by simpa [locObs] using hlt)⟩
          obtain ⟨o', ho', _⟩ := hsucc _ _ hloc
          have := (List.getElem?_eq_some_iff.1 ho').1
          omega
        · exact hge
      -- the caller's objects
      have gs1 : ∀ (k : Nat) (o : Ob), (locObs s.σ fp bor)[k]? = some o → ∃ (r : Nat) (o0 : Ob), fp[k]? = some r ∧ s.σ[r]? = some o0 ∧ o.g = o0.g := fun k o hk => by
        obtain ⟨r, o0, h1, h2, rfl⟩ := locObs_cases hfp hk
        exact ⟨r, o0, h1, h2, Ob.loc_g _ _ _ _⟩
      have hg1 : ∀ (k : Nat) (o : Ob), σ1[k]? = some o → (∃ (r : Nat) (o0 : Ob), r ∈ fp ∧ s.σ[r]? = some o0 ∧ o.g = o0.g) ∨ w.heap.size ≤ o.g := fun k o hk => by
        rcases hown k o hk with ⟨k', o', h1, h2⟩ | h1
        · obtain ⟨r, o0, h3, h4, h5⟩ := gs1 k' o' h1
          exact .inl ⟨r, o0, List.mem_of_getElem? h3, h4, h2.trans h5⟩
        · exact .inr h1
      have hσ2 : ∀ (r : Nat) (o : Ob), s.σ[r]? = some o → ∃ o' : Ob, (backObs s.σ fp σ1)[r]? = some o' ∧ o.le o' := fun r o hr => by
        cases hk : idx fp r with
        | none => exact ⟨o, backObs_other hr hk, o.le_refl⟩
        | some k =>
          have hkf := idx_some hk
          obtain ⟨o', h1, h2⟩ := hsucc k _ (locObs_get hkf hr)
          refine ⟨o'.back fp s.σ.length, ?_, (o.loc_le _ _ _).trans_ (h2.trans_ (o'.back_le _ _))⟩
          have := backObs_get hn hfp h1 (σ := s.σ)
          unfold bk at this
          rw [hkf] at this
          exact this
      have hg2 : ∀ (q : Nat) (o' : Ob), (backObs s.σ fp σ1)[q]? = some o' → (∃ (r' : Nat) (o : Ob), s.σ[r']? = some o ∧ o'.g = o.g) ∨ w.heap.size ≤ o'.g := fun q o' hq => by
        rcases backObs_cases hn hfp hl1 hq with ⟨_, _, h2⟩ | ⟨k, o, h1, rfl, _⟩
        · exact .inl ⟨q, o', h2, rfl⟩
        · rw [Ob.back_g]
          rcases hg1 k o h1 with ⟨r, o0, _, h3, h4⟩ | h3
          · exact .inl ⟨r, o0, h3, h4⟩
          · exact .inr h3
      have hbl : ∀ b, b < w.heap.size → (∀ (r : Nat) (o : Ob), s.σ[r]? = some o → o.g ≠ b) → w'.heap[b]? = w.heap[b]? := fun b hb hno => hfr.block b hb (by
        rintro ⟨k, o, h1, h2⟩
        obtain ⟨r, o0, _, h4, h5⟩ := gs1 k o h1
        exact hno r o0 h4 (by omega))
      have hav2 : ∀ b, ¬ AV X s.σ b → b < w.heap.size → ¬ AV X (backObs s.σ fp σ1) b := by
        rintro b hb hlt (hx | ⟨q, o', hq, e⟩)
        · exact hb (.inl hx)
        · rcases hg2 q o' hq with ⟨r', o, h1, h2⟩ | h1
          · exact hb (.inr ⟨r', o, h1, by omega⟩)
          · omega
      have hids : ∀ (l : List Nat), (∀ q ∈ bor, ∀ o : Ob, s.σ[q]? = some o → o.g ∉ l) → ∀ b, AV X (backObs s.σ fp σ1) b → AV X1 σ1 b ∨ b ∉ l := by
        rintro l hl b (hx | ⟨q, o', hq, e⟩)
        · exact .inl (.inl (.inl hx))
        · rcases backObs_cases hn hfp hl1 hq with ⟨h1, _, h2⟩ | ⟨k, o, h1, rfl, _⟩
          · by_cases hqb : q ∈ bor
            · exact .inr (e ▸ hl q hqb o' h2)
            · exact .inl (.inl (.inr ⟨q, o', h2, h1, hqb, e⟩))
          · exact .inl (.inr ⟨k, o, h1, by rw [← e, Ob.back_g]⟩)
      have hback : ∀ (k : Nat) (o : Ob), σ1[k]? = some o → ∃ o' : Ob, (backObs s.σ fp σ1)[bk fp s.σ.length k]? = some o' ∧ o.le o' := fun k o hk => ⟨_, backObs_get hn hfp hk, o.back_le _ _⟩
      have hheap2 : Heap w' X (backObs s.σ fp σ1) := by
        refine ⟨fun q o' hq => ?_, fun q q' o o' h1 h2 e => ?_, fun q o' hq hx => ?_⟩
        · rcases backObs_cases hn hfp hl1 hq with ⟨h1, _, h2⟩ | ⟨k, o, h1, rfl, _⟩
          · have hsame : w'.heap[o'.g]? = w.heap[o'.g]? := hfr.block _ (hi.hp.lt h2) (by
              rintro ⟨k, o, k1, k2⟩
              obtain ⟨r, o0, k3, k4, k5⟩ := gs1 k o k1
              have := hi.hp.nd r q o0 o' k4 h2 (by omega)
              subst this
              exact h1 (List.mem_of_getElem? k3))
            have := (hi.hp.obj q o' h2).mono (w' := w') (X' := X) (σ' := backObs s.σ fp σ1) some hfr.size hsame (fun r o hr r' e => by cases e; exact hσ2 r o hr)
              (fun b hb1 hb2 => hbl b hb2 (fun r o hr e => hb1 (.inr ⟨r, o, hr, e⟩))) hav2
            rwa [Ob.ren_id] at this
          · exact (hhp.obj k o h1).back hback (hids o.ids (fun q hq o0 ho0 => (hclear q hq o0 ho0 (hi.hp.lt ho0)).2 o (List.mem_of_getElem? h1)))
        · rcases backObs_cases hn hfp hl1 h1 with ⟨k1, _, k2⟩ | ⟨k, o1, k3, rfl, k4⟩ <;> rcases backObs_cases hn hfp hl1 h2 with ⟨m1, _, m2⟩ | ⟨k', o2, m3, rfl, m4⟩
          · exact hi.hp.nd q q' o o' k2 m2 e
          · rw [Ob.back_g] at e
            rcases hg1 k' o2 m3 with ⟨r, o0, n1, n2, n3⟩ | n1
            · have := hi.hp.nd q r o o0 k2 n2 (by omega)
              subst this
              exact absurd n1 k1
            · have := hi.hp.lt k2
              omega
          · rw [Ob.back_g] at e
            rcases hg1 k o1 k3 with ⟨r, o0, n1, n2, n3⟩ | n1
            · have := hi.hp.nd q' r o' o0 m2 n2 (by omega)
              subst this
              exact absurd n1 m1
            · have := hi.hp.lt m2
              omega
          · rw [Ob.back_g, Ob.back_g] at e
            rw [k4, m4, hhp.nd k k' o1 o2 k3 m3 e]
        · rcases backObs_cases hn hfp hl1 hq with ⟨h1, _, h2⟩ | ⟨k, o, h1, rfl, _⟩
          · exact hi.hp.nx q o' h2 hx
          · rw [Ob.back_g] at hx
            exact hhp.nx k o h1 (.inl hx)
      have hinv := hi.step (w' := w') (σ' := backObs s.σ fp σ1) (h' := w'.heap.size) hfr.size hfr.os hfr.tape hfr.output hbl hσ2 hg2 hheap2 (Nat.le_refl _) (Nat.le_trans hi.h hfr.size)
      exact hnext v w' _ _ _ hinv (hrv.back hback (hids r.ids (fun q hq o0 ho0 => (hclear q hq o0 ho0 (hi.hp.lt ho0)).1))) hKK
    · exact h.elim
  · exact h.elim
end
end Go.VL
