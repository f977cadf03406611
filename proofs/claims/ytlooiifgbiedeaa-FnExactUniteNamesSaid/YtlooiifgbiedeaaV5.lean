/- VL, part 5: operations that make or write memory. -/
import Derived.Test.YtlooiifgbiedeaaV4
import Derived.Deep.AppendSrc
import Derived.Room.Entries
import Derived.Laws.MakeOwn
namespace Go.VL
set_option linter.unusedVariables false
set_option linter.unusedSimpArgs false

theorem Inv.step {w0 : World} {av0 X : Nat → Prop} {N : Nat} {a : Act} {w w' : World} {s : St} {σ' : List Ob} {h' : Nat} (hi : Inv w0 av0 X N a w s)
    (hs : w.heap.size ≤ w'.heap.size) (ho : w'.os = w.os) (ht : w'.tape = w.tape) (hu : w'.output = w.output)
    (hb : ∀ b, b < w.heap.size → (∀ (r : Nat) (o : Ob), s.σ[r]? = some o → o.g ≠ b) → w'.heap[b]? = w.heap[b]?)
    (hσ : ∀ (r : Nat) (o : Ob), s.σ[r]? = some o → ∃ o' : Ob, σ'[r]? = some o' ∧ o.le o')
    (hg : ∀ (r : Nat) (o' : Ob), σ'[r]? = some o' → (∃ (r' : Nat) (o : Ob), s.σ[r']? = some o ∧ o'.g = o.g) ∨ w.heap.size ≤ o'.g)
    (hp : Heap w' X σ') (hh : h' ≤ w'.heap.size) (hh0 : s.h ≤ h') : Inv w0 av0 X N a w' ⟨s.env, σ', h'⟩ := by
  refine ⟨hp, fun t => ?_, hh, Nat.le_trans hi.h0 hh0, ⟨ho.trans hi.fr.os, ht.trans hi.fr.tape, hu.trans hi.fr.output, Nat.le_trans hi.fr.size hs, fun b hlt hav => ?_⟩, fun r o' ho' => ?_, hi.defers, hi.sz⟩
  · have := (hi.env t).mono (X' := X) (σ' := σ') (w' := w') some hs (fun r o hr r' e => by cases e; exact hσ r o hr) (fun b hb1 hb2 => hb b hb2 (fun r o hr e => hb1 (.inr ⟨r, o, hr, e⟩)))
      (fun b hb1 hb2 => ?_)
    · rwa [V.ren_id] at this
    · rintro (hx | ⟨r, o', hr, e⟩)
      · exact hb1 (.inl hx)
      · rcases hg r o' hr with ⟨r', o, hr', e'⟩ | hge
        · exact hb1 (.inr ⟨r', o, hr', by omega⟩)
        · omega
  · rw [hb b (Nat.lt_of_lt_of_le hlt hi.fr.size) (fun r o hr e => ?_)]
    · exact hi.fr.block b hlt hav
    · rcases hi.own r o hr with h1 | h1
      · exact hav (e ▸ h1)
      · omega
  · rcases hg r o' ho' with ⟨r', o, hr', e'⟩ | hge
    · rw [e']
      exact hi.own r' o hr'
    · exact .inr (Nat.le_trans hi.fr.size hge)

theorem Inv.put {w0 : World} {av0 X : Nat → Prop} {N : Nat} {a : Act} {w : World} {s : St} (hi : Inv w0 av0 X N a w s) {d : Option Tmp} {v : V} {x : Value} (hd : ∀ t, d = some t → t < N) (hv : VR w X s.σ v x) :
    Inv w0 av0 X N (a.put d x) w (s.put d v) := by
  cases d with
  | none => exact hi
  | some d =>
    refine ⟨hi.hp, fun t => ?_, hi.h, hi.h0, hi.fr, hi.own, hi.defers, by simp [Act.put, hi.sz]⟩
    simp only [St.put, Act.put, upd]
    have hlt : d < a.tmps.size := by rw [hi.sz]; exact hd d rfl
    by_cases ht : t = d
    · subst ht
      rw [if_pos rfl, Array.getD_eq_getD_getElem?, Array.getElem?_setIfInBounds_self_of_lt hlt]
      exact hv
    · rw [if_neg ht, Array.getD_eq_getD_getElem?, Array.getElem?_setIfInBounds_ne (Ne.symm ht), ← Array.getD_eq_getD_getElem?]
      exact hi.env t

/-- A new block of cells: a new object. -/
theorem Inv.alloc {w0 : World} {av0 X : Nat → Prop} {N : Nat} {a : Act} {w : World} {s : St} (hi : Inv w0 av0 X N a w s) (hX : ∀ b, X b → b < w.heap.size) {cs : Array Value} {et : TypeId} {ver sz : Nat} {es : List (List V)}
    (hle : es.length * sz ≤ cs.size) (hc : ∀ (i : Nat) (e : List V), es[i]? = some e → e.length = sz ∧ ∀ (j : Nat) (c : V), e[j]? = some c → VR w X s.σ c (cs.getD (i * sz + j) Go.undef)) :
    Inv w0 av0 X N a (w.alloc (.cells cs et)) ⟨s.env, s.σ ++ [.row w.heap.size ver sz cs.size es], w.heap.size + 1⟩ := by
  have hold : ∀ b, b < w.heap.size → (w.alloc (.cells cs et)).heap[b]? = w.heap[b]? := fun b hb => Go.RowKit.Below.heap_alloc w _ b hb
  have hnew : (w.alloc (.cells cs et)).heap[w.heap.size]? = some (.cells cs et (0, 0)) := by
    show (w.heap.push _)[w.heap.size]? = _
    simp
  have hσ : ∀ (r : Nat) (o : Ob), s.σ[r]? = some o → ∃ o' : Ob, (s.σ ++ [.row w.heap.size ver sz cs.size es])[r]? = some o' ∧ o.le o' := fun r o hr =>
    ⟨o, by rw [List.getElem?_append_left (List.getElem?_eq_some_iff.1 hr).1]; exact hr, o.le_refl⟩
  have hav : ∀ b, ¬ AV X s.σ b → b < w.heap.size → ¬ AV X (s.σ ++ [.row w.heap.size ver sz cs.size es]) b := by
    rintro b hb hlt (hx | ⟨r, o', hr, e⟩)
    · exact hb (.inl hx)
    · rcases Nat.lt_or_ge r s.σ.length with h1 | h1
      · rw [List.getElem?_append_left h1] at hr
        exact hb (.inr ⟨r, o', hr, e⟩)
      · rw [List.getElem?_append_right h1] at hr
        have : o' = .row w.heap.size ver sz cs.size es := by
          cases hk : r - s.σ.length with
          | zero => rw [hk] at hr; simpa using hr.symm
          | succ k => rw [hk] at hr; simp at hr
        subst this
        simp only [Ob.g] at e
        omega
  have hcase : ∀ (r : Nat) (o' : Ob), (s.σ ++ [.row w.heap.size ver sz cs.size es])[r]? = some o' → s.σ[r]? = some o' ∨ (r = s.σ.length ∧ o' = .row w.heap.size ver sz cs.size es) := fun r o' hr => by
    rcases Nat.lt_or_ge r s.σ.length with h1 | h1
    · rw [List.getElem?_append_left h1] at hr
      exact .inl hr
    · rw [List.getElem?_append_right h1] at hr
      cases hk : r - s.σ.length with
      | zero => rw [hk] at hr; exact .inr ⟨by omega, by simpa using hr.symm⟩
      | succ k => rw [hk] at hr; simp at hr
  refine hi.step (by simp) rfl rfl rfl (fun b hb _ => hold b hb) hσ (fun r o' hr => ?_) ⟨fun r o' hr => ?_, fun r r' o o' h1 h2 e => ?_, fun r o' hr => ?_⟩ (by simp) (by have := hi.h; omega)
  · rcases hcase r o' hr with h1 | ⟨_, rfl⟩
    · exact .inl ⟨r, o', h1, rfl⟩
    · exact .inr (by simp [Ob.g])
  · rcases hcase r o' hr with h1 | ⟨_, rfl⟩
    · have := (hi.hp.obj r o' h1).mono (w' := w.alloc (.cells cs et)) (X' := X) (σ' := s.σ ++ [.row w.heap.size ver sz cs.size es]) some (by simp) (hold _ (hi.hp.lt h1)) (fun r o hr r' e => by cases e; exact hσ r o hr) (fun b _ hb => hold b hb) hav
      rwa [Ob.ren_id] at this
    · refine ⟨cs, et, hnew, rfl, hle, fun i e he => ?_⟩
      obtain ⟨h2, h3⟩ := hc i e he
      refine ⟨h2, fun j c hj => ?_⟩
      have := (h3 j c hj).mono (w' := w.alloc (.cells cs et)) (X' := X) (σ' := s.σ ++ [.row w.heap.size ver sz cs.size es]) some (by simp) (fun r o hr r' e => by cases e; exact hσ r o hr) (fun b _ hb => hold b hb) hav
      rwa [V.ren_id] at this
  · rcases hcase r o h1 with k1 | ⟨rfl, rfl⟩ <;> rcases hcase r' o' h2 with k2 | ⟨rfl, rfl⟩
    · exact hi.hp.nd r r' o o' k1 k2 e
    · have := hi.hp.lt k1
      simp only [Ob.g] at e this
      omega
    · have := hi.hp.lt k2
      simp only [Ob.g] at e this
      omega
    · rfl
  · rcases hcase r o' hr with h1 | ⟨_, rfl⟩
    · exact hi.hp.nx r o' h1
    · intro hx
      have := hX _ hx
      simp [Ob.g] at this

theorem setCells_spec (g : Nat) : ∀ (vs : List Value) (o : Nat) (w : World) (cs : Array Value) (et : TypeId) (fr : Nat × Nat), w.heap[g]? = some (.cells cs et fr) →
    ∃ cs' : Array Value, (w.setCells g o vs).heap[g]? = some (.cells cs' et fr) ∧ cs'.size = cs.size ∧ (∀ k, cs'[k]? = if o ≤ k ∧ k < o + vs.length ∧ k < cs.size then vs[k - o]? else cs[k]?) ∧
      (w.setCells g o vs).heap.size = w.heap.size ∧ (∀ b, b ≠ g → (w.setCells g o vs).heap[b]? = w.heap[b]?) ∧ (w.setCells g o vs).os = w.os ∧ (w.setCells g o vs).tape = w.tape ∧ (w.setCells g o vs).output = w.output
  | [], o, w, cs, et, fr, h => ⟨cs, h, rfl, fun k => by rw [if_neg (by simp; omega)], rfl, fun _ _ => rfl, rfl, rfl, rfl⟩
  | v :: vs, o, w, cs, et, fr, h => by
    have h1 : (w.setCell ⟨g, o, none⟩ v).heap[g]? = some (.cells (cs.setIfInBounds o v) et fr) := by
      simp [World.setCell, Array.getElem?_modify, h]
    obtain ⟨cs', h2, h3, h4, h5, h6, h7, h8, h9⟩ := setCells_spec g vs (o + 1) _ _ et fr h1
    refine ⟨cs', h2, by rw [h3]; simp, fun k => ?_, by rw [World.setCells, h5]; simp, fun b hb => by rw [World.setCells, h6 b hb]; simp [World.setCell, Array.getElem?_modify, Ne.symm hb], h7, h8, h9⟩
    rw [h4 k]
    simp only [Array.size_setIfInBounds, List.length_cons]
    by_cases hk : o = k
    · subst hk
      rw [if_neg (by omega)]
      by_cases hs : o < cs.size
      · rw [if_pos ⟨by omega, by omega, hs⟩]
        simp [hs]
      · rw [if_neg (by omega)]
        simp [hs]
    · by_cases h10 : o + 1 ≤ k ∧ k < o + 1 + vs.length ∧ k < cs.size
      · rw [if_pos h10, if_pos ⟨by omega, by omega, h10.2.2⟩]
        have : k - o = k - (o + 1) + 1 := by omega
        rw [this, List.getElem?_cons_succ]
      · rw [if_neg h10, if_neg (by omega), Array.getElem?_setIfInBounds_ne hk]

/-- An object of one's own is written in place. -/
theorem Inv.write {w0 : World} {av0 X : Nat → Prop} {N : Nat} {a : Act} {w w' : World} {s : St} (hi : Inv w0 av0 X N a w s) {r g ver sz n ver' : Nat} {es es' : List (List V)} (hr : s.σ[r]? = some (.row g ver sz n es))
    {cs' : Array Value} {et : TypeId} (hw : w'.heap[g]? = some (.cells cs' et (0, 0))) (hn : cs'.size = n) (hs : w'.heap.size = w.heap.size) (hb : ∀ b, b ≠ g → w'.heap[b]? = w.heap[b]?) (ho : w'.os = w.os) (ht : w'.tape = w.tape) (hu : w'.output = w.output)
    (hv : ver ≤ ver' ∧ (ver = ver' → es'.length = es.length)) (hle : es'.length * sz ≤ n)
    (hc : ∀ (i : Nat) (e : List V), es'[i]? = some e → e.length = sz ∧ ∀ (j : Nat) (c : V), e[j]? = some c → VR w X s.σ c (cs'.getD (i * sz + j) Go.undef)) :
    Inv w0 av0 X N a w' ⟨s.env, s.σ.set r (.row g ver' sz n es'), s.h⟩ := by
  have hlt := (List.getElem?_eq_some_iff.1 hr).1
  have hcase : ∀ (q : Nat) (o' : Ob), (s.σ.set r (.row g ver' sz n es'))[q]? = some o' → (q ≠ r ∧ s.σ[q]? = some o') ∨ (q = r ∧ o' = .row g ver' sz n es') := fun q o' hq => by
    by_cases h1 : q = r
    · subst h1
      rw [List.getElem?_set_self hlt] at hq
      exact .inr ⟨rfl, by simpa using hq.symm⟩
    · rw [List.getElem?_set_ne (Ne.symm h1)] at hq
      exact .inl ⟨h1, hq⟩
  have hσ : ∀ (q : Nat) (o : Ob), s.σ[q]? = some o → ∃ o' : Ob, (s.σ.set r (.row g ver' sz n es'))[q]? = some o' ∧ o.le o' := fun q o hq => by
    by_cases h1 : q = r
    · subst h1
      rw [hr] at hq
      simp only [Option.some.injEq] at hq
      subst hq
      exact ⟨_, List.getElem?_set_self hlt, hv.1, fun e => ⟨rfl, rfl, rfl, hv.2 e⟩⟩
    · exact ⟨o, by rw [List.getElem?_set_ne (Ne.symm h1)]; exact hq, o.le_refl⟩
  have hav : ∀ b, ¬ AV X s.σ b → b < w.heap.size → ¬ AV X (s.σ.set r (.row g ver' sz n es')) b := by
    rintro b hb hlt' (hx | ⟨q, o', hq, e⟩)
    · exact hb (.inl hx)
    · rcases hcase q o' hq with ⟨_, h2⟩ | ⟨_, rfl⟩
      · exact hb (.inr ⟨q, o', h2, e⟩)
      · exact hb (.inr ⟨r, _, hr, e⟩)
  have hbl : ∀ b, ¬ AV X s.σ b → b < w.heap.size → w'.heap[b]? = w.heap[b]? := fun b h1 _ => hb b (fun e => h1 (.inr ⟨r, _, hr, e.symm⟩))
  refine hi.step (by omega) ho ht hu (fun b _ h2 => hb b (fun e => h2 r _ hr e.symm)) hσ (fun q o' hq => ?_) ⟨fun q o' hq => ?_, fun q q' o o' h1 h2 e => ?_, fun q o' hq => ?_⟩ (by rw [hs]; exact hi.h) (Nat.le_refl _)
  · rcases hcase q o' hq with ⟨_, h2⟩ | ⟨_, rfl⟩
    · exact .inl ⟨q, o', h2, rfl⟩
    · exact .inl ⟨r, _, hr, rfl⟩
  · rcases hcase q o' hq with ⟨h1, h2⟩ | ⟨_, rfl⟩
    · have hne : o'.g ≠ g := fun e => h1 (hi.hp.nd q r o' _ h2 hr e)
      have := (hi.hp.obj q o' h2).mono (w' := w') (X' := X) (σ' := s.σ.set r (.row g ver' sz n es')) some (by omega) (hb _ hne) (fun r o hr r' e => by cases e; exact hσ r o hr) hbl hav
      rwa [Ob.ren_id] at this
    · refine ⟨cs', et, hw, hn, hle, fun i e he => ?_⟩
      obtain ⟨h2, h3⟩ := hc i e he
      refine ⟨h2, fun j c hj => ?_⟩
      have := (h3 j c hj).mono (w' := w') (X' := X) (σ' := s.σ.set r (.row g ver' sz n es')) some (by omega) (fun r o hr r' e => by cases e; exact hσ r o hr) hbl hav
      rwa [V.ren_id] at this
  · rcases hcase q o h1 with ⟨k1, k2⟩ | ⟨rfl, rfl⟩ <;> rcases hcase q' o' h2 with ⟨k3, k4⟩ | ⟨rfl, rfl⟩
    · exact hi.hp.nd q q' o o' k2 k4 e
    · exact absurd (hi.hp.nd q q' o _ k2 hr e) k1
    · exact absurd (hi.hp.nd q' q o' _ k4 hr e.symm) k3
    · rfl
  · rcases hcase q o' hq with ⟨_, h2⟩ | ⟨_, rfl⟩
    · exact hi.hp.nx q o' h2
    · have h3 := hi.hp.nx r _ hr
      exact h3
end Go.VL
