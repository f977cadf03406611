/- VL, part 7: taking some of one's own objects along (to a callee, to a caller, round a loop), freezing others, forgetting the rest; contracts of functions. -/
import Derived.Test.YtlooiifgbiedeaaV6
namespace Go.VL
set_option linter.unusedVariables false
set_option linter.unusedSimpArgs false

/-- Rows of one's own as frozen data: those of 'bor', nested at most so deep. -/
def frz (σ : List Ob) (bor : List Nat) : Nat → V → Option T
  | _, .t x => some x
  | _, .nil0 => some (.sl 0 [])
  | n + 1, .own r ver off len => if r ∈ bor then match σ[r]? with
      | some (.row g v _ _ es) => if ver = v then match ((es.drop off).take len).mapM (fun e => e.mapM (frz σ bor n)) with
          | some ts => some (.sl g ts)
          | none => none
        else none
      | _ => none
    else none
  | _, _ => none

def idx : List Nat → Nat → Option Nat
  | [], _ => none
  | x :: l, r => if x = r then some 0 else match idx l r with | some k => some (k + 1) | none => none
theorem idx_some : ∀ {fp : List Nat} {r k : Nat}, idx fp r = some k → fp[k]? = some r
  | [], r, k, h => by cases h
  | x :: l, r, k, h => by
    unfold idx at h
    split at h
    · rename_i hx
      simp only [Option.some.injEq] at h
      subst h
      simp [hx]
    · split at h
      · rename_i k' hk
        simp only [Option.some.injEq] at h
        subst h
        simpa using idx_some hk
      · cases h

mutual
/-- A value, of one's own objects with those of 'fp' alone (under new numbers), those of 'bor' frozen. -/
def V.loc (σ : List Ob) (fp bor : List Nat) : V → V
  | .own r ver off len => match idx fp r with
    | some k => .own k ver off len
    | none => match frz σ bor (σ.length + 1) (.own r ver off len) with | some x => .t x | none => .undef
  | .ptr r ver i j => match idx fp r with | some k => .ptr k ver i j | none => .undef
  | .map r => match idx fp r with | some k => .map k | none => .undef
  | .fn f caps => .fn f (V.locs σ fp bor caps)
  | .agg cs => .agg (V.locs σ fp bor cs)
  | .tup vs => .tup (V.locs σ fp bor vs)
  | .t x => .t x
  | .nil0 => .nil0
  | .fz e j => .fz e j
  | .err b => .err b
  | .undef => .undef
  | .skip => .skip
def V.locs (σ : List Ob) (fp bor : List Nat) : List V → List V
  | [] => []
  | v :: l => V.loc σ fp bor v :: V.locs σ fp bor l
end
theorem V.locs_eq (σ : List Ob) (fp bor : List Nat) (l : List V) : V.locs σ fp bor l = l.map (V.loc σ fp bor) := by
  induction l with
  | nil => rfl
  | cons v l ih => rw [V.locs, ih]; rfl

def Ob.loc (σ : List Ob) (fp bor : List Nat) : Ob → Ob
  | .row g ver sz n es => .row g ver sz n (es.map (·.map (V.loc σ fp bor)))
  | .map g es => .map g (es.map fun p => (p.1, p.2.loc σ fp bor))
theorem Ob.loc_g (σ : List Ob) (fp bor : List Nat) (o : Ob) : (o.loc σ fp bor).g = o.g := by cases o <;> rfl
theorem Ob.loc_le (σ : List Ob) (fp bor : List Nat) (o : Ob) : o.le (o.loc σ fp bor) := by cases o <;> simp [Ob.loc, Ob.le]
/-- The objects that are taken along. -/
def locObs (σ : List Ob) (fp bor : List Nat) : List Ob := fp.map fun r => ((σ[r]?).getD default).loc σ fp bor
theorem locObs_get {σ : List Ob} {fp bor : List Nat} {k r : Nat} {o : Ob} (h : fp[k]? = some r) (ho : σ[r]? = some o) : (locObs σ fp bor)[k]? = some (o.loc σ fp bor) := by
  simp [locObs, h, ho]

theorem mapM_get {α β : Type} {f : α → Option β} : ∀ {l : List α} {l' : List β}, l.mapM f = some l' → l'.length = l.length ∧ ∀ (i : Nat) (y : β), l'[i]? = some y → ∃ x, l[i]? = some x ∧ f x = some y
  | [], l', h => by
    simp only [List.mapM_nil, Option.pure_def, Option.some.injEq] at h
    subst h
    exact ⟨rfl, fun i y hy => by simp at hy⟩
  | x :: l, l', h => by
    rw [List.mapM_cons] at h
    simp only [Option.bind_eq_bind, Option.bind_eq_some_iff, Option.pure_def, Option.some.injEq] at h
    obtain ⟨y, hy, l2, hl2, rfl⟩ := h
    obtain ⟨h1, h2⟩ := mapM_get hl2
    refine ⟨by simp [h1], fun i z hz => ?_⟩
    cases i with
    | zero =>
      simp only [List.getElem?_cons_zero, Option.some.injEq] at hz
      subst hz
      exact ⟨x, rfl, hy⟩
    | succ i => 
      obtain ⟨x', h3, h4⟩ := h2 i z (by simpa using hz)
      exact ⟨x', by simpa using h3, h4⟩

/-- Frozen rows are read as before, by whoever keeps clear of fewer blocks. -/
theorem frz_sound {w : World} {X X' : Nat → Prop} {σ σ' : List Ob} {bor : List Nat} (hp : Heap w X σ)
    (hav : ∀ b, AV X' σ' b → X b ∨ ∃ (r : Nat) (o : Ob), σ[r]? = some o ∧ r ∉ bor ∧ o.g = b) : ∀ (n : Nat) (v : V) (x : T) (y : Value), frz σ bor n v = some x → VR w X σ v y → FR w (AV X' σ') x y := by
  have hav2 : ∀ b, ¬ AV X σ b → b < w.heap.size → ¬ AV X' σ' b := fun b hb _ h => by
    rcases hav b h with h | ⟨r, o, h1, _, h2⟩
    · exact hb (.inl h)
    · exact hb (.inr ⟨r, o, h1, h2⟩)
  intro n
  induction n with
  | zero =>
    intro v x y h hv
    unfold frz at h
    split at h
    · simp only [Option.some.injEq] at h
      subst h
      cases hv with
      | t hv => exact hv.mono (Nat.le_refl _) (fun _ _ _ => rfl) hav2
    · simp only [Option.some.injEq] at h
      subst h
      cases hv with
      | nil0 a => exact .nil _ _ _
    · omega
    · cases h
  | succ n ih =>
    intro v x y h hv
    unfold frz at h
    split at h
    · simp only [Option.some.injEq] at h
      subst h
      cases hv with
      | t hv => exact hv.mono (Nat.le_refl _) (fun _ _ _ => rfl) hav2
    · simp only [Option.some.injEq] at h
      subst h
      cases hv with
      | nil0 a => exact .nil _ _ _
    · rename_i m r ver off len heq
      have hmn : m = n := by omega
      subst hmn
      split at h
      · rename_i hb
        split at h
        · rename_i g v' sz' n' es hσ
          split at h
          · rename_i hver
            subst hver
            split at h
            · rename_i ts hts
              simp only [Option.some.injEq] at h
              subst h
              cases hv with
              | @own _ _ _ _ g2 v2 sz2 n2 es2 _ h2 hv2 h1c hp2 =>
              rw [hσ] at h2
              simp only [Option.some.injEq, Ob.row.injEq] at h2
              obtain ⟨rfl, rfl, rfl, rfl, rfl⟩ := h2
              obtain ⟨c, rfl, hc1, hc2, hc3⟩ := hp2 rfl
              obtain ⟨cs, et, h3, h4, h5, h6⟩ := hp.obj r _ hσ
              obtain ⟨t1, t2⟩ := mapM_get hts
              have hlen : ts.length = len := by rw [t1]; simp; omega
              rw [← hlen]
              refine .sl g ts (off * sz') c sz' (fun i j => cs.getD ((off + i) * sz' + j) Go.undef) (by omega) (Array.getElem?_eq_some_iff.1 h3).1 (fun hbad => ?_) (fun i e he => ?_) (fun i j e t he ht => ?_) (fun i j e t he ht => ?_)
              · rcases hav g hbad with hx | ⟨r', o, k1, k2, k3⟩
                · exact hp.nx r _ hσ hx
                · exact k2 (by rw [hp.nd r' r o _ k1 hσ k3]; exact hb)
              · obtain ⟨e0, k1, k2⟩ := t2 i e he
                rw [List.getElem?_take] at k1
                split at k1
                · rw [List.getElem?_drop] at k1
                  rw [(mapM_get k2).1]
                  exact (h6 _ e0 k1).1
                · cases k1
              · obtain ⟨e0, k1, k2⟩ := t2 i e he
                rw [List.getElem?_take] at k1
                split at k1
                · rw [List.getElem?_drop] at k1
                  have hjl := (List.getElem?_eq_some_iff.1 ht).1
                  rw [(mapM_get k2).1, (h6 _ e0 k1).1] at hjl
                  have hil2 := (List.getElem?_eq_some_iff.1 k1).1
                  have hcs : (off + i) * sz' + sz' ≤ cs.size := by rw [h4]; refine Nat.le_trans ?_ h5; rw [← Nat.succ_mul]; exact Nat.mul_le_mul_right _ hil2
                  rw [cell_of_cells h3]
                  have e1 : off * sz' + i * sz' + j = (off + i) * sz' + j := by rw [Nat.add_mul]
                  have e2 : (off + i) * sz' + j < cs.size := by omega
                  rw [e1]
                  simp [e2]
                · cases k1
              · obtain ⟨e0, k1, k2⟩ := t2 i e he
                rw [List.getElem?_take] at k1
                split at k1
                · rw [List.getElem?_drop] at k1
                  obtain ⟨c0, k3, k4⟩ := (mapM_get k2).2 j t ht
                  exact ih c0 t _ k4 ((h6 _ e0 k1).2 j c0 k3)
                · cases k1
            · cases h
          · cases h
        · cases h
      · cases h
    · cases h

theorem VR.loc {w : World} {X X' : Nat → Prop} {σ : List Ob} {fp bor : List Nat} {v : V} {y : Value} (hv : VR w X σ v y) (hp : Heap w X σ) (hfp : ∀ r ∈ fp, r < σ.length)
    (hav : ∀ b, AV X' (locObs σ fp bor) b → X b ∨ ∃ (r : Nat) (o : Ob), σ[r]? = some o ∧ r ∉ bor ∧ o.g = b) : VR w X' (locObs σ fp bor) (v.loc σ fp bor) y := by
  have hav2 : ∀ b, ¬ AV X σ b → b < w.heap.size → ¬ AV X' (locObs σ fp bor) b := fun b hb _ h => by
    rcases hav b h with h | ⟨r, o, h1, _, h2⟩
    · exact hb (.inl h)
    · exact hb (.inr ⟨r, o, h1, h2⟩)
  have hlist : ∀ {cs : List V} {vs : Array Value}, (∀ (i : Nat) (c : V), cs[i]? = some c → VR w X' (locObs σ fp bor) (c.loc σ fp bor) (vs.getD i Go.undef)) → ∀ (i : Nat) (c : V), (V.locs σ fp bor cs)[i]? = some c → VR w X' (locObs σ fp bor) c (vs.getD i Go.undef) := fun h i c hc => by
    rw [V.locs_eq, List.getElem?_map] at hc
    obtain ⟨c0, h0, rfl⟩ := Option.map_eq_some_iff.1 hc
    exact h i c0 h0
  induction hv with
  | t h => exact .t (h.mono (Nat.le_refl _) (fun _ _ _ => rfl) hav2)
  | nil0 a => exact .nil0 a
  | @own r ver off len g ver' sz n es v h hv h1 hp' =>
    simp only [V.loc]
    cases hk : idx fp r with
    | some k => exact .own (locObs_get (idx_some hk) h) hv h1 (fun e => by obtain ⟨c, h2, h3, h4, h5⟩ := hp' e; exact ⟨c, h2, h3, h4, by simpa using h5⟩)
    | none =>
      simp only
      cases hf : frz σ bor (σ.length + 1) (.own r ver off len) with
      | none => exact .undef _
      | some x => exact .t (frz_sound hp hav (σ.length + 1) _ x _ hf (.own h hv h1 hp'))
  | @ptr r ver i j g ver' sz n es v h hv h1 hp' =>
    simp only [V.loc]
    cases hk : idx fp r with
    | some k => exact .ptr (locObs_get (idx_some hk) h) hv h1 hp'
    | none => exact .undef _
  | @fz e j b off cell hb ha hc hr => exact .fz hb (hav2 b ha hb) hc (fun k t ht => (hr k t ht).mono (Nat.le_refl _) (fun _ _ _ => rfl) hav2)
  | @fn f caps vs hl hr ih => exact .fn (by rw [V.locs_eq]; simpa using hl) (hlist ih)
  | @map r g es h =>
    simp only [V.loc]
    cases hk : idx fp r with
    | some k => exact .map (locObs_get (idx_some hk) h)
    | none => exact .undef _
  | errN => exact .errN
  | errS t v => exact .errS t v
  | @agg cs vs hl hr ih => exact .agg (by rw [V.locs_eq]; simpa using hl) (hlist ih)
  | @tup cs vs hl hr ih => exact .tup (by rw [V.locs_eq]; simpa using hl) (hlist ih)
  | undef v => exact .undef v
  | skip => exact .skip

theorem locObs_cases {σ : List Ob} {fp bor : List Nat} (hfp : ∀ r ∈ fp, r < σ.length) {k : Nat} {o' : Ob} (h : (locObs σ fp bor)[k]? = some o') : ∃ (r : Nat) (o : Ob), fp[k]? = some r ∧ σ[r]? = some o ∧ o' = o.loc σ fp bor := by
  unfold locObs at h
  rw [List.getElem?_map] at h
  obtain ⟨r, hr, rfl⟩ := Option.map_eq_some_iff.1 h
  have hlt := hfp r (List.mem_of_getElem? hr)
  exact ⟨r, σ[r], hr, List.getElem?_eq_getElem hlt, by simp [hlt]⟩

theorem Heap.loc {w : World} {X X' : Nat → Prop} {σ : List Ob} {fp bor : List Nat} (hp : Heap w X σ) (hfp : ∀ r ∈ fp, r < σ.length) (hn : fp.Nodup) (hd : ∀ r ∈ fp, r ∉ bor)
    (hX : ∀ b, X' b → X b ∨ ∃ (r : Nat) (o : Ob), σ[r]? = some o ∧ r ∉ fp ∧ r ∉ bor ∧ o.g = b) : Heap w X' (locObs σ fp bor) ∧ ∀ b, AV X' (locObs σ fp bor) b → X b ∨ ∃ (r : Nat) (o : Ob), σ[r]? = some o ∧ r ∉ bor ∧ o.g = b := by
  have hav : ∀ b, AV X' (locObs σ fp bor) b → X b ∨ ∃ (r : Nat) (o : Ob), σ[r]? = some o ∧ r ∉ bor ∧ o.g = b := by
    rintro b (hx | ⟨k, o', hk, e⟩)
    · rcases hX b hx with h | ⟨r, o, h1, h2, h3, h4⟩
      · exact .inl h
      · exact .inr ⟨r, o, h1, h3, h4⟩
    · obtain ⟨r, o, h1, h2, rfl⟩ := locObs_cases hfp hk
      exact .inr ⟨r, o, h2, hd r (List.mem_of_getElem? h1), by rw [← e, Ob.loc_g]⟩
  refine ⟨⟨fun k o' hk => ?_, fun k k' o o' h1 h2 e => ?_, fun k o' hk hx => ?_⟩, hav⟩
  · obtain ⟨r, o, h1, h2, rfl⟩ := locObs_cases hfp hk
    have ho := hp.obj r o h2
    cases o with
    | row g ver sz n es =>
      obtain ⟨cs, et, h3, h4, h5, h6⟩ := ho
      refine ⟨cs, et, h3, h4, by simpa using h5, fun i e he => ?_⟩
      rw [List.getElem?_map] at he
      obtain ⟨e0, he0, rfl⟩ := Option.map_eq_some_iff.1 he
      obtain ⟨h7, h8⟩ := h6 i e0 he0
      refine ⟨by simpa using h7, fun j c hc => ?_⟩
      rw [List.getElem?_map] at hc
      obtain ⟨c0, hc0, rfl⟩ := Option.map_eq_some_iff.1 hc
      exact (h8 j c0 hc0).loc hp hfp hav
    | map g es =>
      obtain ⟨ents, clock, h3, h4, h5⟩ := ho
      refine ⟨ents, clock, h3, by simpa using h4, fun i k x hx => ?_⟩
      rw [List.getElem?_map] at hx
      obtain ⟨⟨k0, x0⟩, hx0, he⟩ := Option.map_eq_some_iff.1 hx
      obtain ⟨rfl, rfl⟩ := Prod.mk.inj he
      obtain ⟨e, g1, g2, g3⟩ := h5 i k0 x0 hx0
      exact ⟨e, g1, g2, g3.loc hp hfp hav⟩
  · obtain ⟨r, o1, g1, g2, rfl⟩ := locObs_cases hfp h1
    obtain ⟨r', o2, g3, g4, rfl⟩ := locObs_cases hfp h2
    rw [Ob.loc_g, Ob.loc_g] at e
    have := hp.nd r r' o1 o2 g2 g4 e
    subst this
    exact (List.getElem?_inj (List.getElem?_eq_some_iff.1 g1).1 hn).1 (g1.trans g3.symm)
  · obtain ⟨r, o, g1, g2, rfl⟩ := locObs_cases hfp hk
    rw [Ob.loc_g] at hx
    rcases hX _ hx with h | ⟨r', o', k1, k2, k3, k4⟩
    · exact hp.nx r o g2 h
    · have := hp.nd r r' o o' g2 k1 k4.symm
      subst this
      exact k2 (List.mem_of_getElem? g1)
end Go.VL
