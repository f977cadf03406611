/- VL, part 28: trees of one's own by what they say. -/
import Derived.Test.YtlooiifgbiedeaaV27
namespace Go.VL
set_option linter.unusedVariables false
set_option linter.unusedSimpArgs false

theorem Ctr.weaken {P : Program} {f : FuncId} {args : List V} {σ : List Ob} {R R' : Nat → Nat → V → List Ob → Prop} (h : Ctr P f args σ R) (hR : ∀ lo hi r σ', R lo hi r σ' → R' lo hi r σ') : Ctr P f args σ R' := by
  refine ⟨h.1, fun w X vs hX ha hp cs => ?_⟩
  obtain ⟨e, w', fr, ⟨v, r, σ', h1, h2, h3⟩, h4⟩ := h.2 w X vs hX ha hp cs
  exact ⟨e, w', fr, ⟨v, r, σ', h1, hR _ _ _ _ h2, h3⟩, h4⟩
theorem Tr.leaf_er {σ : List Ob} {d : D} {S : List Nat} {v : V} {x : T} (h : Tr σ d S v) (hd : d.er = x) (hx : ∀ g es, x ≠ .sl g es) : S = [] ∧ v = .t x ∧ d = .t x := by
  cases d with
  | t y => rw [Tr] at h; rw [D.er] at hd; subst hd; exact ⟨h.1, h.2.1, rfl⟩
  | nil => rw [D.er] at hd; exact absurd hd.symm (hx _ _)
  | ow g es => rw [D.er] at hd; exact absurd hd.symm (hx _ _)
theorem TrL.inv_cons {σ : List Ob} {d : D} {ds : List D} {S : List Nat} {vs : List V} (h : TrL σ (d :: ds) S vs) : ∃ v l S1 S2, vs = v :: l ∧ S = S1 ++ S2 ∧ Dj S1 S2 ∧ Tr σ d S1 v ∧ TrL σ ds S2 l := by rw [TrL] at h; exact h
theorem TrL.inv_nil {σ : List Ob} {S : List Nat} {vs : List V} (h : TrL σ [] S vs) : S = [] ∧ vs = [] := by rw [TrL] at h; exact h
theorem TrL.inv_one {σ : List Ob} {d : D} {S : List Nat} {vs : List V} (h : TrL σ [d] S vs) : ∃ v, vs = [v] ∧ Tr σ d S v := by
  obtain ⟨v, l, S1, S2, rfl, rfl, _, h1, h2⟩ := h.inv_cons
  obtain ⟨rfl, rfl⟩ := h2.inv_nil
  exact ⟨v, rfl, by rwa [List.append_nil]⟩
/-- Cells by what they say: a leaf ahead. -/
theorem TrL.er_leaf {σ : List Ob} {ds : List D} {S : List Nat} {vs : List V} {x : T} {ts : List T} (h : TrL σ ds S vs) (hd : D.erL ds = x :: ts) (hx : ∀ g es, x ≠ .sl g es) : ∃ ds' l, ds = .t x :: ds' ∧ vs = .t x :: l ∧ TrL σ ds' S l ∧ D.erL ds' = ts := by
  cases ds with
  | nil => cases hd
  | cons d ds =>
    rw [D.erL] at hd
    injection hd with h1 h2
    obtain ⟨v, l, S1, S2, rfl, rfl, _, h3, h4⟩ := h.inv_cons
    obtain ⟨rfl, rfl, rfl⟩ := h3.leaf_er h1 hx
    exact ⟨ds, l, rfl, rfl, h4, h2⟩
theorem TrL.er_int {σ : List Ob} {ds : List D} {S : List Nat} {vs : List V} {k : IntKind} {n : Int} {ts : List T} (h : TrL σ ds S vs) (hd : D.erL ds = .int k n :: ts) : ∃ ds' l, ds = .t (.int k n) :: ds' ∧ vs = .t (.int k n) :: l ∧ TrL σ ds' S l ∧ D.erL ds' = ts := h.er_leaf hd (fun _ _ e => by cases e)
theorem TrL.er_str {σ : List Ob} {ds : List D} {S : List Nat} {vs : List V} {x : ByteArray} {ts : List T} (h : TrL σ ds S vs) (hd : D.erL ds = .str x :: ts) : ∃ ds' l, ds = .t (.str x) :: ds' ∧ vs = .t (.str x) :: l ∧ TrL σ ds' S l ∧ D.erL ds' = ts := h.er_leaf hd (fun _ _ e => by cases e)
/-- A slice ahead. -/
theorem TrL.er_sl {σ : List Ob} {ds : List D} {S : List Nat} {vs : List V} {g : Nat} {cs : List (List T)} {ts : List T} (h : TrL σ ds S vs) (hd : D.erL ds = .sl g cs :: ts) : ∃ d ds' v l S1 S2, ds = d :: ds' ∧ vs = v :: l ∧ S = S1 ++ S2 ∧ Dj S1 S2 ∧ Tr σ d S1 v ∧ d.er = .sl g cs ∧ TrL σ ds' S2 l ∧ D.erL ds' = ts := by
  cases ds with
  | nil => cases hd
  | cons d ds =>
    rw [D.erL] at hd
    injection hd with h1 h2
    obtain ⟨v, l, S1, S2, rfl, rfl, hj, h3, h4⟩ := h.inv_cons
    exact ⟨d, ds, v, l, S1, S2, rfl, rfl, rfl, hj, h3, h1, h4, h2⟩
theorem TrL.er_nil {σ : List Ob} {ds : List D} {S : List Nat} {vs : List V} (h : TrL σ ds S vs) (hd : D.erL ds = []) : ds = [] ∧ S = [] ∧ vs = [] := by
  cases ds with
  | nil => obtain ⟨h1, h2⟩ := h.inv_nil; exact ⟨rfl, h1, h2⟩
  | cons d ds => rw [D.erL] at hd; cases hd
/-- A slice by what it says: none, or a whole row. -/
theorem Tr.er_sl {σ : List Ob} {d : D} {S : List Nat} {v : V} {g : Nat} {cs : List (List T)} (h : Tr σ d S v) (hd : d.er = .sl g cs) : (d = .nil ∧ S = [] ∧ v = .nil0 ∧ cs = []) ∨
    ∃ (ds : List (List D)) (r ver sz m : Nat) (es : List (List V)) (S' : List Nat), d = .ow g ds ∧ S = r :: S' ∧ r ∉ S' ∧ v = .own r ver 0 es.length ∧ σ[r]? = some (.row g ver sz m es) ∧ TrLL σ ds S' es ∧ (∀ e ∈ es, e.length = sz) ∧ D.erLL ds = cs := by
  cases d with
  | t y => rw [Tr] at h; rw [D.er] at hd; exact absurd hd (h.2.2.2 _ _)
  | nil =>
    rw [Tr] at h
    rw [D.er] at hd
    injection hd with _ h2
    exact .inl ⟨rfl, h.1, h.2, h2.symm⟩
  | ow g' ds =>
    rw [Tr] at h
    obtain ⟨r, ver, sz, m, es, S', h1, h2, h3, h4, h5, hzz⟩ := h
    rw [D.er] at hd
    injection hd with h6 h7
    subst h6
    exact .inr ⟨ds, r, ver, sz, m, es, S', rfl, h1, h2, h3, h4, h5, hzz, h7⟩
theorem TrLL.er_Ts {σ : List Ob} : ∀ {xs : List ByteArray} {ds : List (List D)} {S : List Nat} {es : List (List V)}, TrLL σ ds S es → D.erLL ds = Ts xs → S = [] ∧ es = Vs xs ∧ ds = Ds xs
  | [], ds, S, es, h, hd => by
    cases ds with
    | nil => rw [TrLL] at h; exact ⟨h.1, h.2, rfl⟩
    | cons d ds => rw [D.erLL] at hd; cases hd
  | x :: l, ds, S, es, h, hd => by
    cases ds with
    | nil => rw [D.erLL] at hd; cases hd
    | cons d ds =>
      rw [D.erLL] at hd
      simp only [Ts, List.map_cons] at hd
      injection hd with h1 h2
      rw [TrLL] at h
      obtain ⟨v, l', S1, S2, rfl, rfl, _, h3, h4⟩ := h
      obtain ⟨ds', l2, rfl, rfl, h5, h6⟩ := h3.er_str h1
      obtain ⟨rfl, rfl, rfl⟩ := h5.er_nil h6
      obtain ⟨rfl, rfl, rfl⟩ := TrLL.er_Ts (xs := l) h4 h2
      exact ⟨rfl, rfl, rfl⟩
/-- One slice alone. -/
theorem TrL.er_one {σ : List Ob} {ds : List D} {S : List Nat} {vs : List V} {g : Nat} {cs : List (List T)} (h : TrL σ ds S vs) (hd : D.erL ds = [.sl g cs]) : ∃ d v, ds = [d] ∧ vs = [v] ∧ Tr σ d S v ∧ d.er = .sl g cs := by
  obtain ⟨d, ds', v, l, S1, S2, rfl, rfl, rfl, _, h1, h2, h3, h4⟩ := h.er_sl hd
  obtain ⟨rfl, rfl, rfl⟩ := h3.er_nil h4
  exact ⟨d, v, rfl, rfl, by rwa [List.append_nil], h2⟩
theorem Tr.lendE {σ : List Ob} {d : D} {S bor : List Nat} {v : V} {x : T} (h : Tr σ d S v) (hd : d.er = x) (hb : ∀ r ∈ S, r ∈ bor) : Sub (v.loc σ [] bor) (.t x) := by
  rw [← hd]; exact h.lend hb (fun r _ hr => by cases hr)
theorem TrL.lendE {σ : List Ob} {ds : List D} {S bor : List Nat} {vs : List V} {ts : List T} (h : TrL σ ds S vs) (hd : D.erL ds = ts) (hb : ∀ r ∈ S, r ∈ bor) : Sub ((V.agg vs).loc σ [] bor) (.agg (ts.map V.t)) := by
  rw [← hd]; exact h.lendA hb (fun r _ hr => by cases hr)
/-- The only objects of a call, in order. -/
theorem range_one {n : Nat} {r : Nat} (h : List.range n = [r]) : n = 1 ∧ r = 0 := by
  have h1 := congrArg List.length h
  have h2 : n = 1 := by simpa using h1
  subst h2
  simpa [List.range_succ] using h.symm
theorem range_nil {n : Nat} (h : List.range n = []) : n = 0 := by simpa using congrArg List.length h
end Go.VL
