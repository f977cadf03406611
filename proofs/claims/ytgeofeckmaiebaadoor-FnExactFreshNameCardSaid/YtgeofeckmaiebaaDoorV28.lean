/- A logic of values for walks: parts 28 to 34. -/
import Derived.Test.YtgeofeckmaiebaaDoorV25
namespace Go.VL
set_option linter.unusedVariables false
set_option linter.unusedSimpArgs false

theorem Ctr.weaken {W0 : World} {P : Program} {f : FuncId} {args : List V} {σ : List Ob} {R R' : Nat → Nat → V → List Ob → Prop} (h : Ctr W0 P f args σ R) (hR : ∀ lo hi r σ', R lo hi r σ' → R' lo hi r σ') : Ctr W0 P f args σ R' := by
  refine ⟨h.1, fun w X vs hX ha hp cs => ?_⟩
  obtain ⟨e, w', fr, ⟨v, r, σ', h1, h2, h3⟩, h4⟩ := h.2 w X vs hX ha hp cs
  exact ⟨e, w', fr, ⟨v, r, σ', h1, hR _ _ _ _ h2, h3⟩, h4⟩
theorem Tr.leaf_er {σ : List Ob} {d : D} {S : List Nat} {v : V} {x : T} (h : Tr σ d S v) (hd : d.er = x) (hx : ∀ g es, x ≠ .sl g es) : S = [] ∧ v = .t x ∧ d = .t x := by
  cases d with
  | t y => rw [Tr] at h; rw [D.er] at hd; subst hd; exact ⟨h.1, h.2.1, rfl⟩
  | nil => rw [D.er] at hd; exact absurd hd.symm (hx _ _)
  | ow g sz es => rw [D.er] at hd; exact absurd hd.symm (hx _ _)
theorem TrL.inv_cons {σ : List Ob} {d : D} {ds : List D} {S : List Nat} {vs : List V} (h : TrL σ (d :: ds) S vs) : ∃ v l S1 S2, vs = v :: l ∧ S = S1 ++ S2 ∧ Dj S1 S2 ∧ Tr σ d S1 v ∧ TrL σ ds S2 l := by rw [TrL] at h; exact h
theorem TrL.inv_nil {σ : List Ob} {S : List Nat} {vs : List V} (h : TrL σ [] S vs) : S = [] ∧ vs = [] := by rw [TrL] at h; exact h
theorem TrL.inv_one {σ : List Ob} {d : D} {S : List Nat} {vs : List V} (h : TrL σ [d] S vs) : ∃ v, vs = [v] ∧ Tr σ d S v := by
  obtain ⟨v, l, S1, S2, rfl, rfl, _, h1, h2⟩ := h.inv_cons
  obtain ⟨rfl, rfl⟩ := h2.inv_nil
  exact ⟨v, rfl, by rwa [List.append_nil]⟩
/-- Cells by what they say: a leaf ahead. -/
theorem TrL.er_leaf {σ : List Ob} {ds : List D} {S : List Nat} {vs : List V} {x : T} {ts : List T} (h : TrL σ ds S vs) (hd : D.erL ds = x :: ts) (hx : ∀ g es, x ≠ .sl g es) : ∃ ds' l, ds = .t x :: ds' ∧ vs = .t x :: l ∧ TrL σ ds' S l ∧ D.erL ds' = ts := by
  cases ds with
  | nil => cases hd
  | cons d ds =>
    rw [D.erL] at hd
    injection hd with h1 h2
    obtain ⟨v, l, S1, S2, rfl, rfl, _, h3, h4⟩ := h.inv_cons
    obtain ⟨rfl, rfl, rfl⟩ := h3.leaf_er h1 hx
    exact ⟨ds, l, rfl, rfl, h4, h2⟩
theorem TrL.er_int {σ : List Ob} {ds : List D} {S : List Nat} {vs : List V} {k : IntKind} {n : Int} {ts : List T} (h : TrL σ ds S vs) (hd : D.erL ds = .int k n :: ts) : ∃ ds' l, ds = .t (.int k n) :: ds' ∧ vs = .t (.int k n) :: l ∧ TrL σ ds' S l ∧ D.erL ds' = ts := h.er_leaf hd (fun _ _ e => by cases e)
theorem TrL.er_str {σ : List Ob} {ds : List D} {S : List Nat} {vs : List V} {x : ByteArray} {ts : List T} (h : TrL σ ds S vs) (hd : D.erL ds = .str x :: ts) : ∃ ds' l, ds = .t (.str x) :: ds' ∧ vs = .t (.str x) :: l ∧ TrL σ ds' S l ∧ D.erL ds' = ts := h.er_leaf hd (fun _ _ e => by cases e)
/-- A slice ahead. -/
theorem TrL.er_sl {σ : List Ob} {ds : List D} {S : List Nat} {vs : List V} {g : Nat} {cs : List (List T)} {ts : List T} (h : TrL σ ds S vs) (hd : D.erL ds = .sl g cs :: ts) : ∃ d ds' v l S1 S2, ds = d :: ds' ∧ vs = v :: l ∧ S = S1 ++ S2 ∧ Dj S1 S2 ∧ Tr σ d S1 v ∧ d.er = .sl g cs ∧ TrL σ ds' S2 l ∧ D.erL ds' = ts := by
  cases ds with
  | nil => cases hd
  | cons d ds =>
    rw [D.erL] at hd
    injection hd with h1 h2
    obtain ⟨v, l, S1, S2, rfl, rfl, hj, h3, h4⟩ := h.inv_cons
    exact ⟨d, ds, v, l, S1, S2, rfl, rfl, rfl, hj, h3, h1, h4, h2⟩
theorem TrL.er_nil {σ : List Ob} {ds : List D} {S : List Nat} {vs : List V} (h : TrL σ ds S vs) (hd : D.erL ds = []) : ds = [] ∧ S = [] ∧ vs = [] := by
  cases ds with
  | nil => obtain ⟨h1, h2⟩ := h.inv_nil; exact ⟨rfl, h1, h2⟩
  | cons d ds => rw [D.erL] at hd; cases hd
/-- A slice by what it says: none, or a whole row. -/
theorem Tr.er_sl {σ : List Ob} {d : D} {S : List Nat} {v : V} {g : Nat} {cs : List (List T)} (h : Tr σ d S v) (hd : d.er = .sl g cs) : (d = .nil ∧ S = [] ∧ v = .nil0 ∧ cs = []) ∨
    ∃ (ds : List (List D)) (r ver sz m : Nat) (es : List (List V)) (S' : List Nat), d = .ow g sz ds ∧ S = r :: S' ∧ r ∉ S' ∧ v = .own r ver 0 es.length ∧ σ[r]? = some (.row g ver sz m es) ∧ TrLL σ ds S' es ∧ (∀ e ∈ es, e.length = sz) ∧ D.erLL ds = cs := by
  cases d with
  | t y => rw [Tr] at h; rw [D.er] at hd; exact absurd hd (h.2.2.2 _ _)
  | nil =>
    rw [Tr] at h
    rw [D.er] at hd
    injection hd with _ h2
    exact .inl ⟨rfl, h.1, h.2, h2.symm⟩
  | ow g' sz ds =>
    rw [Tr] at h
    obtain ⟨r, ver, m, es, S', h1, h2, h3, h4, h5, hzz⟩ := h
    rw [D.er] at hd
    injection hd with h6 h7
    subst h6
    exact .inr ⟨ds, r, ver, sz, m, es, S', rfl, h1, h2, h3, h4, h5, hzz, h7⟩
theorem TrLL.er_Ts {σ : List Ob} : ∀ {xs : List ByteArray} {ds : List (List D)} {S : List Nat} {es : List (List V)}, TrLL σ ds S es → D.erLL ds = Ts xs → S = [] ∧ es = Vs xs ∧ ds = Ds xs
  | [], ds, S, es, h, hd => by
    cases ds with
    | nil => rw [TrLL] at h; exact ⟨h.1, h.2, rfl⟩
    | cons d ds => rw [D.erLL] at hd; cases hd
  | x :: l, ds, S, es, h, hd => by
    cases ds with
    | nil => rw [D.erLL] at hd; cases hd
    | cons d ds =>
      rw [D.erLL] at hd
      simp only [Ts, List.map_cons] at hd
      injection hd with h1 h2
      rw [TrLL] at h
      obtain ⟨v, l', S1, S2, rfl, rfl, _, h3, h4⟩ := h
      obtain ⟨ds', l2, rfl, rfl, h5, h6⟩ := h3.er_str h1
      obtain ⟨rfl, rfl, rfl⟩ := h5.er_nil h6
      obtain ⟨rfl, rfl, rfl⟩ := TrLL.er_Ts (xs := l) h4 h2
      exact ⟨rfl, rfl, rfl⟩
/-- One slice alone. -/
theorem TrL.er_one {σ : List Ob} {ds : List D} {S : List Nat} {vs : List V} {g : Nat} {cs : List (List T)} (h : TrL σ ds S vs) (hd : D.erL ds = [.sl g cs]) : ∃ d v, ds = [d] ∧ vs = [v] ∧ Tr σ d S v ∧ d.er = .sl g cs := by
  obtain ⟨d, ds', v, l, S1, S2, rfl, rfl, rfl, _, h1, h2, h3, h4⟩ := h.er_sl hd
  obtain ⟨rfl, rfl, rfl⟩ := h3.er_nil h4
  exact ⟨d, v, rfl, rfl, by rwa [List.append_nil], h2⟩
theorem Tr.lendE {σ : List Ob} {d : D} {S bor : List Nat} {v : V} {x : T} (h : Tr σ d S v) (hd : d.er = x) (hb : ∀ r ∈ S, r ∈ bor) : Sub (v.loc σ [] bor) (.t x) := by
  rw [← hd]; exact h.lend hb (fun r _ hr => by cases hr)
theorem TrL.lendE {σ : List Ob} {ds : List D} {S bor : List Nat} {vs : List V} {ts : List T} (h : TrL σ ds S vs) (hd : D.erL ds = ts) (hb : ∀ r ∈ S, r ∈ bor) : Sub ((V.agg vs).loc σ [] bor) (.agg (ts.map V.t)) := by
  rw [← hd]; exact h.lendA hb (fun r _ hr => by cases hr)
/-- The only objects of a call, in order. -/
theorem range_one {n : Nat} {r : Nat} (h : List.range n = [r]) : n = 1 ∧ r = 0 := by
  have h1 := congrArg List.length h
  have h2 : n = 1 := by simpa using h1
  subst h2
  simpa [List.range_succ] using h.symm
theorem range_nil {n : Nat} (h : List.range n = []) : n = 0 := by simpa using congrArg List.length h
end Go.VL
namespace Go.VL
set_option linter.unusedVariables false
set_option linter.unusedSimpArgs false

theorem sv_agg (vs : List V) : Shp.v .agg vs = .agg vs := rfl
theorem sv_one (v : V) : Shp.v .one [v] = v := rfl
theorem sv_aggT (vs : List V) (x : T) : Shp.v (.aggT x) vs = .tup [.agg vs, .t x] := rfl
theorem sv_oneT (v : V) (x : T) : Shp.v (.oneT x) [v] = .tup [v, .t x] := rfl
theorem sv_Tone (v : V) (x : T) : Shp.v (.Tone x) [v] = .tup [.t x, v] := rfl
attribute [go_sem] sv_agg sv_one sv_aggT sv_oneT sv_Tone
/-- A term's cells, of one's own. -/
theorem E.own_cells {σ : List Ob} {ds : List D} {S : List Nat} {vs : List V} {e : E} (hT : TrL σ ds S vs) (h : e.rep (D.erL ds)) : ∃ (d : D) (v : V) (g : Nat) (cs : List (List T)), ds = [.t (.int .i64 e.kind), .t (.str e.name), d] ∧ vs = [.t (.int .i64 e.kind), .t (.str e.name), v] ∧ Tr σ d S v ∧ d.er = .sl g cs ∧ E.repL e.args cs := by
  obtain ⟨g, cs, h1, h2⟩ := E.rep_cells h
  obtain ⟨ds1, l1, rfl, rfl, h3, h4⟩ := hT.er_int h1
  obtain ⟨ds2, l2, rfl, rfl, h5, h6⟩ := h3.er_str h4
  obtain ⟨d, v, rfl, rfl, h7, h8⟩ := h5.er_one h6
  exact ⟨d, v, g, cs, rfl, rfl, h7, h8, h2⟩
theorem E.rep_own {k : Int} {n : ByteArray} {as : List E} {d : D} {g : Nat} {cs : List (List T)} (h : d.er = .sl g cs) (hr : E.repL as cs) : (E.mk k n as).rep (D.erL [.t (.int .i64 k), .t (.str n), d]) := by
  rw [D.erL, D.erL, D.erL, D.erL, h]
  exact E.rep_of hr
theorem D.erLL_get : ∀ {l : List (List D)} {n : Nat} (h : n < l.length), (D.erLL l)[n]? = some (D.erL l[n])
  | [], n, h => by simp at h
  | d :: l, 0, h => rfl
  | d :: l, n + 1, h => by rw [D.erLL]; simpa using D.erLL_get (l := l) (n := n) (by simpa using h)
theorem D.erLL_set : ∀ (l : List (List D)) (n : Nat) (x : List D), D.erLL (l.set n x) = (D.erLL l).set n (D.erL x)
  | [], n, x => by simp [D.erLL]
  | d :: l, 0, x => rfl
  | d :: l, n + 1, x => by rw [List.set_cons_succ, D.erLL, D.erLL_set l n x, D.erLL]; rfl
theorem E.repL_set : ∀ {l : List E} {cs : List (List T)} {n : Nat} {a : E} {c : List T}, E.repL l cs → a.rep c → E.repL (l.set n a) (cs.set n c)
  | [], cs, n, a, c, h, ha => by unfold E.repL at h; subst h; simpa using E.repL_nil
  | e :: l, cs, n, a, c, h, ha => by
    unfold E.repL at h
    obtain ⟨c0, r, rfl, h1, h2⟩ := h
    cases n with
    | zero => rw [List.set_cons_zero, List.set_cons_zero, E.repL]; exact ⟨c, r, rfl, ha, h2⟩
    | succ n => rw [List.set_cons_succ, List.set_cons_succ, E.repL]; exact ⟨c0, _, rfl, h1, E.repL_set h2 ha⟩
theorem E.repL_all {l : List E} {cs : List (List T)} (h : E.repL l cs) : ∀ c ∈ cs, c.length = 3 := by
  intro c hc
  obtain ⟨i, hi, rfl⟩ := List.mem_iff_getElem.1 hc
  obtain ⟨c', h1, h2⟩ := E.repL_get h (n := i) (by rw [← E.repL_len h]; exact hi)
  rw [List.getElem?_eq_getElem hi] at h1
  injection h1 with h1
  rw [h1]
  obtain ⟨g, cs', h3, _⟩ := E.rep_cells h2
  rw [h3]; rfl
/-- The rows' elements have as many cells as what they say. -/
theorem TrLL.lens {σ : List Ob} {n : Nat} : ∀ {ds : List (List D)} {S : List Nat} {es : List (List V)}, TrLL σ ds S es → (∀ c ∈ D.erLL ds, c.length = n) → ∀ e ∈ es, e.length = n
  | [], S, es, h, hn => by rw [TrLL] at h; rw [h.2]; exact fun e he => by cases he
  | d :: ds, S, es, h, hn => by
    rw [TrLL] at h
    obtain ⟨v, l, S1, S2, rfl, rfl, _, h1, h2⟩ := h
    intro e he
    rcases List.mem_cons.1 he with rfl | he
    · rw [h1.len, ← D.erL_len]; exact hn _ (by rw [D.erLL]; exact List.mem_cons_self)
    · exact h2.lens (fun c hc => hn c (by rw [D.erLL]; exact List.mem_cons_of_mem _ hc)) e he
theorem set_le {σ : List Ob} {r g ver sz m : Nat} {es es' : List (List V)} (hr : σ[r]? = some (.row g ver sz m es)) (hl : es'.length = es.length) : ∀ (q : Nat) (o : Ob), σ[q]? = some o → ∃ o' : Ob, (σ.set r (.row g ver sz m es'))[q]? = some o' ∧ o.le o' := by
  intro q o ho
  by_cases h : r = q
  · subst h
    rw [hr] at ho
    injection ho with ho
    subst ho
    exact ⟨_, List.getElem?_set_self (List.getElem?_eq_some_iff.1 hr).1, by simp [Ob.le, hl]⟩
  · exact ⟨o, by rw [List.getElem?_set_ne h]; exact ho, o.le_refl⟩
theorem le_comp {σ σ1 σ2 : List Ob} (h1 : ∀ (q : Nat) (o : Ob), σ[q]? = some o → ∃ o' : Ob, σ1[q]? = some o' ∧ o.le o') (h2 : ∀ (q : Nat) (o : Ob), σ1[q]? = some o → ∃ o' : Ob, σ2[q]? = some o' ∧ o.le o') : ∀ (q : Nat) (o : Ob), σ[q]? = some o → ∃ o' : Ob, σ2[q]? = some o' ∧ o.le o' := by
  intro q o ho
  obtain ⟨o1, h3, h4⟩ := h1 q o ho
  obtain ⟨o2, h5, h6⟩ := h2 q o1 h3
  exact ⟨o2, h5, h4.trans_ h6⟩
theorem le_self (σ : List Ob) : ∀ (q : Nat) (o : Ob), σ[q]? = some o → ∃ o' : Ob, σ[q]? = some o' ∧ o.le o' := fun q o ho => ⟨o, ho, o.le_refl⟩
end Go.VL
namespace Go.VL
set_option linter.unusedVariables false
set_option linter.unusedSimpArgs false

theorem TrL.app {σ : List Ob} : ∀ {a b : List D} {S S' : List Nat} {v v' : List V}, TrL σ a S v → TrL σ b S' v' → Dj S S' → TrL σ (a ++ b) (S ++ S') (v ++ v')
  | [], b, S, S', v, v', h, h', hd => by obtain ⟨rfl, rfl⟩ := h.inv_nil; exact h'
  | d :: a, b, S, S', v, v', h, h', hd => by
    obtain ⟨u, l, S1, S2, rfl, rfl, hd1, h1, h2⟩ := h.inv_cons
    rw [List.append_assoc, List.cons_append, List.cons_append]
    refine TrL_cons h1 (h2.app h' fun r hr hr2 => hd r (List.mem_append_right _ hr) hr2) (fun r hr hr2 => ?_)
    rcases List.mem_append.1 hr2 with hr2 | hr2
    · exact hd1 r hr hr2
    · exact hd r (List.mem_append_left _ hr) hr2
theorem TrL.split {σ : List Ob} : ∀ {a b : List D} {S : List Nat} {v v' : List V}, TrL σ (a ++ b) S (v ++ v') → v.length = a.length → ∃ S1 S2, S = S1 ++ S2 ∧ Dj S1 S2 ∧ TrL σ a S1 v ∧ TrL σ b S2 v'
  | [], b, S, v, v', h, hl => by
    obtain rfl := List.length_eq_zero_iff.1 hl
    exact ⟨[], S, rfl, Dj_nil' _, TrL_nil, h⟩
  | d :: a, b, S, v, v', h, hl => by
    cases v with
    | nil => simp at hl
    | cons u v =>
      rw [List.cons_append, List.cons_append] at h
      obtain ⟨u', l, S1, S2, he, rfl, hd, h1, h2⟩ := h.inv_cons
      injection he with he1 he2
      subst he1
      subst he2
      obtain ⟨S3, S4, rfl, hd2, h3, h4⟩ := h2.split (by simpa using hl)
      refine ⟨S1 ++ S3, S4, by simp, fun r hr hr2 => ?_, TrL_cons h1 h3 (fun r hr hr2 => hd r hr (List.mem_append_left _ hr2)), h4⟩
      rcases List.mem_append.1 hr with hr | hr
      · exact hd r hr (List.mem_append_right _ hr2)
      · exact hd2 r hr hr2

/-- A row of one cell as a pointer to it. -/
def V.cellp : V → V
  | .own r ver _ _ => .ptr r ver 0 0
  | v => v
/-- A function that is handed trees (ds1, to be used up) and cells (ds2, to be written) and hands trees back. -/
def WCtr (W0 : World) (P : Program) (f : FuncId) (args : List V → List V → List V) (ds1 ds2 : List D) (Q : Shp → List D → List D → Prop) : Prop :=
  ∀ (σ : List Ob) (vs1 vs2 : List V), vs1.length = ds1.length → TrL σ (ds1 ++ ds2) (List.range σ.length) (vs1 ++ vs2) → Ctr W0 P f (args vs1 vs2) σ (fun _ _ r σ' => ∃ (sh : Shp) (es1 es2 : List D) (us1 : List V) (S' : List Nat),
    r = sh.v us1 ∧ us1.length = es1.length ∧ TrL σ' (es1 ++ es2) S' (us1 ++ vs2) ∧ Q sh es1 es2 ∧ (∀ (r : Nat) (o : Ob), σ[r]? = some o → ∃ o' : Ob, σ'[r]? = some o' ∧ o.le o'))

section
variable {W0 : World} {P : Program} {ops : Array Oper} {l : List (Oper × Bool)} {K : St → Prop} {e : Nat → V} {σ : List Ob} {h : Nat}
theorem x_callW {d : Option Tmp} {f : FuncId} {as_ : Array Operand} {tys : Array TypeId} {ty : TypeId} {pos : String} {af : Array Edge} {fop : Operand} {caps : List V} {args : List V → List V → List V} {ds1 ds2 : List D} {Q : Shp → List D → List D → Prop} {S : List Nat} {vs1 vs2 : List V}
    (hc : WCtr W0 P f args ds1 ds2 Q) (hf : St.eval ⟨e, σ, h⟩ fop = .fn f caps) (hl : vs1.length = ds1.length) (ht : TrL σ (ds1 ++ ds2) S (vs1 ++ vs2))
    (ha : (as_.toList.map (St.eval ⟨e, σ, h⟩) ++ caps).map (V.loc σ S []) = args (vs1.map (V.loc σ S [])) (vs2.map (V.loc σ S [])))
    (hk : ∀ (sh : Shp) (es1 es2 : List D) (us1 : List V) (S' : List Nat) (σ' : List Ob) (h' : Nat), us1.length = es1.length → TrL σ' (es1 ++ es2) S' (us1 ++ vs2) → Q sh es1 es2 → (∀ r ∈ S', r ∈ S ∨ σ.length ≤ r) → (∀ r, r < σ.length → r ∉ S → σ'[r]? = σ[r]?) → σ.length ≤ σ'.length →
      (∀ (r : Nat) (o : Ob), σ[r]? = some o → ∃ o' : Ob, σ'[r]? = some o' ∧ o.le o') → h ≤ h' → vcX W0 P ops l K ⟨((⟨e, σ, h⟩ : St).put d (sh.v us1)).env, σ', h'⟩) :
    vcX W0 P ops ((⟨d, .call ⟨.value fop, as_, tys⟩, ty, pos, af, none⟩, true) :: l) K ⟨e, σ, h⟩ := by
  have hloc := ht.loc (bor := [])
  have hlen := locObs_len σ S []
  rw [← hlen, List.map_append] at hloc
  refine vcX_callF S [] _ (locObs σ S []) _ (hc _ _ _ (by rw [List.length_map, hl]) hloc) hf ht.nodup ht.lt (fun r _ hr => by cases hr) rfl (Subs.of_eq ha) ?_
  rintro r σ1 h' hh ⟨sh, es1, es2, us1, S', rfl, h1, h2, h3, h4⟩
  refine ⟨fun q hq => (by cases hq), ?_⟩
  have hb := h2.back (σ := σ) (fp := S) ht.nodup ht.lt
  have hl2 : (vs2.map (V.loc σ S [])).map (V.back S σ.length) = vs2 := by
    have := ht.loc_back (bor := []) (n := σ.length) ht.nodup (fun r hr => hr)
    rw [List.map_append, List.map_append] at this
    exact (List.append_inj this (by simp)).2
  rw [List.map_append, hl2] at hb
  have hle : ∀ (r : Nat) (o : Ob), σ[r]? = some o → ∃ o' : Ob, (backObs σ S σ1)[r]? = some o' ∧ o.le o' := fun r o ho => by
    cases hk : idx S r with
    | none => exact ⟨o, backObs_other ho hk, o.le_refl⟩
    | some k =>
      have hkf := idx_some hk
      obtain ⟨o', h5, h6⟩ := h4 k _ (locObs_get hkf ho)
      refine ⟨o'.back S σ.length, ?_, (o.loc_le _ _ _).trans_ (h6.trans_ (o'.back_le _ _))⟩
      have := backObs_get ht.nodup ht.lt h5 (σ := σ)
      unfold bk at this
      rw [hkf] at this
      exact this
  rw [Shp.back]
  refine hk sh es1 es2 _ _ _ h' (by rw [List.length_map, h1]) hb h3 (fun r hr => ?_) (fun r hr hn => ?_) (by rw [backObs, List.length_append, backAt_length]; omega) hle hh
  · obtain ⟨k, hk, rfl⟩ := List.mem_map.1 hr
    unfold bk
    cases hkf : S[k]? with
    | some r => exact .inl (List.mem_of_getElem? hkf)
    | none => exact .inr (Nat.le_add_right _ _)
  · rw [List.getElem?_eq_getElem hr]
    exact backObs_other (List.getElem?_eq_getElem hr) (idx_not hn)

/-- Some rows taken along, others left. -/
theorem Rn.loc {σ : List Ob} {K0 S bor : List Nat} (hn : K0.Nodup) (hs : ∀ r ∈ S, r ∈ K0) : Rn (fun r => (idx K0 r).getD 0) (V.loc σ K0 bor) S := (Tr.rnLoc hn).sub hs
theorem TrL.locK {σ : List Ob} {K0 S bor : List Nat} {ds : List D} {vs : List V} (h : TrL σ ds S vs) (hn : K0.Nodup) (hs : ∀ r ∈ S, r ∈ K0) : TrL (locObs σ K0 bor) ds (S.map fun r => (idx K0 r).getD 0) (vs.map (V.loc σ K0 bor)) :=
  h.rn (Rn.loc hn hs) (fun r hr => locS hn r (hs r hr))
theorem idx_app_left {a b : List Nat} {r k : Nat} (h : idx a r = some k) : idx (a ++ b) r = some k := by
  induction a generalizing k with
  | nil => cases h
  | cons x a ih =>
    unfold idx at h
    rw [List.cons_append]
    unfold idx
    split
    · rename_i hx
      rw [if_pos hx] at h
      exact h
    · rename_i hx
      rw [if_neg hx] at h
      split at h
      · rename_i k' hk'
        rw [ih hk']
        exact h
      · cases h
theorem TrL.loc_low {σ : List Ob} {n : Nat} {bor b : List Nat} : ∀ {d : List D} {S : List Nat} {v : List V}, TrL σ d S v → (∀ u ∈ v, ∀ r, u.root = some r → r < n) → v.map (V.loc σ (List.range n ++ b) bor) = v
  | [], S, v, h, _ => by obtain ⟨_, rfl⟩ := h.inv_nil; rfl
  | d :: ds, S, v, h, hr => by
    obtain ⟨u, l, S1, S2, rfl, rfl, _, h1, h2⟩ := h.inv_cons
    rw [List.map_cons, h2.loc_low (fun x hx => hr x (List.mem_cons_of_mem _ hx))]
    congr 1
    cases d with
    | t x => rw [Tr] at h1; rw [h1.2.1]; rfl
    | nil => rw [Tr] at h1; rw [h1.2]; rfl
    | ow g sz es =>
      rw [Tr] at h1
      obtain ⟨r, ver, m, es, S', rfl, _, rfl, h4, h5, hzz⟩ := h1
      have := hr _ List.mem_cons_self r rfl
      simp only [V.loc, idx_app_left (idx_range this)]
/-- Where such a function returns. -/
theorem retW {rs : List ResultVar} {h0 : Nat} {s : St} {σ0 : List Ob} {ws : List V} {vs2 us1 : List V} {es1 es2 : List D} {S : List Nat} {Q : Shp → List D → List D → Prop} (sh : Shp) (hr : rs.mapM (resQ P s) = some ws) (hv : tupV ws = sh.v us1) (hl1 : us1.length = es1.length) (hl : σ0.length ≤ s.σ.length)
    (ht : TrL s.σ (es1 ++ es2) S (us1 ++ vs2)) (hlow : ∀ u ∈ vs2, ∀ r, u.root = some r → r < σ0.length) (hq : Q sh es1 es2) (hle : ∀ (r : Nat) (o : Ob), σ0[r]? = some o → ∃ o' : Ob, s.σ[r]? = some o' ∧ o.le o') :
    retK P rs σ0 h0 (fun _ _ r σ' => ∃ (sh : Shp) (es1 es2 : List D) (us1 : List V) (S' : List Nat), r = sh.v us1 ∧ us1.length = es1.length ∧ TrL σ' (es1 ++ es2) S' (us1 ++ vs2) ∧ Q sh es1 es2 ∧ (∀ (r : Nat) (o : Ob), σ0[r]? = some o → ∃ o' : Ob, σ'[r]? = some o' ∧ o.le o')) s := by
  have hn : (List.range σ0.length ++ S.filter (σ0.length ≤ ·)).Nodup := by
    refine List.nodup_append.2 ⟨List.nodup_range, ht.nodup.filter _, fun a ha b hb he => ?_⟩
    subst he
    have h1 := List.mem_range.1 ha
    have h2 := (List.mem_filter.1 hb).2
    simp at h2
    omega
  have hk : ∀ r ∈ List.range σ0.length ++ S.filter (σ0.length ≤ ·), r < s.σ.length := fun r hr => by
    rcases List.mem_append.1 hr with hr | hr
    · have := List.mem_range.1 hr; omega
    · exact ht.lt r (List.mem_filter.1 hr).1
  have hS : ∀ r ∈ S, r ∈ List.range σ0.length ++ S.filter (σ0.length ≤ ·) := fun r hr => by
    by_cases h : r < σ0.length
    · exact List.mem_append_left _ (List.mem_range.2 h)
    · exact List.mem_append_right _ (List.mem_filter.2 ⟨hr, by simp; omega⟩)
  have hle' : ∀ (r : Nat) (o : Ob), σ0[r]? = some o → ∃ o' : Ob, (locObs s.σ (List.range σ0.length ++ S.filter (σ0.length ≤ ·)) [])[r]? = some o' ∧ o.le o' := fun r o ho => by
    obtain ⟨o', h1, h2⟩ := hle r o ho
    have hlt := (List.getElem?_eq_some_iff.1 ho).1
    refine ⟨_, locObs_get ?_ h1, h2.trans_ (o'.loc_le _ _ _)⟩
    rw [List.getElem?_append_left (by simpa using hlt), List.getElem?_range hlt]
  refine ⟨ws, hr, _, [], hn, hk, (fun r _ h => by cases h), fun hi _ => ⟨sh, es1, es2, us1.map (V.loc s.σ (List.range σ0.length ++ S.filter (σ0.length ≤ ·)) []), S.map (fun r => (idx (List.range σ0.length ++ S.filter (σ0.length ≤ ·)) r).getD 0), by rw [hv, Shp.loc], by rw [List.length_map, hl1], ?_, hq, hle'⟩, hle'⟩
  have h1 := ht.locK (bor := []) hn hS
  rw [List.map_append] at h1
  have h2 : vs2.map (V.loc s.σ (List.range σ0.length ++ S.filter (σ0.length ≤ ·)) []) = vs2 := by
    obtain ⟨S1, S2, _, _, _, h3⟩ := ht.split hl1
    exact h3.loc_low hlow
  rw [h2] at h1
  exact h1
/-- A slice of one's own that may grow. -/
def D.grows (sz : Nat) : D → Prop
  | .nil => True
  | .ow _ s _ => s = sz
  | .t _ => False
theorem Tr.tb {sz : Nat} {d : D} {S : List Nat} {v : V} {g : Nat} {cs : List (List T)} (h : Tr σ d S v) (hd : d.er = .sl g cs) (hg : d.grows sz) : ∃ ds, Tb σ sz ds S v ∧ D.erLL ds = cs := by
  rcases h.er_sl hd with ⟨rfl, rfl, rfl, rfl⟩ | ⟨ds, r, ver, s, m, es, S', rfl, h1, h2, h3, h4, h5, h6, h7⟩
  · exact ⟨[], Tb_nil, rfl⟩
  · have hs : s = sz := hg
    subst hs
    exact ⟨ds, .inr ⟨r, g, ver, m, es, S', h1, h2, h3, h4, h5, h6⟩, h7⟩
theorem Tb.trG {sz : Nat} {ds : List (List D)} {S : List Nat} {v : V} (h : Tb σ sz ds S v) : ∃ d g, Tr σ d S v ∧ d.er = .sl g (D.erLL ds) ∧ d.grows sz := by
  rcases h with ⟨rfl, rfl, rfl⟩ | ⟨r, g, ver, m, es, S', h1, h2, h3, h4, h5, hz⟩
  · exact ⟨.nil, 0, Tr_nil, rfl, trivial⟩
  · exact ⟨.ow g sz ds, g, by rw [Tr]; exact ⟨r, ver, m, es, S', h1, h2, h3, h4, h5, hz⟩, rfl, rfl⟩
theorem Tb.Ts {ds : List (List D)} {S : List Nat} {v : V} {xs : List ByteArray} (h : Tb σ 1 ds S v) (hd : D.erLL ds = Ts xs) : ds = Ds xs := by
  rcases h with ⟨rfl, rfl, rfl⟩ | ⟨r, g, ver, m, es, S', h1, h2, h3, h4, h5, hz⟩
  · cases xs with
    | nil => rfl
    | cons x l => cases hd
  · exact (h5.er_Ts hd).2.2
end
end Go.VL
namespace Go.VL
set_option linter.unusedVariables false
set_option linter.unusedSimpArgs false

mutual
/-- Every node in turn, a node before its arguments. -/
def E.foG {τ : Type} (st : E → τ → τ) : E → τ → τ
  | .mk k n us, v => E.foGL st us (st (.mk k n us) v)
def E.foGL {τ : Type} (st : E → τ → τ) : List E → τ → τ
  | [], v => v
  | e :: l, v => E.foGL st l (E.foG st e v)
end
theorem E.foGL_drop {τ : Type} {st : E → τ → τ} {l : List E} {n : Nat} {v : τ} (h : n < l.length) : E.foGL st (l.drop n) v = E.foGL st (l.drop (n + 1)) (E.foG st l[n] v) := by rw [drop_get h, E.foGL]
theorem WCtr.intro1 {W0 : World} {P : Program} {f : FuncId} {args : List V → List V → List V} {d : D} {Q : Shp → List D → List D → Prop}
    (h : ∀ (σ : List Ob) (v : V), Tr σ d (List.range σ.length) v → Ctr W0 P f (args [v] []) σ (fun _ _ r σ' => ∃ (sh : Shp) (es1 es2 : List D) (us1 : List V) (S' : List Nat),
      r = sh.v us1 ∧ us1.length = es1.length ∧ TrL σ' (es1 ++ es2) S' (us1 ++ []) ∧ Q sh es1 es2 ∧ (∀ (r : Nat) (o : Ob), σ[r]? = some o → ∃ o' : Ob, σ'[r]? = some o' ∧ o.le o'))) : WCtr W0 P f args [d] [] Q := by
  intro σ vs1 vs2 hl hT
  obtain ⟨v, rfl⟩ := List.length_eq_one_iff.1 hl
  have h1 := hT.len
  have h2 : vs2 = [] := List.length_eq_zero_iff.1 (by simpa using h1)
  subst h2
  obtain ⟨v', he, h3⟩ := TrL.inv_one (vs := [v]) hT
  injection he with he
  subst he
  exact h σ v h3
theorem loc_cellp {σ : List Ob} {K0 : List Nat} (hn : K0.Nodup) : ∀ {ds : List D} {S : List Nat} {vs : List V}, TrL σ ds S vs → (∀ r ∈ S, r ∈ K0) → (vs.map V.cellp).map (V.loc σ K0 []) = (vs.map (V.loc σ K0 [])).map V.cellp
  | [], S, vs, h, _ => by obtain ⟨_, rfl⟩ := h.inv_nil; rfl
  | d :: ds, S, vs, h, hs => by
    obtain ⟨u, l, S1, S2, rfl, rfl, _, h1, h2⟩ := h.inv_cons
    rw [List.map_cons, List.map_cons, List.map_cons, List.map_cons, loc_cellp hn h2 (fun r hr => hs r (List.mem_append_right _ hr))]
    congr 1
    cases d with
    | t x => rw [Tr] at h1; rw [h1.2.1]; rfl
    | nil => rw [Tr] at h1; rw [h1.2]; rfl
    | ow g sz es =>
      rw [Tr] at h1
      obtain ⟨r, ver, m, es, S', rfl, _, rfl, h4, h5, hzz⟩ := h1
      obtain ⟨i, hi, he⟩ := List.mem_iff_getElem.1 (hs r (List.mem_append_left _ List.mem_cons_self))
      have hk := idx_get hn (List.getElem?_eq_getElem hi)
      rw [he] at hk
      simp only [V.cellp, V.loc, hk]
theorem vc_seqK {W0 : World} {P : Program} {K : Exit → St → Prop} {s : St} {a b : Code} (J : St → Prop) (h1 : ∀ K' : St → Prop, (∀ s, J s → K' s) → vcC W0 P a (thenK K' K) s) (h2 : ∀ s, J s → vcC W0 P b K s) : vcC W0 P (.seq a b) K s := vc_seqJ J (h1 J (fun s h => h)) h2
theorem sv_unit (vs : List V) : Shp.v .unit vs = .tup [] := rfl
theorem set_new (σ : List Ob) (o o' : Ob) : (σ ++ [o]).set σ.length o' = σ ++ [o'] := by rw [List.set_append_right _ _ (Nat.le_refl _), Nat.sub_self]; rfl
attribute [go_sem] sv_unit set_new
theorem TrL.root {σ : List Ob} : ∀ {ds : List D} {S : List Nat} {vs : List V}, TrL σ ds S vs → ∀ u ∈ vs, ∀ r, u.root = some r → r ∈ S
  | [], S, vs, h => by obtain ⟨_, rfl⟩ := h.inv_nil; exact fun u hu => by cases hu
  | d :: ds, S, vs, h => by
    obtain ⟨v, l, S1, S2, rfl, rfl, _, h1, h2⟩ := h.inv_cons
    intro u hu r hr
    rcases List.mem_cons.1 hu with rfl | hu
    · cases d with
      | t x => rw [Tr] at h1; rw [h1.2.1] at hr; cases hr
      | nil => rw [Tr] at h1; rw [h1.2] at hr; cases hr
      | ow g sz es =>
        rw [Tr] at h1
        obtain ⟨q, ver, m, es, S', rfl, _, rfl, h4, h5, hzz⟩ := h1
        injection hr with hr
        subst hr
        exact List.mem_append_left _ List.mem_cons_self
    · exact List.mem_append_right _ (h2.root u hu r hr)
theorem more_le (σ : List Ob) (o : Ob) : ∀ (q : Nat) (o1 : Ob), σ[q]? = some o1 → ∃ o' : Ob, (σ ++ [o])[q]? = some o' ∧ o1.le o' := fun q o1 ho => ⟨o1, by rw [get_old (List.getElem?_eq_some_iff.1 ho).1]; exact ho, o1.le_refl⟩
theorem loc_fn_cellp {σ : List Ob} {K0 : List Nat} {f : FuncId} (hn : K0.Nodup) {ds : List D} {S : List Nat} {vs : List V} (h : TrL σ ds S vs) (hs : ∀ r ∈ S, r ∈ K0) : V.loc σ K0 [] (.fn f (vs.map V.cellp)) = .fn f ((vs.map (V.loc σ K0 [])).map V.cellp) := by
  rw [V.loc, V.locs_eq, loc_cellp hn h hs]
/-- Where a function that writes a tree returns, with more objects than it was handed. -/
theorem retM2 {P : Program} {rs : List ResultVar} {h0 : Nat} {s : St} {σ0 : List Ob} {vs vs' : List V} {ds' : List D} {Q' : List T → Prop} {k' : Int} (hr : rs.mapM (resQ P s) = some vs') (hv : tupV vs' = .t (.int .i64 k')) (hl : σ0.length ≤ s.σ.length) (ht : TrL s.σ ds' (List.range σ0.length) vs) (hq : Q' (D.erL ds'))
    (hle : ∀ (r : Nat) (o : Ob), σ0[r]? = some o → ∃ o' : Ob, s.σ[r]? = some o' ∧ o.le o') :
    retK P rs σ0 h0 (fun _ _ r σ' => r = .t (.int .i64 k') ∧ (∃ ds', TrL σ' ds' (List.range σ'.length) vs ∧ Q' (D.erL ds')) ∧ σ'.length = σ0.length ∧ (∀ (r : Nat) (o : Ob), σ0[r]? = some o → ∃ o' : Ob, σ'[r]? = some o' ∧ o.le o')) s := by
  have hle' : ∀ (r : Nat) (o : Ob), σ0[r]? = some o → ∃ o' : Ob, (locObs s.σ (List.range σ0.length) [])[r]? = some o' ∧ o.le o' := fun r o ho => by
    obtain ⟨o', h1, h2⟩ := hle r o ho
    have hlt := (List.getElem?_eq_some_iff.1 ho).1
    exact ⟨_, locObs_get (by rw [List.getElem?_range hlt]) h1, h2.trans_ (o'.loc_le _ _ _)⟩
  refine ⟨vs', hr, List.range σ0.length, [], List.nodup_range, (fun r hr => by have := List.mem_range.1 hr; omega), (fun r _ h => by cases h), fun hi _ => ⟨by rw [hv]; rfl, ⟨ds', ?_, hq⟩, by rw [locObs_len, List.length_range], hle'⟩, hle'⟩
  have h1 := ht.locK (K0 := List.range σ0.length) (bor := []) List.nodup_range (fun r hr => hr)
  have h2 := ht.loc_low (n := σ0.length) (bor := []) (b := []) (fun u hu r hr => List.mem_range.1 (ht.root u hu r hr))
  rw [List.append_nil] at h2
  rw [h2, map_idx List.nodup_range, List.length_range] at h1
  rw [locObs_len, List.length_range]
  exact h1
/-- A cell of one's own. -/
theorem Tr.cell {σ : List Ob} {g : Nat} {d : D} {S : List Nat} {v : V} (h : Tr σ (.ow g 1 [[d]]) S v) : ∃ (r ver m : Nat) (u : V) (S' : List Nat), S = r :: S' ∧ r ∉ S' ∧ v = .own r ver 0 1 ∧ σ[r]? = some (.row g ver 1 m [[u]]) ∧ Tr σ d S' u := by
  rw [Tr] at h
  obtain ⟨r, ver, m, es, S', h1, h2, h3, h4, h5, h6⟩ := h
  rw [TrLL] at h5
  obtain ⟨vs, l, S1, S2, rfl, rfl, _, h7, h8⟩ := h5
  rw [TrLL] at h8
  obtain ⟨rfl, rfl⟩ := h8
  obtain ⟨u, rfl, h9⟩ := h7.inv_one
  rw [List.append_nil] at *
  exact ⟨r, ver, m, u, S1, h1, h2, h3, h4, h9⟩
theorem Tr.of_cell {σ : List Ob} {g r ver m : Nat} {d : D} {u : V} {S' : List Nat} (hr : r ∉ S') (h4 : σ[r]? = some (.row g ver 1 m [[u]])) (h9 : Tr σ d S' u) : Tr σ (.ow g 1 [[d]]) (r :: S') (.own r ver 0 1) := by
  rw [Tr]
  exact ⟨r, ver, m, [[u]], S', rfl, hr, rfl, h4, TrLL_one (TrL_one h9), fun e he => by obtain rfl := List.mem_singleton.1 he; rfl⟩
end Go.VL
namespace Go.VL
set_option linter.unusedVariables false
set_option linter.unusedSimpArgs false

theorem bk_range {n m r : Nat} (h : r < n) : bk (List.range n) m r = r := by
  unfold bk
  rw [List.getElem?_range h]
/-- An object that names none but the first ones. -/
def Ob.shut (n : Nat) (o : Ob) : Prop := (∀ σ bor, o.loc σ (List.range n) bor = o) ∧ ∀ m, o.back (List.range n) m = o
theorem shut_t {n g ver sz m : Nat} {ts : List (List T)} : Ob.shut n (.row g ver sz m (ts.map (·.map V.t))) := by
  refine ⟨fun σ bor => ?_, fun k => ?_⟩
  · simp [Ob.loc, Function.comp_def, V.loc]
  · simp [Ob.back, Function.comp_def, V.back]
theorem shut_cell {n g ver m : Nat} {x : T} : Ob.shut n (.row g ver 1 m [[.t x]]) := shut_t (ts := [[x]])
theorem shut_map {n g ver m r : Nat} (h : r < n) : Ob.shut n (.row g ver 1 m [[.map r]]) := by
  refine ⟨fun σ bor => ?_, fun k => ?_⟩
  · simp [Ob.loc, V.loc, idx_range h]
  · simp [Ob.back, V.back, bk_range h]
theorem shut_mE {n g : Nat} {ms : List (ByteArray × Int)} : Ob.shut n (.map g (mE ms)) := by
  refine ⟨fun σ bor => ?_, fun k => ?_⟩
  · simp [Ob.loc, mE, Function.comp_def, V.loc]
  · simp [Ob.back, mE, Function.comp_def, V.back]
theorem backObs_all {σ τ σ1 : List Ob} {n : Nat} (hn : σ.length = n) (h1 : σ1.length = n) (hb : ∀ o ∈ σ1, o.shut n) : backObs (σ ++ τ) (List.range n) σ1 = σ1 ++ τ := by
  apply List.ext_getElem?
  intro q
  by_cases hq : q < n
  · have h0 : σ1[q]? = some σ1[q] := List.getElem?_eq_getElem (by omega)
    have h := backObs_get (σ := σ ++ τ) (fp := List.range n) List.nodup_range (fun r hr => by simp at hr ⊢; omega) h0
    rw [bk_range hq, (hb _ (List.getElem_mem (by omega))).2] at h
    rw [h, List.getElem?_append_left (by omega), h0]
  · rw [backObs_other2 (by simp [h1]) (by simp; omega), List.getElem?_append_right (by omega), List.getElem?_append_right (by omega), hn, h1]
theorem locObs_all {σ τ : List Ob} {n : Nat} (hn : σ.length = n) (hb : ∀ o ∈ σ, o.shut n) : locObs (σ ++ τ) (List.range n) [] = σ := by
  apply List.ext_getElem (by simp [locObs, hn])
  intro i h1 h2
  have h3 : (List.range n)[i]? = some i := List.getElem?_range (by omega)
  have h4 : (σ ++ τ)[i]? = some σ[i] := by rw [List.getElem?_append_left h2]; exact List.getElem?_eq_getElem h2
  have h := locObs_get (bor := []) h3 h4
  rw [(hb _ (List.getElem_mem h2)).1] at h
  rw [List.getElem?_eq_getElem h1] at h
  simpa using h
/-- What objects may become. -/
def leO (σ σ' : List Ob) : Prop := ∀ (r : Nat) (o : Ob), σ[r]? = some o → ∃ o' : Ob, σ'[r]? = some o' ∧ o.le o'
theorem leO.refl (σ : List Ob) : leO σ σ := fun r o h => ⟨o, h, o.le_refl⟩
theorem leO.trans {σ σ1 σ2 : List Ob} (h1 : leO σ σ1) (h2 : leO σ1 σ2) : leO σ σ2 := le_comp h1 h2
theorem get_at {σ τ : List Ob} {n : Nat} {o : Ob} (h : σ.length = n) : (σ ++ o :: τ)[n]? = some o := by
  subst h
  simp
section
variable {W0 : World} {P : Program} {ops : Array Oper} {l : List (Oper × Bool)} {K : St → Prop} {e : Nat → V} {h : Nat}
/-- A call that takes the first objects along, and gives nothing. -/
theorem x_callA {d : Option Tmp} {f : FuncId} {as_ : Array Operand} {tys : Array TypeId} {ty : TypeId} {pos : String} {af : Array Edge} {fop : Operand} {caps : List V} {σ τ : List Ob} (n : Nat) (args : List V) (R : List Ob → Prop)
    (hc : Ctr W0 P f args σ (fun _ _ r σ' => r = .tup [] ∧ R σ')) (hn : σ.length = n) (hs : ∀ o ∈ σ, o.shut n) (hf : St.eval ⟨e, σ ++ τ, h⟩ fop = .fn f caps)
    (ha : (as_.toList.map (St.eval ⟨e, σ ++ τ, h⟩) ++ caps).map (V.loc (σ ++ τ) (List.range n) []) = args)
    (hR : ∀ σ1, R σ1 → σ1.length = n ∧ ∀ o ∈ σ1, o.shut n)
    (hk : ∀ σ1 h', h ≤ h' → R σ1 → vcX W0 P ops l K ⟨((⟨e, σ ++ τ, h⟩ : St).put d (.tup [])).env, σ1 ++ τ, h'⟩) :
    vcX W0 P ops ((⟨d, .call ⟨.value fop, as_, tys⟩, ty, pos, af, none⟩, true) :: l) K ⟨e, σ ++ τ, h⟩ := by
  refine vcX_callF (List.range n) [] args σ (fun r σ' => r = .tup [] ∧ R σ') hc hf List.nodup_range (fun r hr => by simp at hr ⊢; omega) (fun r _ hr => by cases hr) (locObs_all hn hs) (Subs.of_eq ha) ?_
  rintro r σ1 h' hh ⟨rfl, hR1⟩
  refine ⟨fun q hq => (by cases hq), ?_⟩
  obtain ⟨h1, h2⟩ := hR σ1 hR1
  rw [backObs_all hn h1 h2]
  exact hk σ1 h' hh hR1
/-- A call that gives new objects as they are. -/
theorem x_callNew {d : Option Tmp} {f : FuncId} {as_ : Array Operand} {tys : Array TypeId} {ty : TypeId} {pos : String} {af : Array Edge} {b : Bool} {fop : Operand} {caps : List V} {σ : List Ob} (args : List V) (R : V → List Ob → Prop) (hc : Ctr W0 P f args [] (fun _ _ r σ' => R r σ'))
    (hf : St.eval ⟨e, σ, h⟩ fop = .fn f caps) (ha : Subs ((as_.toList.map (St.eval ⟨e, σ, h⟩) ++ caps).map (V.loc σ [] [])) args)
    (hk : ∀ r σ1 h', h ≤ h' → R r σ1 → vcX W0 P ops l K ⟨((⟨e, σ, h⟩ : St).put d (r.back [] σ.length)).env, σ ++ σ1.map (Ob.back [] σ.length), h'⟩) :
    vcX W0 P ops ((⟨d, .call ⟨.value fop, as_, tys⟩, ty, pos, af, none⟩, b) :: l) K ⟨e, σ, h⟩ := by
  simp only [vcX, vcOp, gd, vcRun, isQuiet, isApp, vcCall, hf]
  rw [if_neg (by simp), if_neg (by simp)]
  refine ⟨[], [], args, _, .nil, (fun r hr => by cases hr), (fun r hr => by cases hr), .inr rfl, ha, hc, fun lo hi r σ1 h1 h2 h3 => ⟨fun q hq => (by cases hq), ?_⟩⟩
  have := hk r σ1 hi (Nat.le_trans h1 h2) h3
  rw [show backObs σ [] σ1 = σ ++ σ1.map (Ob.back [] σ.length) by simp [backObs, backAt_nil]]
  exact this
end
theorem leO_nil : leO [] [] := .refl _
theorem leO_cons {o o' : Ob} {σ σ' : List Ob} (h : o.le o') (hs : leO σ σ') : leO (o :: σ) (o' :: σ') := by
  intro r x hx
  cases r with
  | zero => simp only [List.getElem?_cons_zero, Option.some.injEq] at hx; subst hx; exact ⟨o', rfl, h⟩
  | succ r => exact hs r x (by simpa using hx)
def shuts (n : Nat) (σ : List Ob) : Prop := ∀ o ∈ σ, o.shut n
theorem shuts_nil {n : Nat} : shuts n [] := fun o h => by cases h
theorem shuts_cons {n : Nat} {o : Ob} {σ : List Ob} (h : o.shut n) (hs : shuts n σ) : shuts n (o :: σ) := fun x hx => by
  rcases List.mem_cons.1 hx with rfl | hx
  · exact h
  · exact hs x hx
theorem loc_mE {σ : List Ob} {fp bor : List Nat} {g : Nat} {ms : List (ByteArray × Int)} : Ob.loc σ fp bor (.map g (mE ms)) = .map g (mE ms) := by simp [Ob.loc, mE, Function.comp_def, V.loc]
theorem locm_mE {σ : List Ob} {fp bor : List Nat} {ms : List (ByteArray × Int)} : (mE ms).map (fun p => (p.1, V.loc σ fp bor p.2)) = mE ms := by simp [mE, Function.comp_def, V.loc]
theorem backm_mE {fp : List Nat} {n : Nat} {ms : List (ByteArray × Int)} : (mE ms).map (fun p => (p.1, V.back fp n p.2)) = mE ms := by simp [mE, Function.comp_def, V.back]
attribute [go_sem, simp] locm_mE backm_mE
theorem back_mE {fp : List Nat} {n g : Nat} {ms : List (ByteArray × Int)} : Ob.back fp n (.map g (mE ms)) = .map g (mE ms) := by simp [Ob.back, mE, Function.comp_def, V.back]
/-! ### strings appended -/
theorem Vs_ok1 (xs : List ByteArray) : ∀ e ∈ Vs xs, e.length = 1 ∧ ∀ c ∈ e, V.leaf c = true := by
  intro e he
  obtain ⟨x, _, rfl⟩ := List.mem_map.1 he
  exact ⟨rfl, fun c hc => by obtain rfl := List.mem_singleton.1 hc; rfl⟩
theorem Vs_of (xs : List ByteArray) : (xs.map fun s => [T.str s]).map (·.map V.t) = Vs xs := Ts_V xs
/-- Strings appended to nothing: nothing old is touched. -/
theorem x_appS0 {W0 : World} {P : Program} {ops : Array Oper} {l : List (Oper × Bool)} {K : St → Prop} {e : Nat → V} {σ : List Ob} {h : Nat} {d : Tmp} {x y : Operand} {t t2 t' : TypeId} {ty : TypeId} {pos : String} {af : Array Edge} {bs : Nat} {z : List V} {b : Bool} (ys : List ByteArray) (h1 : tElem P t = some t') (h2 : tSize P t' = some 1) (h3 : tZero P t' = some z) (h4 : tBytes P t' = some bs)
    (hx : St.eval ⟨e, σ, h⟩ x = .nil0) (hy : appElems P ⟨e, σ, h⟩ 1 (some z) t2 (St.eval ⟨e, σ, h⟩ y) = some (Vs ys)) (hz : z.length = 1 ∧ 0 < 1 ∧ 0 < bs)
    (hb : 2 * ys.length * bs ≤ 281474976710656)
    (hk : ∀ v' S' σ' h', Tb σ' 1 (Ds ys) S' v' → (∀ r, r < σ.length → σ'[r]? = σ[r]?) → (∀ r ∈ S', σ.length ≤ r) → h ≤ h' → vcX W0 P ops l K ⟨upd e d v', σ', h'⟩) :
    vcX W0 P ops ((⟨some d, .call ⟨.builtin .append, #[x, y], #[t, t2]⟩, ty, pos, af, none⟩, b) :: l) K ⟨e, σ, h⟩ := by
  by_cases hne : ys = []
  · subst hne
    rw [vcX_append_nil h1 h2 h3 h4 hx hy]
    refine ⟨hz.1, hz.2.1, hz.2.2, Vs_ok1 _, by simp [Vs], ?_⟩
    rw [if_pos (by rfl)]
    exact hk _ [] _ _ Tb_nil (fun _ _ => rfl) (fun r hr => by cases hr) (Nat.le_refl _)
  · have hl0 : (Vs ys).length ≠ 0 := by rw [Vs_len]; exact fun h => hne (List.length_eq_zero_iff.1 h)
    refine x_app_nil (Vs ys) h1 h2 h3 h4 hx hy hz (Vs_ok1 _) (by rw [Vs_len]; simpa using hb) hl0 (fun g n hg => ?_)
    exact hk _ [σ.length] _ _ (.inr ⟨σ.length, g, 0, n, Vs ys, [], rfl, by simp, rfl, by simp, TrLL_Ds ys, Vs_1 ys⟩) (fun q hq => get_old hq) (fun q hq => by obtain rfl := List.mem_singleton.1 hq; exact Nat.le_refl _) (by omega)
theorem x_appS {W0 : World} {P : Program} {ops : Array Oper} {l : List (Oper × Bool)} {K : St → Prop} {e : Nat → V} {σ : List Ob} {h : Nat} {d : Tmp} {x y : Operand} {t t2 t' : TypeId} {ty : TypeId} {pos : String} {af : Array Edge} {bs : Nat} {z : List V} {xs : List ByteArray} {S : List Nat} {v : V} (ys : List ByteArray) (h1 : tElem P t = some t') (h2 : tSize P t' = some 1) (h3 : tZero P t' = some z) (h4 : tBytes P t' = some bs)
    (hx : St.eval ⟨e, σ, h⟩ x = v) (ho : Tb σ 1 (Ds xs) S v) (hy : appElems P ⟨e, σ, h⟩ 1 (some z) t2 (St.eval ⟨e, σ, h⟩ y) = some (Vs ys)) (hz : z.length = 1 ∧ 0 < 1 ∧ 0 < bs)
    (hb : 2 * (xs.length + ys.length) * bs ≤ 281474976710656)
    (hk : ∀ v' S' σ' h', Tb σ' 1 (Ds (xs ++ ys)) S' v' → (∀ r, r < σ.length → r ∉ S → σ'[r]? = σ[r]?) → (∀ r ∈ S', r ∈ S ∨ σ.length ≤ r) → h ≤ h' → vcX W0 P ops l K ⟨upd e d v', σ', h'⟩) :
    vcX W0 P ops ((⟨some d, .call ⟨.builtin .append, #[x, y], #[t, t2]⟩, ty, pos, af, none⟩, true) :: l) K ⟨e, σ, h⟩ := by
  rcases ho with ⟨hd, rfl, rfl⟩ | ⟨r, g, ver, m, es, S', rfl, k2, rfl, k4, k5, kz⟩
  · obtain rfl : xs = [] := List.length_eq_zero_iff.1 (by rw [← Ds_len, hd]; rfl)
    by_cases hne : ys = []
    · subst hne
      rw [vcX_append_nil h1 h2 h3 h4 hx hy]
      refine ⟨hz.1, hz.2.1, hz.2.2, Vs_ok1 _, by simp [Vs], ?_⟩
      rw [if_pos (by rfl)]
      exact hk _ [] _ _ Tb_nil (fun _ _ _ => rfl) (fun r hr => by cases hr) (Nat.le_refl _)
    · have hl0 : (Vs ys).length ≠ 0 := by rw [Vs_len]; exact fun h => hne (List.length_eq_zero_iff.1 h)
      refine x_app_nil (Vs ys) h1 h2 h3 h4 hx hy hz (Vs_ok1 _) (by rw [Vs_len]; simpa using hb) hl0 (fun g n hg => ?_)
      exact hk _ [σ.length] _ _ (.inr ⟨σ.length, g, 0, n, Vs ys, [], rfl, by simp, rfl, by simp, TrLL_Ds ys, Vs_1 ys⟩) (fun q hq _ => get_old hq) (fun q hq => by obtain rfl := List.mem_singleton.1 hq; exact .inr (Nat.le_refl _)) (by omega)
  · have hlen : es.length = xs.length := by have := k5.len; rw [Ds_len] at this; exact this
    refine x_app_own (r := r) (g := g) (v := ver) (m := m) (es0 := es) (Vs ys) h1 h2 h3 h4 hx k4 hy hz (Vs_ok1 _) ⟨rfl, rfl⟩ (by rw [hlen, Vs_len]; exact hb) (fun g' n' h' hh _ => ?_)
    have hrl := (List.getElem?_eq_some_iff.1 k4).1
    refine hk _ (r :: (S' ++ [])) _ _ (.inr ⟨r, g', ver + 1, n', es ++ Vs ys, S' ++ [], rfl, fun hm => k2 (by simpa using hm), by rw [List.length_append], ?_, ?_, fun e he => (List.mem_append.1 he).elim (kz e) (Vs_1 ys e)⟩) (fun q hq hn => ?_) (fun q hq => ?_) (by omega)
    · rw [List.getElem?_set_self hrl, List.take_length]
    · rw [Ds_app]
      refine (k5.app (TrLL_Ds ys) (Dj_nil _)).keep fun q hq => ?_
      refine List.getElem?_set_ne fun he => ?_
      subst he
      exact k2 (by simpa using hq)
    · exact List.getElem?_set_ne fun he => hn (by rw [← he]; exact List.mem_cons_self)
    · rw [List.append_nil] at hq
      exact .inl hq
end Go.VL
