/- VL, part 25: trees of one's own: rows that hold rows. -/
import Derived.Test.YtlooiifgbiedeaaV24
namespace Go.VL
set_option linter.unusedVariables false
set_option linter.unusedSimpArgs false

/-- Data of one's own: whole rows, each with its block, and plain cells. -/
inductive D where
  | t (x : T)
  | nil
  | ow (g : Nat) (es : List (List D))
mutual
/-- The same as frozen data. -/
def D.er : D → T
  | .t x => x
  | .nil => .sl 0 []
  | .ow g es => .sl g (D.erLL es)
def D.erL : List D → List T
  | [] => []
  | d :: l => D.er d :: D.erL l
def D.erLL : List (List D) → List (List T)
  | [] => []
  | e :: l => D.erL e :: D.erLL l
end
theorem D.erL_len : ∀ l : List D, (D.erL l).length = l.length
  | [] => rfl
  | d :: l => by rw [D.erL, List.length_cons, D.erL_len l, List.length_cons]
theorem D.erLL_len : ∀ l : List (List D), (D.erLL l).length = l.length
  | [] => rfl
  | d :: l => by rw [D.erLL, List.length_cons, D.erLL_len l, List.length_cons]
theorem D.erL_app : ∀ l l' : List D, D.erL (l ++ l') = D.erL l ++ D.erL l'
  | [], l' => rfl
  | d :: l, l' => by rw [List.cons_append, D.erL, D.erL_app l l', D.erL]; rfl
theorem D.erLL_app : ∀ l l' : List (List D), D.erLL (l ++ l') = D.erLL l ++ D.erLL l'
  | [], l' => rfl
  | d :: l, l' => by rw [List.cons_append, D.erLL, D.erLL_app l l', D.erLL]; rfl

def Dj (S S' : List Nat) : Prop := ∀ r ∈ S, r ∉ S'
mutual
/-- A value that stands for data of one's own in the objects σ; S: the rows that it takes. -/
def Tr (σ : List Ob) : D → List Nat → V → Prop
  | .t x, S, v => S = [] ∧ v = .t x ∧ x.ids = [] ∧ ∀ g es, x ≠ .sl g es
  | .nil, S, v => S = [] ∧ v = .nil0
  | .ow g ds, S, v => ∃ (r ver sz m : Nat) (es : List (List V)) (S' : List Nat), S = r :: S' ∧ r ∉ S' ∧ v = .own r ver 0 es.length ∧ σ[r]? = some (.row g ver sz m es) ∧ TrLL σ ds S' es ∧ ∀ e ∈ es, e.length = sz
def TrL (σ : List Ob) : List D → List Nat → List V → Prop
  | [], S, l => S = [] ∧ l = []
  | d :: ds, S, l => ∃ (v : V) (l' : List V) (S1 S2 : List Nat), l = v :: l' ∧ S = S1 ++ S2 ∧ Dj S1 S2 ∧ Tr σ d S1 v ∧ TrL σ ds S2 l'
def TrLL (σ : List Ob) : List (List D) → List Nat → List (List V) → Prop
  | [], S, l => S = [] ∧ l = []
  | d :: ds, S, l => ∃ (v : List V) (l' : List (List V)) (S1 S2 : List Nat), l = v :: l' ∧ S = S1 ++ S2 ∧ Dj S1 S2 ∧ TrL σ d S1 v ∧ TrLL σ ds S2 l'
end
theorem Tr_t {σ : List Ob} {x : T} (h : x.ids = []) (hn : ∀ g es, x ≠ .sl g es) : Tr σ (.t x) [] (.t x) := by rw [Tr]; exact ⟨rfl, rfl, h, hn⟩
theorem Tr_int {σ : List Ob} {k : IntKind} {n : Int} : Tr σ (.t (.int k n)) [] (.t (.int k n)) := Tr_t rfl (fun _ _ h => by cases h)
theorem Tr_str {σ : List Ob} {x : ByteArray} : Tr σ (.t (.str x)) [] (.t (.str x)) := Tr_t rfl (fun _ _ h => by cases h)
theorem Tr_bool {σ : List Ob} {x : Bool} : Tr σ (.t (.bool x)) [] (.t (.bool x)) := Tr_t rfl (fun _ _ h => by cases h)
theorem Tr_nil {σ : List Ob} : Tr σ .nil [] .nil0 := by rw [Tr]; exact ⟨rfl, rfl⟩
theorem TrL_nil {σ : List Ob} : TrL σ [] [] [] := by rw [TrL]; exact ⟨rfl, rfl⟩
theorem TrLL_nil {σ : List Ob} : TrLL σ [] [] [] := by rw [TrLL]; exact ⟨rfl, rfl⟩
theorem Dj_nil (S : List Nat) : Dj S [] := fun r _ h => by cases h
theorem Dj_nil' (S : List Nat) : Dj [] S := fun r h => by cases h
theorem TrL_cons {σ : List Ob} {d : D} {ds : List D} {S1 S2 : List Nat} {v : V} {l : List V} (h : Tr σ d S1 v) (hl : TrL σ ds S2 l) (hd : Dj S1 S2) : TrL σ (d :: ds) (S1 ++ S2) (v :: l) := by
  rw [TrL]; exact ⟨v, l, S1, S2, rfl, rfl, hd, h, hl⟩
theorem TrL_leaf {σ : List Ob} {d : D} {ds : List D} {S2 : List Nat} {v : V} {l : List V} (h : Tr σ d [] v) (hl : TrL σ ds S2 l) : TrL σ (d :: ds) S2 (v :: l) := TrL_cons h hl (Dj_nil' _)
theorem TrL_one {σ : List Ob} {d : D} {S : List Nat} {v : V} (h : Tr σ d S v) : TrL σ [d] S [v] := by
  have := TrL_cons h TrL_nil (Dj_nil _)
  rwa [List.append_nil] at this
theorem TrLL_cons {σ : List Ob} {d : List D} {ds : List (List D)} {S1 S2 : List Nat} {v : List V} {l : List (List V)} (h : TrL σ d S1 v) (hl : TrLL σ ds S2 l) (hd : Dj S1 S2) : TrLL σ (d :: ds) (S1 ++ S2) (v :: l) := by
  rw [TrLL]; exact ⟨v, l, S1, S2, rfl, rfl, hd, h, hl⟩
theorem TrLL_one {σ : List Ob} {d : List D} {S : List Nat} {v : List V} (h : TrL σ d S v) : TrLL σ [d] S [v] := by
  have := TrLL_cons h TrLL_nil (Dj_nil _)
  rwa [List.append_nil] at this

mutual
theorem Tr.nodup {σ : List Ob} : ∀ {d : D} {S : List Nat} {v : V}, Tr σ d S v → S.Nodup
  | .t x, S, v, h => by rw [Tr] at h; rw [h.1]; exact .nil
  | .nil, S, v, h => by rw [Tr] at h; rw [h.1]; exact .nil
  | .ow g ds, S, v, h => by
    rw [Tr] at h
    obtain ⟨r, ver, sz, m, es, S', rfl, hr, _, _, h5, hz⟩ := h
    exact List.nodup_cons.2 ⟨hr, TrLL.nodup h5⟩
theorem TrL.nodup {σ : List Ob} : ∀ {d : List D} {S : List Nat} {v : List V}, TrL σ d S v → S.Nodup
  | [], S, v, h => by rw [TrL] at h; rw [h.1]; exact .nil
  | d :: ds, S, v, h => by
    rw [TrL] at h
    obtain ⟨_, _, S1, S2, _, rfl, hd, h1, h2⟩ := h
    exact List.nodup_append.2 ⟨Tr.nodup h1, TrL.nodup h2, fun a ha b hb e => hd a ha (e ▸ hb)⟩
theorem TrLL.nodup {σ : List Ob} : ∀ {d : List (List D)} {S : List Nat} {v : List (List V)}, TrLL σ d S v → S.Nodup
  | [], S, v, h => by rw [TrLL] at h; rw [h.1]; exact .nil
  | d :: ds, S, v, h => by
    rw [TrLL] at h
    obtain ⟨_, _, S1, S2, _, rfl, hd, h1, h2⟩ := h
    exact List.nodup_append.2 ⟨TrL.nodup h1, TrLL.nodup h2, fun a ha b hb e => hd a ha (e ▸ hb)⟩
end
mutual
theorem Tr.lt {σ : List Ob} : ∀ {d : D} {S : List Nat} {v : V}, Tr σ d S v → ∀ r ∈ S, r < σ.length
  | .t x, S, v, h => by rw [Tr] at h; rw [h.1]; exact fun r hr => by cases hr
  | .nil, S, v, h => by rw [Tr] at h; rw [h.1]; exact fun r hr => by cases hr
  | .ow g ds, S, v, h => by
    rw [Tr] at h
    obtain ⟨r, ver, sz, m, es, S', rfl, hr, _, h4, h5, hzz⟩ := h
    intro q hq
    rcases List.mem_cons.1 hq with rfl | hq
    · exact (List.getElem?_eq_some_iff.1 h4).1
    · exact TrLL.lt h5 q hq
theorem TrL.lt {σ : List Ob} : ∀ {d : List D} {S : List Nat} {v : List V}, TrL σ d S v → ∀ r ∈ S, r < σ.length
  | [], S, v, h => by rw [TrL] at h; rw [h.1]; exact fun r hr => by cases hr
  | d :: ds, S, v, h => by
    rw [TrL] at h
    obtain ⟨_, _, S1, S2, _, rfl, hd, h1, h2⟩ := h
    intro q hq
    rcases List.mem_append.1 hq with hq | hq
    · exact Tr.lt h1 q hq
    · exact TrL.lt h2 q hq
theorem TrLL.lt {σ : List Ob} : ∀ {d : List (List D)} {S : List Nat} {v : List (List V)}, TrLL σ d S v → ∀ r ∈ S, r < σ.length
  | [], S, v, h => by rw [TrLL] at h; rw [h.1]; exact fun r hr => by cases hr
  | d :: ds, S, v, h => by
    rw [TrLL] at h
    obtain ⟨_, _, S1, S2, _, rfl, hd, h1, h2⟩ := h
    intro q hq
    rcases List.mem_append.1 hq with hq | hq
    · exact TrL.lt h1 q hq
    · exact TrLL.lt h2 q hq
end
theorem TrL.len {σ : List Ob} : ∀ {d : List D} {S : List Nat} {v : List V}, TrL σ d S v → v.length = d.length
  | [], S, v, h => by rw [TrL] at h; rw [h.2]; rfl
  | d :: ds, S, v, h => by
    rw [TrL] at h
    obtain ⟨_, _, S1, S2, rfl, _, hd, h1, h2⟩ := h
    rw [List.length_cons, h2.len, List.length_cons]
theorem TrLL.len {σ : List Ob} : ∀ {d : List (List D)} {S : List Nat} {v : List (List V)}, TrLL σ d S v → v.length = d.length
  | [], S, v, h => by rw [TrLL] at h; rw [h.2]; rfl
  | d :: ds, S, v, h => by
    rw [TrLL] at h
    obtain ⟨_, _, S1, S2, rfl, _, hd, h1, h2⟩ := h
    rw [List.length_cons, h2.len, List.length_cons]
theorem Tr.leaf {σ : List Ob} : ∀ {d : D} {S : List Nat} {v : V}, Tr σ d S v → v.leaf = true
  | .t x, S, v, h => by rw [Tr] at h; rw [h.2.1]; rfl
  | .nil, S, v, h => by rw [Tr] at h; rw [h.2]; rfl
  | .ow g ds, S, v, h => by
    rw [Tr] at h
    obtain ⟨r, ver, sz, m, es, S', rfl, hr, h3, h4, h5, hzz⟩ := h
    rw [h3]; rfl
theorem TrL.leaf {σ : List Ob} : ∀ {d : List D} {S : List Nat} {v : List V}, TrL σ d S v → ∀ c ∈ v, V.leaf c = true
  | [], S, v, h => by rw [TrL] at h; rw [h.2]; exact fun c hc => by cases hc
  | d :: ds, S, v, h => by
    rw [TrL] at h
    obtain ⟨_, _, S1, S2, rfl, _, hd, h1, h2⟩ := h
    intro c hc
    rcases List.mem_cons.1 hc with rfl | hc
    · exact h1.leaf
    · exact h2.leaf c hc

/-! ### under new numbers -/
/-- What a renumbering of rows does with values. -/
structure Rn (f : Nat → Nat) (F : V → V) (S : List Nat) : Prop where
  own : ∀ r ∈ S, ∀ ver off len, F (.own r ver off len) = .own (f r) ver off len
  t : ∀ x, F (.t x) = .t x
  nil : F .nil0 = .nil0
  inj : ∀ r ∈ S, ∀ q ∈ S, f r = f q → r = q
theorem Rn.sub {f : Nat → Nat} {F : V → V} {S S' : List Nat} (h : Rn f F S) (hs : ∀ r ∈ S', r ∈ S) : Rn f F S' := ⟨fun r hr => h.own r (hs r hr), h.t, h.nil, fun r hr q hq => h.inj r (hs r hr) q (hs q hq)⟩
def Ob.mapV (F : V → V) : Ob → Ob
  | .row g ver sz n es => .row g ver sz n (es.map (·.map F))
  | .map g es => .map g (es.map fun p => (p.1, F p.2))
theorem Rn.dj {f : Nat → Nat} {F : V → V} {S1 S2 : List Nat} (h : Rn f F (S1 ++ S2)) (hd : Dj S1 S2) : Dj (S1.map f) (S2.map f) := by
  intro r hr hr2
  obtain ⟨a, ha, rfl⟩ := List.mem_map.1 hr
  obtain ⟨b, hb, he⟩ := List.mem_map.1 hr2
  have := h.inj b (List.mem_append_right _ hb) a (List.mem_append_left _ ha) he
  subst this
  exact hd b ha hb
mutual
theorem Tr.rn {σ σ' : List Ob} {f : Nat → Nat} {F : V → V} : ∀ {d : D} {S : List Nat} {v : V}, Tr σ d S v → Rn f F S → (∀ r ∈ S, ∀ o, σ[r]? = some o → σ'[f r]? = some (o.mapV F)) → Tr σ' d (S.map f) (F v)
  | .t x, S, v, h, hR, hs => by rw [Tr] at h ⊢; rw [h.1, h.2.1]; exact ⟨rfl, hR.t x, h.2.2⟩
  | .nil, S, v, h, hR, hs => by rw [Tr] at h ⊢; rw [h.1, h.2]; exact ⟨rfl, hR.nil⟩
  | .ow g ds, S, v, h, hR, hs => by
    rw [Tr] at h ⊢
    obtain ⟨r, ver, sz, m, es, S', rfl, hr, h3, h4, h5, hzz⟩ := h
    refine ⟨f r, ver, sz, m, es.map (fun x : List V => x.map F), S'.map f, by simp, fun hm => ?_, ?_, hs r (List.mem_cons_self) _ h4, TrLL.rn h5 (hR.sub fun q hq => List.mem_cons_of_mem _ hq) (fun q hq => hs q (List.mem_cons_of_mem _ hq)), fun e he => by obtain ⟨e0, h0, rfl⟩ := List.mem_map.1 he; rw [List.length_map]; exact hzz e0 h0⟩
    · obtain ⟨b, hb, he⟩ := List.mem_map.1 hm
      have := hR.inj b (List.mem_cons_of_mem _ hb) r List.mem_cons_self he
      exact hr (this ▸ hb)
    · rw [h3, hR.own r List.mem_cons_self, List.length_map]
theorem TrL.rn {σ σ' : List Ob} {f : Nat → Nat} {F : V → V} : ∀ {d : List D} {S : List Nat} {v : List V}, TrL σ d S v → Rn f F S → (∀ r ∈ S, ∀ o, σ[r]? = some o → σ'[f r]? = some (o.mapV F)) → TrL σ' d (S.map f) (v.map F)
  | [], S, v, h, hR, hs => by rw [TrL] at h ⊢; rw [h.1, h.2]; exact ⟨rfl, rfl⟩
  | d :: ds, S, v, h, hR, hs => by
    rw [TrL] at h ⊢
    obtain ⟨u, l, S1, S2, rfl, rfl, hd, h1, h2⟩ := h
    exact ⟨F u, l.map F, S1.map f, S2.map f, rfl, by simp, hR.dj hd, Tr.rn h1 (hR.sub fun q hq => List.mem_append_left _ hq) (fun q hq => hs q (List.mem_append_left _ hq)), TrL.rn h2 (hR.sub fun q hq => List.mem_append_right _ hq) (fun q hq => hs q (List.mem_append_right _ hq))⟩
theorem TrLL.rn {σ σ' : List Ob} {f : Nat → Nat} {F : V → V} : ∀ {d : List (List D)} {S : List Nat} {v : List (List V)}, TrLL σ d S v → Rn f F S → (∀ r ∈ S, ∀ o, σ[r]? = some o → σ'[f r]? = some (o.mapV F)) → TrLL σ' d (S.map f) (v.map (·.map F))
  | [], S, v, h, hR, hs => by rw [TrLL] at h ⊢; rw [h.1, h.2]; exact ⟨rfl, rfl⟩
  | d :: ds, S, v, h, hR, hs => by
    rw [TrLL] at h ⊢
    obtain ⟨u, l, S1, S2, rfl, rfl, hd, h1, h2⟩ := h
    exact ⟨u.map F, l.map (·.map F), S1.map f, S2.map f, rfl, by simp, hR.dj hd, TrL.rn h1 (hR.sub fun q hq => List.mem_append_left _ hq) (fun q hq => hs q (List.mem_append_left _ hq)), TrLL.rn h2 (hR.sub fun q hq => List.mem_append_right _ hq) (fun q hq => hs q (List.mem_append_right _ hq))⟩
end
/-! ### rows elsewhere turn -/
mutual
theorem Tr.keep {σ σ' : List Ob} : ∀ {d : D} {S : List Nat} {v : V}, Tr σ d S v → (∀ r ∈ S, σ'[r]? = σ[r]?) → Tr σ' d S v
  | .t x, S, v, h, hs => by rw [Tr] at h ⊢; exact h
  | .nil, S, v, h, hs => by rw [Tr] at h ⊢; exact h
  | .ow g ds, S, v, h, hs => by
    rw [Tr] at h ⊢
    obtain ⟨r, ver, sz, m, es, S', rfl, hr, h3, h4, h5, hzz⟩ := h
    exact ⟨r, ver, sz, m, es, S', rfl, hr, h3, (hs r List.mem_cons_self).trans h4, TrLL.keep h5 fun q hq => hs q (List.mem_cons_of_mem _ hq), hzz⟩
theorem TrL.keep {σ σ' : List Ob} : ∀ {d : List D} {S : List Nat} {v : List V}, TrL σ d S v → (∀ r ∈ S, σ'[r]? = σ[r]?) → TrL σ' d S v
  | [], S, v, h, hs => by rw [TrL] at h ⊢; exact h
  | d :: ds, S, v, h, hs => by
    rw [TrL] at h ⊢
    obtain ⟨u, l, S1, S2, rfl, rfl, hd, h1, h2⟩ := h
    exact ⟨u, l, S1, S2, rfl, rfl, hd, Tr.keep h1 fun q hq => hs q (List.mem_append_left _ hq), TrL.keep h2 fun q hq => hs q (List.mem_append_right _ hq)⟩
theorem TrLL.keep {σ σ' : List Ob} : ∀ {d : List (List D)} {S : List Nat} {v : List (List V)}, TrLL σ d S v → (∀ r ∈ S, σ'[r]? = σ[r]?) → TrLL σ' d S v
  | [], S, v, h, hs => by rw [TrLL] at h ⊢; exact h
  | d :: ds, S, v, h, hs => by
    rw [TrLL] at h ⊢
    obtain ⟨u, l, S1, S2, rfl, rfl, hd, h1, h2⟩ := h
    exact ⟨u, l, S1, S2, rfl, rfl, hd, TrL.keep h1 fun q hq => hs q (List.mem_append_left _ hq), TrLL.keep h2 fun q hq => hs q (List.mem_append_right _ hq)⟩
end
theorem TrLL.split {σ : List Ob} : ∀ {a b : List (List D)} {S : List Nat} {v : List (List V)}, TrLL σ (a ++ b) S v → ∃ S1 S2 v1 v2, S = S1 ++ S2 ∧ Dj S1 S2 ∧ v = v1 ++ v2 ∧ TrLL σ a S1 v1 ∧ TrLL σ b S2 v2
  | [], b, S, v, h => ⟨[], S, [], v, rfl, Dj_nil' _, rfl, TrLL_nil, h⟩
  | d :: a, b, S, v, h => by
    rw [List.cons_append, TrLL] at h
    obtain ⟨u, l, S1, S2, rfl, rfl, hd, h1, h2⟩ := h
    obtain ⟨S3, S4, v1, v2, rfl, hd2, rfl, h3, h4⟩ := h2.split
    refine ⟨S1 ++ S3, S4, u :: v1, v2, by simp, fun r hr hr2 => ?_, rfl, TrLL_cons h1 h3 (fun r hr hr2 => hd r hr (List.mem_append_left _ hr2)), h4⟩
    rcases List.mem_append.1 hr with hr | hr
    · exact hd r hr (List.mem_append_right _ hr2)
    · exact hd2 r hr hr2
theorem TrLL.app {σ : List Ob} : ∀ {a b : List (List D)} {S S' : List Nat} {v v' : List (List V)}, TrLL σ a S v → TrLL σ b S' v' → Dj S S' → TrLL σ (a ++ b) (S ++ S') (v ++ v')
  | [], b, S, S', v, v', h, h', hd => by rw [TrLL] at h; rw [h.1, h.2]; exact h'
  | d :: a, b, S, S', v, v', h, h', hd => by
    rw [TrLL] at h
    obtain ⟨u, l, S1, S2, rfl, rfl, hd1, h1, h2⟩ := h
    rw [List.append_assoc, List.cons_append, List.cons_append]
    refine TrLL_cons h1 (h2.app h' fun r hr hr2 => hd r (List.mem_append_right _ hr) hr2) (fun r hr hr2 => ?_)
    rcases List.mem_append.1 hr2 with hr2 | hr2
    · exact hd1 r hr hr2
    · exact hd r (List.mem_append_left _ hr) hr2

/-! ### lent as frozen data -/
theorem pigeon : ∀ (n : Nat) (S : List Nat), S.Nodup → (∀ r ∈ S, r < n) → S.length ≤ n
  | 0, S, _, h => by
    cases S with
    | nil => exact Nat.le_refl _
    | cons a l => exact absurd (h a List.mem_cons_self) (Nat.not_lt_zero _)
  | n + 1, S, hn, h => by
    by_cases hm : n ∈ S
    · have h1 := pigeon n (S.erase n) (hn.erase n) (fun r hr => by
        have h2 := h r (List.mem_of_mem_erase hr)
        have h3 : r ≠ n := fun e => by subst e; exact (List.Nodup.not_mem_erase hn) hr
        omega)
      rw [List.length_erase_of_mem hm] at h1
      omega
    · have h1 := pigeon n S hn (fun r hr => by
        have h2 := h r hr
        have h3 : r ≠ n := fun e => hm (e ▸ hr)
        omega)
      omega
mutual
theorem Tr.frz {σ : List Ob} {bor : List Nat} : ∀ {d : D} {S : List Nat} {v : V} {n : Nat}, Tr σ d S v → (∀ r ∈ S, r ∈ bor) → S.length ≤ n → frz σ bor n v = some d.er
  | .t x, S, v, n, h, hb, hn => by rw [Tr] at h; rw [h.2.1, frz_t]; rfl
  | .nil, S, v, n, h, hb, hn => by rw [Tr] at h; rw [h.2]; cases n <;> rfl
  | .ow g ds, S, v, n, h, hb, hn => by
    rw [Tr] at h
    obtain ⟨r, ver, sz, m, es, S', rfl, hr, rfl, h4, h5, hzz⟩ := h
    rw [List.length_cons] at hn
    obtain ⟨n, rfl⟩ : ∃ k, n = k + 1 := ⟨n - 1, by omega⟩
    have h6 := TrLL.frz (n := n) h5 (fun q hq => hb q (List.mem_cons_of_mem _ hq)) (by omega)
    unfold Go.VL.frz
    rw [if_pos (hb r List.mem_cons_self), h4]
    simp only [if_true, List.drop_zero, List.take_length]
    rw [h6, D.er]
theorem TrL.frz {σ : List Ob} {bor : List Nat} : ∀ {d : List D} {S : List Nat} {v : List V} {n : Nat}, TrL σ d S v → (∀ r ∈ S, r ∈ bor) → S.length ≤ n → v.mapM (Go.VL.frz σ bor n) = some (D.erL d)
  | [], S, v, n, h, hb, hn => by rw [TrL] at h; rw [h.2]; rfl
  | d :: ds, S, v, n, h, hb, hn => by
    rw [TrL] at h
    obtain ⟨u, l, S1, S2, rfl, rfl, hd, h1, h2⟩ := h
    rw [List.length_append] at hn
    rw [List.mapM_cons, Tr.frz h1 (fun q hq => hb q (List.mem_append_left _ hq)) (by omega), TrL.frz h2 (fun q hq => hb q (List.mem_append_right _ hq)) (by omega)]
    rfl
theorem TrLL.frz {σ : List Ob} {bor : List Nat} : ∀ {d : List (List D)} {S : List Nat} {v : List (List V)} {n : Nat}, TrLL σ d S v → (∀ r ∈ S, r ∈ bor) → S.length ≤ n → v.mapM (fun e => e.mapM (Go.VL.frz σ bor n)) = some (D.erLL d)
  | [], S, v, n, h, hb, hn => by rw [TrLL] at h; rw [h.2]; rfl
  | d :: ds, S, v, n, h, hb, hn => by
    rw [TrLL] at h
    obtain ⟨u, l, S1, S2, rfl, rfl, hd, h1, h2⟩ := h
    rw [List.length_append] at hn
    rw [List.mapM_cons, TrL.frz h1 (fun q hq => hb q (List.mem_append_left _ hq)) (by omega), TrLL.frz h2 (fun q hq => hb q (List.mem_append_right _ hq)) (by omega)]
    rfl
end
theorem idx_not {fp : List Nat} {r : Nat} (h : r ∉ fp) : idx fp r = none := by
  cases hi : idx fp r with
  | none => rfl
  | some k => exact absurd (idx_mem hi) h
/-- A tree of one's own, lent as frozen data. -/
theorem Tr.lend {σ : List Ob} {fp bor : List Nat} {d : D} {S : List Nat} {v : V} (h : Tr σ d S v) (hb : ∀ r ∈ S, r ∈ bor) (hf : ∀ r ∈ S, r ∉ fp) : Sub (v.loc σ fp bor) (.t d.er) := by
  have hn := pigeon σ.length S h.nodup h.lt
  have hz := h.frz (n := σ.length + 1) hb (by omega)
  cases d with
  | t x => rw [Tr] at h; rw [h.2.1]; exact .refl _
  | nil => rw [Tr] at h; rw [h.2]; exact .nil 0
  | ow g ds =>
    rw [Tr] at h
    obtain ⟨r, ver, sz, m, es, S', rfl, hr, rfl, h4, h5, hzz⟩ := h
    simp only [V.loc, idx_not (hf r List.mem_cons_self), hz]
    exact .refl _
theorem TrL.lend {σ : List Ob} {fp bor : List Nat} : ∀ {d : List D} {S : List Nat} {v : List V}, TrL σ d S v → (∀ r ∈ S, r ∈ bor) → (∀ r ∈ S, r ∉ fp) → Subs (v.map (V.loc σ fp bor)) ((D.erL d).map V.t)
  | [], S, v, h, hb, hf => by rw [TrL] at h; rw [h.2]; exact Subs.refl _
  | d :: ds, S, v, h, hb, hf => by
    rw [TrL] at h
    obtain ⟨u, l, S1, S2, rfl, rfl, hd, h1, h2⟩ := h
    exact Subs.cons (h1.lend (fun q hq => hb q (List.mem_append_left _ hq)) (fun q hq => hf q (List.mem_append_left _ hq))) (h2.lend (fun q hq => hb q (List.mem_append_right _ hq)) (fun q hq => hf q (List.mem_append_right _ hq)))
/-- A struct of one's own, lent. -/
theorem TrL.lendA {σ : List Ob} {fp bor : List Nat} {d : List D} {S : List Nat} {v : List V} (h : TrL σ d S v) (hb : ∀ r ∈ S, r ∈ bor) (hf : ∀ r ∈ S, r ∉ fp) : Sub ((V.agg v).loc σ fp bor) (.agg ((D.erL d).map V.t)) := by
  have hs := h.lend hb hf
  rw [V.loc, V.locs_eq]
  exact .agg hs.1 hs.2

/-! ### taken along to a callee, and back -/
theorem Tr.rnLoc {σ : List Ob} {S bor : List Nat} (hn : S.Nodup) : Rn (fun r => (idx S r).getD 0) (V.loc σ S bor) S where
  own := fun r hr ver off len => by
    obtain ⟨k, hk⟩ : ∃ k, idx S r = some k := by
      obtain ⟨i, hi, rfl⟩ := List.mem_iff_getElem.1 hr
      exact ⟨i, idx_get hn (List.getElem?_eq_getElem hi)⟩
    simp only [V.loc, hk, Option.getD_some]
  t := fun x => rfl
  nil := rfl
  inj := fun r hr q hq he => by
    obtain ⟨i, hi, rfl⟩ := List.mem_iff_getElem.1 hr
    obtain ⟨j, hj, rfl⟩ := List.mem_iff_getElem.1 hq
    simp only [idx_get hn (List.getElem?_eq_getElem hi), idx_get hn (List.getElem?_eq_getElem hj), Option.getD_some] at he
    subst he
    rfl
theorem Ob.loc_mapV (σ : List Ob) (fp bor : List Nat) (o : Ob) : o.loc σ fp bor = o.mapV (V.loc σ fp bor) := by cases o <;> rfl
theorem Ob.back_mapV (fp : List Nat) (n : Nat) (o : Ob) : o.back fp n = o.mapV (V.back fp n) := by cases o <;> rfl
theorem map_idx {S : List Nat} (hn : S.Nodup) : S.map (fun r => (idx S r).getD 0) = List.range S.length := by
  refine List.ext_getElem (by simp) (fun i h1 h2 => ?_)
  rw [List.getElem_map, List.getElem_range]
  rw [idx_get hn (List.getElem?_eq_getElem (by simpa using h1))]
  rfl
theorem locS {σ : List Ob} {S bor : List Nat} (hn : S.Nodup) : ∀ r ∈ S, ∀ o, σ[r]? = some o → (locObs σ S bor)[(idx S r).getD 0]? = some (o.mapV (V.loc σ S bor)) := fun r hr o ho => by
  obtain ⟨i, hi, rfl⟩ := List.mem_iff_getElem.1 hr
  rw [idx_get hn (List.getElem?_eq_getElem hi), Option.getD_some, locObs_get (List.getElem?_eq_getElem hi) ho, Ob.loc_mapV]
theorem TrLL.loc {σ : List Ob} {bor : List Nat} {d : List (List D)} {S : List Nat} {v : List (List V)} (h : TrLL σ d S v) : TrLL (locObs σ S bor) d (List.range S.length) (v.map (·.map (V.loc σ S bor))) := by
  have := h.rn (Tr.rnLoc (σ := σ) (bor := bor) h.nodup) (locS h.nodup)
  rwa [map_idx h.nodup] at this
theorem TrL.loc {σ : List Ob} {bor : List Nat} {d : List D} {S : List Nat} {v : List V} (h : TrL σ d S v) : TrL (locObs σ S bor) d (List.range S.length) (v.map (V.loc σ S bor)) := by
  have := h.rn (Tr.rnLoc (σ := σ) (bor := bor) h.nodup) (locS h.nodup)
  rwa [map_idx h.nodup] at this
theorem Tr.loc {σ : List Ob} {bor : List Nat} {d : D} {S : List Nat} {v : V} (h : Tr σ d S v) : Tr (locObs σ S bor) d (List.range S.length) (v.loc σ S bor) := by
  have := h.rn (Tr.rnLoc (σ := σ) (bor := bor) h.nodup) (locS h.nodup)
  rwa [map_idx h.nodup] at this
theorem locObs_len (σ : List Ob) (fp bor : List Nat) : (locObs σ fp bor).length = fp.length := by simp [locObs]
/-- Rows that a callee gives back. -/
theorem rnBack {fp : List Nat} {n : Nat} {S : List Nat} (hi : ∀ r ∈ S, ∀ q ∈ S, bk fp n r = bk fp n q → r = q) : Rn (bk fp n) (V.back fp n) S := ⟨fun r _ ver off len => rfl, fun x => rfl, rfl, hi⟩
theorem bk_inj {fp : List Nat} {n : Nat} (hn : fp.Nodup) (hl : ∀ r ∈ fp, r < n) (r q : Nat) (h : bk fp n r = bk fp n q) : r = q := by
  unfold bk at h
  cases h1 : fp[r]? with
  | some a =>
    cases h2 : fp[q]? with
    | some b =>
      simp only [h1, h2] at h
      subst h
      exact (List.getElem?_inj (List.getElem?_eq_some_iff.1 h1).1 hn).1 (h1.trans h2.symm)
    | none =>
      simp only [h1, h2] at h
      have := hl a (List.mem_of_getElem? h1)
      omega
  | none =>
    have h3 := List.getElem?_eq_none_iff.1 h1
    cases h2 : fp[q]? with
    | some b =>
      simp only [h1, h2] at h
      have := hl b (List.mem_of_getElem? h2)
      omega
    | none =>
      simp only [h1, h2] at h
      have h4 := List.getElem?_eq_none_iff.1 h2
      omega
theorem TrL.back {σ σ1 : List Ob} {fp : List Nat} (hn : fp.Nodup) (hl : ∀ r ∈ fp, r < σ.length) {d : List D} {S : List Nat} {v : List V} (h : TrL σ1 d S v) : TrL (backObs σ fp σ1) d (S.map (bk fp σ.length)) (v.map (V.back fp σ.length)) :=
  h.rn (rnBack fun r _ q _ e => bk_inj hn hl r q e) (fun r hr o ho => by rw [← Ob.back_mapV]; exact backObs_get hn hl ho)
theorem Tr.back {σ σ1 : List Ob} {fp : List Nat} (hn : fp.Nodup) (hl : ∀ r ∈ fp, r < σ.length) {d : D} {S : List Nat} {v : V} (h : Tr σ1 d S v) : Tr (backObs σ fp σ1) d (S.map (bk fp σ.length)) (v.back fp σ.length) :=
  h.rn (rnBack fun r _ q _ e => bk_inj hn hl r q e) (fun r hr o ho => by rw [← Ob.back_mapV]; exact backObs_get hn hl ho)
theorem TrLL.back {σ σ1 : List Ob} {fp : List Nat} (hn : fp.Nodup) (hl : ∀ r ∈ fp, r < σ.length) {d : List (List D)} {S : List Nat} {v : List (List V)} (h : TrLL σ1 d S v) : TrLL (backObs σ fp σ1) d (S.map (bk fp σ.length)) (v.map (·.map (V.back fp σ.length))) :=
  h.rn (rnBack fun r _ q _ e => bk_inj hn hl r q e) (fun r hr o ho => by rw [← Ob.back_mapV]; exact backObs_get hn hl ho)
theorem map_bk {fp : List Nat} {n : Nat} : (List.range fp.length).map (bk fp n) = fp := by
  refine List.ext_getElem (by simp) (fun i h1 h2 => ?_)
  rw [List.getElem_map, List.getElem_range]
  unfold bk
  rw [List.getElem?_eq_getElem h2]
/-- No frozen blocks hang in a tree of one's own. -/
theorem Tr.ids {σ : List Ob} : ∀ {d : D} {S : List Nat} {v : V}, Tr σ d S v → v.ids = []
  | .t x, S, v, h => by rw [Tr] at h; rw [h.2.1, V.ids, h.2.2.1]
  | .nil, S, v, h => by rw [Tr] at h; rw [h.2, V.ids]
  | .ow g ds, S, v, h => by
    rw [Tr] at h
    obtain ⟨r, ver, sz, m, es, S', rfl, hr, rfl, h4, h5, hzz⟩ := h
    rw [V.ids]
theorem TrL.ids {σ : List Ob} : ∀ {d : List D} {S : List Nat} {v : List V}, TrL σ d S v → V.idsL v = []
  | [], S, v, h => by rw [TrL] at h; rw [h.2, V.idsL]
  | d :: ds, S, v, h => by
    rw [TrL] at h
    obtain ⟨u, l, S1, S2, rfl, rfl, hd, h1, h2⟩ := h
    rw [V.idsL, h1.ids, h2.ids]; rfl
theorem TrLL.ids1 {σ : List Ob} : ∀ {d : List (List D)} {S : List Nat} {v : List (List V)}, TrLL σ d S v → v.flatMap V.idsL = []
  | [], S, v, h => by rw [TrLL] at h; rw [h.2]; rfl
  | d :: ds, S, v, h => by
    rw [TrLL] at h
    obtain ⟨u, l, S1, S2, rfl, rfl, hd, h1, h2⟩ := h
    rw [List.flatMap_cons, h1.ids, h2.ids1]; rfl
mutual
theorem Tr.obids {σ : List Ob} : ∀ {d : D} {S : List Nat} {v : V}, Tr σ d S v → ∀ r ∈ S, ∀ o, σ[r]? = some o → o.ids = []
  | .t x, S, v, h => by rw [Tr] at h; rw [h.1]; exact fun r hr => by cases hr
  | .nil, S, v, h => by rw [Tr] at h; rw [h.1]; exact fun r hr => by cases hr
  | .ow g ds, S, v, h => by
    rw [Tr] at h
    obtain ⟨r, ver, sz, m, es, S', rfl, hr, rfl, h4, h5, hzz⟩ := h
    intro q hq o ho
    rcases List.mem_cons.1 hq with rfl | hq
    · rw [h4] at ho
      simp only [Option.some.injEq] at ho
      subst ho
      exact TrLL.ids1 h5
    · exact TrLL.obids h5 q hq o ho
theorem TrL.obids {σ : List Ob} : ∀ {d : List D} {S : List Nat} {v : List V}, TrL σ d S v → ∀ r ∈ S, ∀ o, σ[r]? = some o → o.ids = []
  | [], S, v, h => by rw [TrL] at h; rw [h.1]; exact fun r hr => by cases hr
  | d :: ds, S, v, h => by
    rw [TrL] at h
    obtain ⟨u, l, S1, S2, rfl, rfl, hd, h1, h2⟩ := h
    intro q hq o ho
    rcases List.mem_append.1 hq with hq | hq
    · exact Tr.obids h1 q hq o ho
    · exact TrL.obids h2 q hq o ho
theorem TrLL.obids {σ : List Ob} : ∀ {d : List (List D)} {S : List Nat} {v : List (List V)}, TrLL σ d S v → ∀ r ∈ S, ∀ o, σ[r]? = some o → o.ids = []
  | [], S, v, h => by rw [TrLL] at h; rw [h.1]; exact fun r hr => by cases hr
  | d :: ds, S, v, h => by
    rw [TrLL] at h
    obtain ⟨u, l, S1, S2, rfl, rfl, hd, h1, h2⟩ := h
    intro q hq o ho
    rcases List.mem_append.1 hq with hq | hq
    · exact TrL.obids h1 q hq o ho
    · exact TrLL.obids h2 q hq o ho
end
end Go.VL
