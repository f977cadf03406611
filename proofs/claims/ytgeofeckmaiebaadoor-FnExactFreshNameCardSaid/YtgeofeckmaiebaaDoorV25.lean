/- A logic of values for walks: parts 25 to 27. -/
import Derived.Test.YtgeofeckmaiebaaDoorV17
namespace Go.VL
set_option linter.unusedVariables false
set_option linter.unusedSimpArgs false

/-- Data of one's own: whole rows, each with its block, and plain cells. -/
inductive D where
  | t (x : T)
  | nil
  | ow (g sz : Nat) (es : List (List D))
mutual
/-- The same as frozen data. -/
def D.er : D → T
  | .t x => x
  | .nil => .sl 0 []
  | .ow g sz es => .sl g (D.erLL es)
def D.erL : List D → List T
  | [] => []
  | d :: l => D.er d :: D.erL l
def D.erLL : List (List D) → List (List T)
  | [] => []
  | e :: l => D.erL e :: D.erLL l
end
theorem D.erL_len : ∀ l : List D, (D.erL l).length = l.length
  | [] => rfl
  | d :: l => by rw [D.erL, List.length_cons, D.erL_len l, List.length_cons]
theorem D.erLL_len : ∀ l : List (List D), (D.erLL l).length = l.length
  | [] => rfl
  | d :: l => by rw [D.erLL, List.length_cons, D.erLL_len l, List.length_cons]
theorem D.erL_app : ∀ l l' : List D, D.erL (l ++ l') = D.erL l ++ D.erL l'
  | [], l' => rfl
  | d :: l, l' => by rw [List.cons_append, D.erL, D.erL_app l l', D.erL]; rfl
theorem D.erLL_app : ∀ l l' : List (List D), D.erLL (l ++ l') = D.erLL l ++ D.erLL l'
  | [], l' => rfl
  | d :: l, l' => by rw [List.cons_append, D.erLL, D.erLL_app l l', D.erLL]; rfl

def Dj (S S' : List Nat) : Prop := ∀ r ∈ S, r ∉ S'
mutual
/-- A value that stands for data of one's own in the objects σ; S: the rows that it takes. -/
def Tr (σ : List Ob) : D → List Nat → V → Prop
  | .t x, S, v => S = [] ∧ v = .t x ∧ x.ids = [] ∧ ∀ g es, x ≠ .sl g es
  | .nil, S, v => S = [] ∧ v = .nil0
  | .ow g sz ds, S, v => ∃ (r ver m : Nat) (es : List (List V)) (S' : List Nat), S = r :: S' ∧ r ∉ S' ∧ v = .own r ver 0 es.length ∧ σ[r]? = some (.row g ver sz m es) ∧ TrLL σ ds S' es ∧ ∀ e ∈ es, e.length = sz
def TrL (σ : List Ob) : List D → List Nat → List V → Prop
  | [], S, l => S = [] ∧ l = []
  | d :: ds, S, l => ∃ (v : V) (l' : List V) (S1 S2 : List Nat), l = v :: l' ∧ S = S1 ++ S2 ∧ Dj S1 S2 ∧ Tr σ d S1 v ∧ TrL σ ds S2 l'
def TrLL (σ : List Ob) : List (List D) → List Nat → List (List V) → Prop
  | [], S, l => S = [] ∧ l = []
  | d :: ds, S, l => ∃ (v : List V) (l' : List (List V)) (S1 S2 : List Nat), l = v :: l' ∧ S = S1 ++ S2 ∧ Dj S1 S2 ∧ TrL σ d S1 v ∧ TrLL σ ds S2 l'
end
theorem Tr_t {σ : List Ob} {x : T} (h : x.ids = []) (hn : ∀ g es, x ≠ .sl g es) : Tr σ (.t x) [] (.t x) := by rw [Tr]; exact ⟨rfl, rfl, h, hn⟩
theorem Tr_int {σ : List Ob} {k : IntKind} {n : Int} : Tr σ (.t (.int k n)) [] (.t (.int k n)) := Tr_t rfl (fun _ _ h => by cases h)
theorem Tr_str {σ : List Ob} {x : ByteArray} : Tr σ (.t (.str x)) [] (.t (.str x)) := Tr_t rfl (fun _ _ h => by cases h)
theorem Tr_bool {σ : List Ob} {x : Bool} : Tr σ (.t (.bool x)) [] (.t (.bool x)) := Tr_t rfl (fun _ _ h => by cases h)
theorem Tr_nil {σ : List Ob} : Tr σ .nil [] .nil0 := by rw [Tr]; exact ⟨rfl, rfl⟩
theorem TrL_nil {σ : List Ob} : TrL σ [] [] [] := by rw [TrL]; exact ⟨rfl, rfl⟩
theorem TrLL_nil {σ : List Ob} : TrLL σ [] [] [] := by rw [TrLL]; exact ⟨rfl, rfl⟩
theorem Dj_nil (S : List Nat) : Dj S [] := fun r _ h => by cases h
theorem Dj_nil' (S : List Nat) : Dj [] S := fun r h => by cases h
theorem TrL_cons {σ : List Ob} {d : D} {ds : List D} {S1 S2 : List Nat} {v : V} {l : List V} (h : Tr σ d S1 v) (hl : TrL σ ds S2 l) (hd : Dj S1 S2) : TrL σ (d :: ds) (S1 ++ S2) (v :: l) := by
  rw [TrL]; exact ⟨v, l, S1, S2, rfl, rfl, hd, h, hl⟩
theorem TrL_leaf {σ : List Ob} {d : D} {ds : List D} {S2 : List Nat} {v : V} {l : List V} (h : Tr σ d [] v) (hl : TrL σ ds S2 l) : TrL σ (d :: ds) S2 (v :: l) := TrL_cons h hl (Dj_nil' _)
theorem TrL_one {σ : List Ob} {d : D} {S : List Nat} {v : V} (h : Tr σ d S v) : TrL σ [d] S [v] := by
  have := TrL_cons h TrL_nil (Dj_nil _)
  rwa [List.append_nil] at this
theorem TrLL_cons {σ : List Ob} {d : List D} {ds : List (List D)} {S1 S2 : List Nat} {v : List V} {l : List (List V)} (h : TrL σ d S1 v) (hl : TrLL σ ds S2 l) (hd : Dj S1 S2) : TrLL σ (d :: ds) (S1 ++ S2) (v :: l) := by
  rw [TrLL]; exact ⟨v, l, S1, S2, rfl, rfl, hd, h, hl⟩
theorem TrLL_one {σ : List Ob} {d : List D} {S : List Nat} {v : List V} (h : TrL σ d S v) : TrLL σ [d] S [v] := by
  have := TrLL_cons h TrLL_nil (Dj_nil _)
  rwa [List.append_nil] at this

mutual
theorem Tr.nodup {σ : List Ob} : ∀ {d : D} {S : List Nat} {v : V}, Tr σ d S v → S.Nodup
  | .t x, S, v, h => by rw [Tr] at h; rw [h.1]; exact .nil
  | .nil, S, v, h => by rw [Tr] at h; rw [h.1]; exact .nil
  | .ow g sz ds, S, v, h => by
    rw [Tr] at h
    obtain ⟨r, ver, m, es, S', rfl, hr, _, _, h5, hz⟩ := h
    exact List.nodup_cons.2 ⟨hr, TrLL.nodup h5⟩
theorem TrL.nodup {σ : List Ob} : ∀ {d : List D} {S : List Nat} {v : List V}, TrL σ d S v → S.Nodup
  | [], S, v, h => by rw [TrL] at h; rw [h.1]; exact .nil
  | d :: ds, S, v, h => by
    rw [TrL] at h
    obtain ⟨_, _, S1, S2, _, rfl, hd, h1, h2⟩ := h
    exact List.nodup_append.2 ⟨Tr.nodup h1, TrL.nodup h2, fun a ha b hb e => hd a ha (e ▸ hb)⟩
theorem TrLL.nodup {σ : List Ob} : ∀ {d : List (List D)} {S : List Nat} {v : List (List V)}, TrLL σ d S v → S.Nodup
  | [], S, v, h => by rw [TrLL] at h; rw [h.1]; exact .nil
  | d :: ds, S, v, h => by
    rw [TrLL] at h
    obtain ⟨_, _, S1, S2, _, rfl, hd, h1, h2⟩ := h
    exact List.nodup_append.2 ⟨TrL.nodup h1, TrLL.nodup h2, fun a ha b hb e => hd a ha (e ▸ hb)⟩
end
mutual
theorem Tr.lt {σ : List Ob} : ∀ {d : D} {S : List Nat} {v : V}, Tr σ d S v → ∀ r ∈ S, r < σ.length
  | .t x, S, v, h => by rw [Tr] at h; rw [h.1]; exact fun r hr => by cases hr
  | .nil, S, v, h => by rw [Tr] at h; rw [h.1]; exact fun r hr => by cases hr
  | .ow g sz ds, S, v, h => by
    rw [Tr] at h
    obtain ⟨r, ver, m, es, S', rfl, hr, _, h4, h5, hzz⟩ := h
    intro q hq
    rcases List.mem_cons.1 hq with rfl | hq
    · exact (List.getElem?_eq_some_iff.1 h4).1
    · exact TrLL.lt h5 q hq
theorem TrL.lt {σ : List Ob} : ∀ {d : List D} {S : List Nat} {v : List V}, TrL σ d S v → ∀ r ∈ S, r < σ.length
  | [], S, v, h => by rw [TrL] at h; rw [h.1]; exact fun r hr => by cases hr
  | d :: ds, S, v, h => by
    rw [TrL] at h
    obtain ⟨_, _, S1, S2, _, rfl, hd, h1, h2⟩ := h
    intro q hq
    rcases List.mem_append.1 hq with hq | hq
    · exact Tr.lt h1 q hq
    · exact TrL.lt h2 q hq
theorem TrLL.lt {σ : List Ob} : ∀ {d : List (List D)} {S : List Nat} {v : List (List V)}, TrLL σ d S v → ∀ r ∈ S, r < σ.length
  | [], S, v, h => by rw [TrLL] at h; rw [h.1]; exact fun r hr => by cases hr
  | d :: ds, S, v, h => by
    rw [TrLL] at h
    obtain ⟨_, _, S1, S2, _, rfl, hd, h1, h2⟩ := h
    intro q hq
    rcases List.mem_append.1 hq with hq | hq
    · exact TrL.lt h1 q hq
    · exact TrLL.lt h2 q hq
end
theorem TrL.len {σ : List Ob} : ∀ {d : List D} {S : List Nat} {v : List V}, TrL σ d S v → v.length = d.length
  | [], S, v, h => by rw [TrL] at h; rw [h.2]; rfl
  | d :: ds, S, v, h => by
    rw [TrL] at h
    obtain ⟨_, _, S1, S2, rfl, _, hd, h1, h2⟩ := h
    rw [List.length_cons, h2.len, List.length_cons]
theorem TrLL.len {σ : List Ob} : ∀ {d : List (List D)} {S : List Nat} {v : List (List V)}, TrLL σ d S v → v.length = d.length
  | [], S, v, h => by rw [TrLL] at h; rw [h.2]; rfl
  | d :: ds, S, v, h => by
    rw [TrLL] at h
    obtain ⟨_, _, S1, S2, rfl, _, hd, h1, h2⟩ := h
    rw [List.length_cons, h2.len, List.length_cons]
theorem Tr.leaf {σ : List Ob} : ∀ {d : D} {S : List Nat} {v : V}, Tr σ d S v → v.leaf = true
  | .t x, S, v, h => by rw [Tr] at h; rw [h.2.1]; rfl
  | .nil, S, v, h => by rw [Tr] at h; rw [h.2]; rfl
  | .ow g sz ds, S, v, h => by
    rw [Tr] at h
    obtain ⟨r, ver, m, es, S', rfl, hr, h3, h4, h5, hzz⟩ := h
    rw [h3]; rfl
theorem TrL.leaf {σ : List Ob} : ∀ {d : List D} {S : List Nat} {v : List V}, TrL σ d S v → ∀ c ∈ v, V.leaf c = true
  | [], S, v, h => by rw [TrL] at h; rw [h.2]; exact fun c hc => by cases hc
  | d :: ds, S, v, h => by
    rw [TrL] at h
    obtain ⟨_, _, S1, S2, rfl, _, hd, h1, h2⟩ := h
    intro c hc
    rcases List.mem_cons.1 hc with rfl | hc
    · exact h1.leaf
    · exact h2.leaf c hc

/-! ### under new numbers -/
/-- What a renumbering of rows does with values. -/
structure Rn (f : Nat → Nat) (F : V → V) (S : List Nat) : Prop where
  own : ∀ r ∈ S, ∀ ver off len, F (.own r ver off len) = .own (f r) ver off len
  t : ∀ x, F (.t x) = .t x
  nil : F .nil0 = .nil0
  inj : ∀ r ∈ S, ∀ q ∈ S, f r = f q → r = q
theorem Rn.sub {f : Nat → Nat} {F : V → V} {S S' : List Nat} (h : Rn f F S) (hs : ∀ r ∈ S', r ∈ S) : Rn f F S' := ⟨fun r hr => h.own r (hs r hr), h.t, h.nil, fun r hr q hq => h.inj r (hs r hr) q (hs q hq)⟩
def Ob.mapV (F : V → V) : Ob → Ob
  | .row g ver sz n es => .row g ver sz n (es.map (·.map F))
  | .map g es => .map g (es.map fun p => (p.1, F p.2))
theorem Rn.dj {f : Nat → Nat} {F : V → V} {S1 S2 : List Nat} (h : Rn f F (S1 ++ S2)) (hd : Dj S1 S2) : Dj (S1.map f) (S2.map f) := by
  intro r hr hr2
  obtain ⟨a, ha, rfl⟩ := List.mem_map.1 hr
  obtain ⟨b, hb, he⟩ := List.mem_map.1 hr2
  have := h.inj b (List.mem_append_right _ hb) a (List.mem_append_left _ ha) he
  subst this
  exact hd b ha hb
mutual
theorem Tr.rn {σ σ' : List Ob} {f : Nat → Nat} {F : V → V} : ∀ {d : D} {S : List Nat} {v : V}, Tr σ d S v → Rn f F S → (∀ r ∈ S, ∀ o, σ[r]? = some o → σ'[f r]? = some (o.mapV F)) → Tr σ' d (S.map f) (F v)
  | .t x, S, v, h, hR, hs => by rw [Tr] at h ⊢; rw [h.1, h.2.1]; exact ⟨rfl, hR.t x, h.2.2⟩
  | .nil, S, v, h, hR, hs => by rw [Tr] at h ⊢; rw [h.1, h.2]; exact ⟨rfl, hR.nil⟩
  | .ow g sz ds, S, v, h, hR, hs => by
    rw [Tr] at h ⊢
    obtain ⟨r, ver, m, es, S', rfl, hr, h3, h4, h5, hzz⟩ := h
    refine ⟨f r, ver, m, es.map (fun x : List V => x.map F), S'.map f, by simp, fun hm => ?_, ?_, hs r (List.mem_cons_self) _ h4, TrLL.rn h5 (hR.sub fun q hq => List.mem_cons_of_mem _ hq) (fun q hq => hs q (List.mem_cons_of_mem _ hq)), fun e he => by obtain ⟨e0, h0, rfl⟩ := List.mem_map.1 he; rw [List.length_map]; exact hzz e0 h0⟩
    · obtain ⟨b, hb, he⟩ := List.mem_map.1 hm
      have := hR.inj b (List.mem_cons_of_mem _ hb) r List.mem_cons_self he
      exact hr (this ▸ hb)
    · rw [h3, hR.own r List.mem_cons_self, List.length_map]
theorem TrL.rn {σ σ' : List Ob} {f : Nat → Nat} {F : V → V} : ∀ {d : List D} {S : List Nat} {v : List V}, TrL σ d S v → Rn f F S → (∀ r ∈ S, ∀ o, σ[r]? = some o → σ'[f r]? = some (o.mapV F)) → TrL σ' d (S.map f) (v.map F)
  | [], S, v, h, hR, hs => by rw [TrL] at h ⊢; rw [h.1, h.2]; exact ⟨rfl, rfl⟩
  | d :: ds, S, v, h, hR, hs => by
    rw [TrL] at h ⊢
    obtain ⟨u, l, S1, S2, rfl, rfl, hd, h1, h2⟩ := h
    exact ⟨F u, l.map F, S1.map f, S2.map f, rfl, by simp, hR.dj hd, Tr.rn h1 (hR.sub fun q hq => List.mem_append_left _ hq) (fun q hq => hs q (List.mem_append_left _ hq)), TrL.rn h2 (hR.sub fun q hq => List.mem_append_right _ hq) (fun q hq => hs q (List.mem_append_right _ hq))⟩
theorem TrLL.rn {σ σ' : List Ob} {f : Nat → Nat} {F : V → V} : ∀ {d : List (List D)} {S : List Nat} {v : List (List V)}, TrLL σ d S v → Rn f F S → (∀ r ∈ S, ∀ o, σ[r]? = some o → σ'[f r]? = some (o.mapV F)) → TrLL σ' d (S.map f) (v.map (·.map F))
  | [], S, v, h, hR, hs => by rw [TrLL] at h ⊢; rw [h.1, h.2]; exact ⟨rfl, rfl⟩
  | d :: ds, S, v, h, hR, hs => by
    rw [TrLL] at h ⊢
    obtain ⟨u, l, S1, S2, rfl, rfl, hd, h1, h2⟩ := h
    exact ⟨u.map F, l.map (·.map F), S1.map f, S2.map f, rfl, by simp, hR.dj hd, TrL.rn h1 (hR.sub fun q hq => List.mem_append_left _ hq) (fun q hq => hs q (List.mem_append_left _ hq)), TrLL.rn h2 (hR.sub fun q hq => List.mem_append_right _ hq) (fun q hq => hs q (List.mem_append_right _ hq))⟩
end
/-! ### rows elsewhere turn -/
mutual
theorem Tr.keep {σ σ' : List Ob} : ∀ {d : D} {S : List Nat} {v : V}, Tr σ d S v → (∀ r ∈ S, σ'[r]? = σ[r]?) → Tr σ' d S v
  | .t x, S, v, h, hs => by rw [Tr] at h ⊢; exact h
  | .nil, S, v, h, hs => by rw [Tr] at h ⊢; exact h
  | .ow g sz ds, S, v, h, hs => by
    rw [Tr] at h ⊢
    obtain ⟨r, ver, m, es, S', rfl, hr, h3, h4, h5, hzz⟩ := h
    exact ⟨r, ver, m, es, S', rfl, hr, h3, (hs r List.mem_cons_self).trans h4, TrLL.keep h5 fun q hq => hs q (List.mem_cons_of_mem _ hq), hzz⟩
theorem TrL.keep {σ σ' : List Ob} : ∀ {d : List D} {S : List Nat} {v : List V}, TrL σ d S v → (∀ r ∈ S, σ'[r]? = σ[r]?) → TrL σ' d S v
  | [], S, v, h, hs => by rw [TrL] at h ⊢; exact h
  | d :: ds, S, v, h, hs => by
    rw [TrL] at h ⊢
    obtain ⟨u, l, S1, S2, rfl, rfl, hd, h1, h2⟩ := h
    exact ⟨u, l, S1, S2, rfl, rfl, hd, Tr.keep h1 fun q hq => hs q (List.mem_append_left _ hq), TrL.keep h2 fun q hq => hs q (List.mem_append_right _ hq)⟩
theorem TrLL.keep {σ σ' : List Ob} : ∀ {d : List (List D)} {S : List Nat} {v : List (List V)}, TrLL σ d S v → (∀ r ∈ S, σ'[r]? = σ[r]?) → TrLL σ' d S v
  | [], S, v, h, hs => by rw [TrLL] at h ⊢; exact h
  | d :: ds, S, v, h, hs => by
    rw [TrLL] at h ⊢
    obtain ⟨u, l, S1, S2, rfl, rfl, hd, h1, h2⟩ := h
    exact ⟨u, l, S1, S2, rfl, rfl, hd, TrL.keep h1 fun q hq => hs q (List.mem_append_left _ hq), TrLL.keep h2 fun q hq => hs q (List.mem_append_right _ hq)⟩
end
theorem TrLL.split {σ : List Ob} : ∀ {a b : List (List D)} {S : List Nat} {v : List (List V)}, TrLL σ (a ++ b) S v → ∃ S1 S2 v1 v2, S = S1 ++ S2 ∧ Dj S1 S2 ∧ v = v1 ++ v2 ∧ TrLL σ a S1 v1 ∧ TrLL σ b S2 v2
  | [], b, S, v, h => ⟨[], S, [], v, rfl, Dj_nil' _, rfl, TrLL_nil, h⟩
  | d :: a, b, S, v, h => by
    rw [List.cons_append, TrLL] at h
    obtain ⟨u, l, S1, S2, rfl, rfl, hd, h1, h2⟩ := h
    obtain ⟨S3, S4, v1, v2, rfl, hd2, rfl, h3, h4⟩ := h2.split
    refine ⟨S1 ++ S3, S4, u :: v1, v2, by simp, fun r hr hr2 => ?_, rfl, TrLL_cons h1 h3 (fun r hr hr2 => hd r hr (List.mem_append_left _ hr2)), h4⟩
    rcases List.mem_append.1 hr with hr | hr
    · exact hd r hr (List.mem_append_right _ hr2)
    · exact hd2 r hr hr2
theorem TrLL.app {σ : List Ob} : ∀ {a b : List (List D)} {S S' : List Nat} {v v' : List (List V)}, TrLL σ a S v → TrLL σ b S' v' → Dj S S' → TrLL σ (a ++ b) (S ++ S') (v ++ v')
  | [], b, S, S', v, v', h, h', hd => by rw [TrLL] at h; rw [h.1, h.2]; exact h'
  | d :: a, b, S, S', v, v', h, h', hd => by
    rw [TrLL] at h
    obtain ⟨u, l, S1, S2, rfl, rfl, hd1, h1, h2⟩ := h
    rw [List.append_assoc, List.cons_append, List.cons_append]
    refine TrLL_cons h1 (h2.app h' fun r hr hr2 => hd r (List.mem_append_right _ hr) hr2) (fun r hr hr2 => ?_)
    rcases List.mem_append.1 hr2 with hr2 | hr2
    · exact hd1 r hr hr2
    · exact hd r (List.mem_append_left _ hr) hr2

/-! ### lent as frozen data -/
theorem pigeon : ∀ (n : Nat) (S : List Nat), S.Nodup → (∀ r ∈ S, r < n) → S.length ≤ n
  | 0, S, _, h => by
    cases S with
    | nil => exact Nat.le_refl _
    | cons a l => exact absurd (h a List.mem_cons_self) (Nat.not_lt_zero _)
  | n + 1, S, hn, h => by
    by_cases hm : n ∈ S
    · have h1 := pigeon n (S.erase n) (hn.erase n) (fun r hr => by
        have h2 := h r (List.mem_of_mem_erase hr)
        have h3 : r ≠ n := fun e => by subst e; exact (List.Nodup.not_mem_erase hn) hr
        omega)
      rw [List.length_erase_of_mem hm] at h1
      omega
    · have h1 := pigeon n S hn (fun r hr => by
        have h2 := h r hr
        have h3 : r ≠ n := fun e => hm (e ▸ hr)
        omega)
      omega
mutual
theorem Tr.frz {σ : List Ob} {bor : List Nat} : ∀ {d : D} {S : List Nat} {v : V} {n : Nat}, Tr σ d S v → (∀ r ∈ S, r ∈ bor) → S.length ≤ n → frz σ bor n v = some d.er
  | .t x, S, v, n, h, hb, hn => by rw [Tr] at h; rw [h.2.1, frz_t]; rfl
  | .nil, S, v, n, h, hb, hn => by rw [Tr] at h; rw [h.2]; cases n <;> rfl
  | .ow g sz ds, S, v, n, h, hb, hn => by
    rw [Tr] at h
    obtain ⟨r, ver, m, es, S', rfl, hr, rfl, h4, h5, hzz⟩ := h
    rw [List.length_cons] at hn
    obtain ⟨n, rfl⟩ : ∃ k, n = k + 1 := ⟨n - 1, by omega⟩
    have h6 := TrLL.frz (n := n) h5 (fun q hq => hb q (List.mem_cons_of_mem _ hq)) (by omega)
    unfold Go.VL.frz
    rw [if_pos (hb r List.mem_cons_self), h4]
    simp only [if_true, List.drop_zero, List.take_length]
    rw [h6, D.er]
theorem TrL.frz {σ : List Ob} {bor : List Nat} : ∀ {d : List D} {S : List Nat} {v : List V} {n : Nat}, TrL σ d S v → (∀ r ∈ S, r ∈ bor) → S.length ≤ n → v.mapM (Go.VL.frz σ bor n) = some (D.erL d)
  | [], S, v, n, h, hb, hn => by rw [TrL] at h; rw [h.2]; rfl
  | d :: ds, S, v, n, h, hb, hn => by
    rw [TrL] at h
    obtain ⟨u, l, S1, S2, rfl, rfl, hd, h1, h2⟩ := h
    rw [List.length_append] at hn
    rw [List.mapM_cons, Tr.frz h1 (fun q hq => hb q (List.mem_append_left _ hq)) (by omega), TrL.frz h2 (fun q hq => hb q (List.mem_append_right _ hq)) (by omega)]
    rfl
theorem TrLL.frz {σ : List Ob} {bor : List Nat} : ∀ {d : List (List D)} {S : List Nat} {v : List (List V)} {n : Nat}, TrLL σ d S v → (∀ r ∈ S, r ∈ bor) → S.length ≤ n → v.mapM (fun e => e.mapM (Go.VL.frz σ bor n)) = some (D.erLL d)
  | [], S, v, n, h, hb, hn => by rw [TrLL] at h; rw [h.2]; rfl
  | d :: ds, S, v, n, h, hb, hn => by
    rw [TrLL] at h
    obtain ⟨u, l, S1, S2, rfl, rfl, hd, h1, h2⟩ := h
    rw [List.length_append] at hn
    rw [List.mapM_cons, TrL.frz h1 (fun q hq => hb q (List.mem_append_left _ hq)) (by omega), TrLL.frz h2 (fun q hq => hb q (List.mem_append_right _ hq)) (by omega)]
    rfl
end
theorem idx_not {fp : List Nat} {r : Nat} (h : r ∉ fp) : idx fp r = none := by
  cases hi : idx fp r with
  | none => rfl
  | some k => exact absurd (idx_mem hi) h
/-- A tree of one's own, lent as frozen data. -/
theorem Tr.lend {σ : List Ob} {fp bor : List Nat} {d : D} {S : List Nat} {v : V} (h : Tr σ d S v) (hb : ∀ r ∈ S, r ∈ bor) (hf : ∀ r ∈ S, r ∉ fp) : Sub (v.loc σ fp bor) (.t d.er) := by
  have hn := pigeon σ.length S h.nodup h.lt
  have hz := h.frz (n := σ.length + 1) hb (by omega)
  cases d with
  | t x => rw [Tr] at h; rw [h.2.1]; exact .refl _
  | nil => rw [Tr] at h; rw [h.2]; exact .nil 0
  | ow g sz ds =>
    rw [Tr] at h
    obtain ⟨r, ver, m, es, S', rfl, hr, rfl, h4, h5, hzz⟩ := h
    simp only [V.loc, idx_not (hf r List.mem_cons_self), hz]
    exact .refl _
theorem TrL.lend {σ : List Ob} {fp bor : List Nat} : ∀ {d : List D} {S : List Nat} {v : List V}, TrL σ d S v → (∀ r ∈ S, r ∈ bor) → (∀ r ∈ S, r ∉ fp) → Subs (v.map (V.loc σ fp bor)) ((D.erL d).map V.t)
  | [], S, v, h, hb, hf => by rw [TrL] at h; rw [h.2]; exact Subs.refl _
  | d :: ds, S, v, h, hb, hf => by
    rw [TrL] at h
    obtain ⟨u, l, S1, S2, rfl, rfl, hd, h1, h2⟩ := h
    exact Subs.cons (h1.lend (fun q hq => hb q (List.mem_append_left _ hq)) (fun q hq => hf q (List.mem_append_left _ hq))) (h2.lend (fun q hq => hb q (List.mem_append_right _ hq)) (fun q hq => hf q (List.mem_append_right _ hq)))
/-- A struct of one's own, lent. -/
theorem TrL.lendA {σ : List Ob} {fp bor : List Nat} {d : List D} {S : List Nat} {v : List V} (h : TrL σ d S v) (hb : ∀ r ∈ S, r ∈ bor) (hf : ∀ r ∈ S, r ∉ fp) : Sub ((V.agg v).loc σ fp bor) (.agg ((D.erL d).map V.t)) := by
  have hs := h.lend hb hf
  rw [V.loc, V.locs_eq]
  exact .agg hs.1 hs.2

/-! ### taken along to a callee, and back -/
theorem Tr.rnLoc {σ : List Ob} {S bor : List Nat} (hn : S.Nodup) : Rn (fun r => (idx S r).getD 0) (V.loc σ S bor) S where
  own := fun r hr ver off len => by
    obtain ⟨k, hk⟩ : ∃ k, idx S r = some k := by
      obtain ⟨i, hi, rfl⟩ := List.mem_iff_getElem.1 hr
      exact ⟨i, idx_get hn (List.getElem?_eq_getElem hi)⟩
    simp only [V.loc, hk, Option.getD_some]
  t := fun x => rfl
  nil := rfl
  inj := fun r hr q hq he => by
    obtain ⟨i, hi, rfl⟩ := List.mem_iff_getElem.1 hr
    obtain ⟨j, hj, rfl⟩ := List.mem_iff_getElem.1 hq
    simp only [idx_get hn (List.getElem?_eq_getElem hi), idx_get hn (List.getElem?_eq_getElem hj), Option.getD_some] at he
    subst he
    rfl
theorem Ob.loc_mapV (σ : List Ob) (fp bor : List Nat) (o : Ob) : o.loc σ fp bor = o.mapV (V.loc σ fp bor) := by cases o <;> rfl
theorem Ob.back_mapV (fp : List Nat) (n : Nat) (o : Ob) : o.back fp n = o.mapV (V.back fp n) := by cases o <;> rfl
theorem map_idx {S : List Nat} (hn : S.Nodup) : S.map (fun r => (idx S r).getD 0) = List.range S.length := by
  refine List.ext_getElem (by simp) (fun i h1 h2 => ?_)
  rw [List.getElem_map, List.getElem_range]
  rw [idx_get hn (List.getElem?_eq_getElem (by simpa using h1))]
  rfl
theorem locS {σ : List Ob} {S bor : List Nat} (hn : S.Nodup) : ∀ r ∈ S, ∀ o, σ[r]? = some o → (locObs σ S bor)[(idx S r).getD 0]? = some (o.mapV (V.loc σ S bor)) := fun r hr o ho => by
  obtain ⟨i, hi, rfl⟩ := List.mem_iff_getElem.1 hr
  rw [idx_get hn (List.getElem?_eq_getElem hi), Option.getD_some, locObs_get (List.getElem?_eq_getElem hi) ho, Ob.loc_mapV]
theorem TrLL.loc {σ : List Ob} {bor : List Nat} {d : List (List D)} {S : List Nat} {v : List (List V)} (h : TrLL σ d S v) : TrLL (locObs σ S bor) d (List.range S.length) (v.map (·.map (V.loc σ S bor))) := by
  have := h.rn (Tr.rnLoc (σ := σ) (bor := bor) h.nodup) (locS h.nodup)
  rwa [map_idx h.nodup] at this
theorem TrL.loc {σ : List Ob} {bor : List Nat} {d : List D} {S : List Nat} {v : List V} (h : TrL σ d S v) : TrL (locObs σ S bor) d (List.range S.length) (v.map (V.loc σ S bor)) := by
  have := h.rn (Tr.rnLoc (σ := σ) (bor := bor) h.nodup) (locS h.nodup)
  rwa [map_idx h.nodup] at this
theorem Tr.loc {σ : List Ob} {bor : List Nat} {d : D} {S : List Nat} {v : V} (h : Tr σ d S v) : Tr (locObs σ S bor) d (List.range S.length) (v.loc σ S bor) := by
  have := h.rn (Tr.rnLoc (σ := σ) (bor := bor) h.nodup) (locS h.nodup)
  rwa [map_idx h.nodup] at this
theorem locObs_len (σ : List Ob) (fp bor : List Nat) : (locObs σ fp bor).length = fp.length := by simp [locObs]
/-- Rows that a callee gives back. -/
theorem rnBack {fp : List Nat} {n : Nat} {S : List Nat} (hi : ∀ r ∈ S, ∀ q ∈ S, bk fp n r = bk fp n q → r = q) : Rn (bk fp n) (V.back fp n) S := ⟨fun r _ ver off len => rfl, fun x => rfl, rfl, hi⟩
theorem bk_inj {fp : List Nat} {n : Nat} (hn : fp.Nodup) (hl : ∀ r ∈ fp, r < n) (r q : Nat) (h : bk fp n r = bk fp n q) : r = q := by
  unfold bk at h
  cases h1 : fp[r]? with
  | some a =>
    cases h2 : fp[q]? with
    | some b =>
      simp only [h1, h2] at h
      subst h
      exact (List.getElem?_inj (List.getElem?_eq_some_iff.1 h1).1 hn).1 (h1.trans h2.symm)
    | none =>
      simp only [h1, h2] at h
      have := hl a (List.mem_of_getElem? h1)
      omega
  | none =>
    have h3 := List.getElem?_eq_none_iff.1 h1
    cases h2 : fp[q]? with
    | some b =>
      simp only [h1, h2] at h
      have := hl b (List.mem_of_getElem? h2)
      omega
    | none =>
      simp only [h1, h2] at h
      have h4 := List.getElem?_eq_none_iff.1 h2
      omega
theorem TrL.back {σ σ1 : List Ob} {fp : List Nat} (hn : fp.Nodup) (hl : ∀ r ∈ fp, r < σ.length) {d : List D} {S : List Nat} {v : List V} (h : TrL σ1 d S v) : TrL (backObs σ fp σ1) d (S.map (bk fp σ.length)) (v.map (V.back fp σ.length)) :=
  h.rn (rnBack fun r _ q _ e => bk_inj hn hl r q e) (fun r hr o ho => by rw [← Ob.back_mapV]; exact backObs_get hn hl ho)
theorem Tr.back {σ σ1 : List Ob} {fp : List Nat} (hn : fp.Nodup) (hl : ∀ r ∈ fp, r < σ.length) {d : D} {S : List Nat} {v : V} (h : Tr σ1 d S v) : Tr (backObs σ fp σ1) d (S.map (bk fp σ.length)) (v.back fp σ.length) :=
  h.rn (rnBack fun r _ q _ e => bk_inj hn hl r q e) (fun r hr o ho => by rw [← Ob.back_mapV]; exact backObs_get hn hl ho)
theorem TrLL.back {σ σ1 : List Ob} {fp : List Nat} (hn : fp.Nodup) (hl : ∀ r ∈ fp, r < σ.length) {d : List (List D)} {S : List Nat} {v : List (List V)} (h : TrLL σ1 d S v) : TrLL (backObs σ fp σ1) d (S.map (bk fp σ.length)) (v.map (·.map (V.back fp σ.length))) :=
  h.rn (rnBack fun r _ q _ e => bk_inj hn hl r q e) (fun r hr o ho => by rw [← Ob.back_mapV]; exact backObs_get hn hl ho)
theorem map_bk {fp : List Nat} {n : Nat} : (List.range fp.length).map (bk fp n) = fp := by
  refine List.ext_getElem (by simp) (fun i h1 h2 => ?_)
  rw [List.getElem_map, List.getElem_range]
  unfold bk
  rw [List.getElem?_eq_getElem h2]
/-- No frozen blocks hang in a tree of one's own. -/
theorem Tr.ids {σ : List Ob} : ∀ {d : D} {S : List Nat} {v : V}, Tr σ d S v → v.ids = []
  | .t x, S, v, h => by rw [Tr] at h; rw [h.2.1, V.ids, h.2.2.1]
  | .nil, S, v, h => by rw [Tr] at h; rw [h.2, V.ids]
  | .ow g sz ds, S, v, h => by
    rw [Tr] at h
    obtain ⟨r, ver, m, es, S', rfl, hr, rfl, h4, h5, hzz⟩ := h
    rw [V.ids]
theorem TrL.ids {σ : List Ob} : ∀ {d : List D} {S : List Nat} {v : List V}, TrL σ d S v → V.idsL v = []
  | [], S, v, h => by rw [TrL] at h; rw [h.2, V.idsL]
  | d :: ds, S, v, h => by
    rw [TrL] at h
    obtain ⟨u, l, S1, S2, rfl, rfl, hd, h1, h2⟩ := h
    rw [V.idsL, h1.ids, h2.ids]; rfl
theorem TrLL.ids1 {σ : List Ob} : ∀ {d : List (List D)} {S : List Nat} {v : List (List V)}, TrLL σ d S v → v.flatMap V.idsL = []
  | [], S, v, h => by rw [TrLL] at h; rw [h.2]; rfl
  | d :: ds, S, v, h => by
    rw [TrLL] at h
    obtain ⟨u, l, S1, S2, rfl, rfl, hd, h1, h2⟩ := h
    rw [List.flatMap_cons, h1.ids, h2.ids1]; rfl
mutual
theorem Tr.obids {σ : List Ob} : ∀ {d : D} {S : List Nat} {v : V}, Tr σ d S v → ∀ r ∈ S, ∀ o, σ[r]? = some o → o.ids = []
  | .t x, S, v, h => by rw [Tr] at h; rw [h.1]; exact fun r hr => by cases hr
  | .nil, S, v, h => by rw [Tr] at h; rw [h.1]; exact fun r hr => by cases hr
  | .ow g sz ds, S, v, h => by
    rw [Tr] at h
    obtain ⟨r, ver, m, es, S', rfl, hr, rfl, h4, h5, hzz⟩ := h
    intro q hq o ho
    rcases List.mem_cons.1 hq with rfl | hq
    · rw [h4] at ho
      simp only [Option.some.injEq] at ho
      subst ho
      exact TrLL.ids1 h5
    · exact TrLL.obids h5 q hq o ho
theorem TrL.obids {σ : List Ob} : ∀ {d : List D} {S : List Nat} {v : List V}, TrL σ d S v → ∀ r ∈ S, ∀ o, σ[r]? = some o → o.ids = []
  | [], S, v, h => by rw [TrL] at h; rw [h.1]; exact fun r hr => by cases hr
  | d :: ds, S, v, h => by
    rw [TrL] at h
    obtain ⟨u, l, S1, S2, rfl, rfl, hd, h1, h2⟩ := h
    intro q hq o ho
    rcases List.mem_append.1 hq with hq | hq
    · exact Tr.obids h1 q hq o ho
    · exact TrL.obids h2 q hq o ho
theorem TrLL.obids {σ : List Ob} : ∀ {d : List (List D)} {S : List Nat} {v : List (List V)}, TrLL σ d S v → ∀ r ∈ S, ∀ o, σ[r]? = some o → o.ids = []
  | [], S, v, h => by rw [TrLL] at h; rw [h.1]; exact fun r hr => by cases hr
  | d :: ds, S, v, h => by
    rw [TrLL] at h
    obtain ⟨u, l, S1, S2, rfl, rfl, hd, h1, h2⟩ := h
    intro q hq o ho
    rcases List.mem_append.1 hq with hq | hq
    · exact TrL.obids h1 q hq o ho
    · exact TrLL.obids h2 q hq o ho
end
end Go.VL
namespace Go.VL
set_option linter.unusedVariables false
set_option linter.unusedSimpArgs false

/-- How a result is made of cells. -/
inductive Shp where
  | agg
  | one
  | aggT (x : T)
  | oneT (x : T)
  | Tone (x : T)
  | unit
def Shp.v : Shp → List V → V
  | .agg, vs => .agg vs
  | .one, vs => vs.headD .undef
  | .aggT x, vs => .tup [.agg vs, .t x]
  | .oneT x, vs => .tup [vs.headD .undef, .t x]
  | .Tone x, vs => .tup [.t x, vs.headD .undef]
  | .unit, _ => .tup []
def Shp.plain : Shp → Prop
  | .agg => True
  | .one => True
  | .aggT x => x.ids = []
  | .oneT x => x.ids = []
  | .Tone x => x.ids = []
  | .unit => True
theorem headD_map (f : V → V) (hf : f .undef = .undef) (vs : List V) : f (vs.headD .undef) = (vs.map f).headD .undef := by cases vs <;> simp [hf]
theorem Shp.back (s : Shp) (fp : List Nat) (n : Nat) (vs : List V) : (s.v vs).back fp n = s.v (vs.map (V.back fp n)) := by
  have h0 : V.back fp n .undef = .undef := rfl
  cases s <;> simp only [Shp.v, V.back, V.backs, V.backs_eq, headD_map _ h0]
theorem Shp.loc (s : Shp) (σ : List Ob) (fp bor : List Nat) (vs : List V) : (s.v vs).loc σ fp bor = s.v (vs.map (V.loc σ fp bor)) := by
  have h0 : V.loc σ fp bor .undef = .undef := rfl
  cases s <;> simp only [Shp.v, V.loc, V.locs, V.locs_eq, headD_map _ h0]
theorem idsL_head {vs : List V} (h : V.idsL vs = []) : (vs.headD .undef).ids = [] := by
  cases vs with
  | nil => rfl
  | cons v l => rw [V.idsL, List.append_eq_nil_iff] at h; exact h.1
theorem Shp.ids (s : Shp) (hs : s.plain) {vs : List V} (h : V.idsL vs = []) : (s.v vs).ids = [] := by
  have h2 := idsL_head h
  cases s <;> simp only [Shp.v, V.ids, V.idsL, h, h2, List.append_nil, List.nil_append] <;> first | exact hs | rfl
theorem Subs.head {l l' : List V} (h : Subs l l') : Sub (l.headD .undef) (l'.headD .undef) := by
  cases l with
  | nil => cases l' with
    | nil => exact .refl _
    | cons a b => exact absurd h.1 (by simp)
  | cons a b => cases l' with
    | nil => exact absurd h.1 (by simp)
    | cons c d => exact h.2 0 a c rfl rfl
theorem Subs.nil : Subs [] [] := Subs.refl _
theorem Shp.sub (s : Shp) {l l' : List V} (h : Subs l l') : Sub (s.v l) (s.v l') := by
  have h2 := h.head
  cases s with
  | agg => exact .agg h.1 h.2
  | one => exact h2
  | aggT x => exact .tup rfl (Subs.cons (.agg h.1 h.2) (Subs.refl [V.t x])).2
  | oneT x => exact .tup rfl (Subs.cons h2 (Subs.refl [V.t x])).2
  | Tone x => exact .tup rfl (Subs.cons (.refl _) (Subs.cons h2 Subs.nil)).2
  | unit => exact .refl _

/-- A function over frozen data that gives a tree of one's own. -/
def OCtr (W0 : World) (P : Program) (f : FuncId) (args : List V) (Q : Shp → List T → Prop) : Prop :=
  Ctr W0 P f args [] (fun _ _ r σ' => ∃ (s : Shp) (ds : List D) (vs : List V), r = s.v vs ∧ s.plain ∧ TrL σ' ds (List.range σ'.length) vs ∧ Q s (D.erL ds))

theorem pures_t (l : List T) : V.pures (l.map .t) = true := V.pures_t l
theorem Shp.pure (s : Shp) {ts : List T} (hs : ts.length = 1 ∨ (s = .agg ∨ ∃ x, s = .aggT x)) : (s.v (ts.map V.t)).pure = true := by
  rcases hs with hs | rfl | ⟨x, rfl⟩
  · obtain ⟨x, rfl⟩ := List.length_eq_one_iff.1 hs
    cases s <;> rfl
  · exact V.pures_t ts
  · simp [Shp.v, V.pure, V.pures, V.pures_t]
/-- The same, with what it gives as frozen data. -/
theorem OCtr.frozen {W0 : World} {P : Program} {f : FuncId} {args : List V} {Q : Shp → List T → Prop} (h : OCtr W0 P f args Q) (hQ : ∀ s ts, Q s ts → ts.length = 1 ∨ (s = .agg ∨ ∃ x, s = .aggT x)) :
    FCtr W0 P f args (fun r => ∃ (s : Shp) (ts : List T), r = s.v (ts.map V.t) ∧ Q s ts) := by
  refine ⟨h.1, fun w X vs hX ha hp cs => ?_⟩
  obtain ⟨e, w', fr, ⟨v, r, σ', h1, ⟨s, ds, us, rfl, hs, h2, h3⟩, h4, h5, h6, h7, h8⟩, h9⟩ := h.2 w X vs hX ha hp cs
  refine ⟨e, w', fr, ⟨v, s.v ((D.erL ds).map V.t), [], h1, ⟨⟨s, D.erL ds, rfl, h3⟩, s.pure (hQ _ _ h3), rfl⟩, ?_, ⟨fun r o h => by simp at h, fun r r' o o' h => by simp at h, fun r o h => by simp at h⟩, h6, fun r o h => by simp at h, fun r o h => by simp at h⟩, h9⟩
  have hav : ∀ b, AV X (locObs σ' [] (List.range σ'.length)) b → X b ∨ ∃ (r : Nat) (o : Ob), σ'[r]? = some o ∧ r ∉ List.range σ'.length ∧ o.g = b := by
    rintro b (hx | ⟨r, o, ho, _⟩)
    · exact .inl hx
    · simp [locObs] at ho
  have h10 := h4.loc (fp := []) (bor := List.range σ'.length) h5 (fun r hr => by cases hr) hav
  rw [Shp.loc] at h10
  exact h10.sub (s.sub (h2.lend (fun r hr => hr) (fun r _ hr => by cases hr)))

theorem backObs_len {σ σ1 : List Ob} : (backObs σ [] σ1).length = σ.length + σ1.length := by simp [backObs, backAt_nil]
theorem backObs_old {σ σ1 : List Ob} {r : Nat} (h : r < σ.length) : (backObs σ [] σ1)[r]? = σ[r]? := by
  rw [backObs, backAt_nil, List.getElem?_append_left h]
section
variable {W0 : World} {P : Program} {ops : Array Oper} {l : List (Oper × Bool)} {K : St → Prop} {e : Nat → V} {σ : List Ob} {h : Nat}

/-- A call that gives a tree of one's own; some rows are lent as frozen data. -/
theorem x_callO {d : Tmp} {f : FuncId} {as_ : Array Operand} {tys : Array TypeId} {ty : TypeId} {pos : String} {af : Array Edge} {b : Bool} {fop : Operand} {caps : List V} (bor : List Nat) (args : List V) (Q : Shp → List T → Prop) (hc : OCtr W0 P f args Q) (hf : St.eval ⟨e, σ, h⟩ fop = .fn f caps)
    (ha : Subs ((as_.toList.map (St.eval ⟨e, σ, h⟩) ++ caps).map (V.loc σ [] bor)) args)
    (hk : ∀ (s : Shp) (ds : List D) (vs : List V) (S : List Nat) (σ' : List Ob) (h' : Nat), Q s (D.erL ds) → TrL σ' ds S vs → (∀ r, r < σ.length → σ'[r]? = σ[r]?) → (∀ r ∈ S, σ.length ≤ r) → σ.length ≤ σ'.length → h ≤ h' → vcX W0 P ops l K ⟨upd e d (s.v vs), σ', h'⟩) :
    vcX W0 P ops ((⟨some d, .call ⟨.value fop, as_, tys⟩, ty, pos, af, none⟩, b) :: l) K ⟨e, σ, h⟩ := by
  simp only [vcX, vcOp, gd, vcRun, isQuiet, isApp, vcCall, hf]
  rw [if_neg (by simp), if_neg (by simp)]
  refine ⟨[], bor, args, _, .nil, (fun r hr => by cases hr), (fun r hr => by cases hr), .inr rfl, ha, hc, fun lo hi r σ1 h1 h2 ⟨s, ds, vs, h3, h4, h5, h6⟩ => ?_⟩
  subst h3
  refine ⟨fun q hq o ho _ => ⟨(by rw [s.ids h4 h5.ids]; exact fun hm => (by cases hm)), fun o1 ho1 => ?_⟩, ?_⟩
  · obtain ⟨i, hi, rfl⟩ := List.mem_iff_getElem.1 ho1
    rw [h5.obids i (by simpa using hi) _ (List.getElem?_eq_getElem hi)]
    exact fun hm => by cases hm
  · rw [Shp.back]
    refine hk s ds _ _ _ _ h6 (h5.back .nil (fun r hr => by cases hr)) (fun r hr => backObs_old hr) (fun r hr => ?_) (by rw [backObs_len]; omega) (Nat.le_trans (show h ≤ lo from h1) h2)
    obtain ⟨a, ha, rfl⟩ := List.mem_map.1 hr
    simp only [bk, List.getElem?_nil, List.length_nil]
    omega

/-- Where a function returns a tree of one's own. -/
theorem retO {rs : List ResultVar} {h0 : Nat} {s : St} {Q : Shp → List T → Prop} (sh : Shp) {ds : List D} {S : List Nat} {ws vs : List V} (hr : rs.mapM (resQ P s) = some vs) (hv : tupV vs = sh.v ws) (hp : sh.plain) (ht : TrL s.σ ds S ws) (hq : Q sh (D.erL ds)) :
    retK P rs [] h0 (fun _ _ r σ' => ∃ (s : Shp) (ds : List D) (vs : List V), r = s.v vs ∧ s.plain ∧ TrL σ' ds (List.range σ'.length) vs ∧ Q s (D.erL ds)) s := by
  refine ⟨vs, hr, S, [], ht.nodup, ht.lt, (fun r _ h => by cases h), fun hi _ => ⟨sh, ds, ws.map (V.loc s.σ S []), by rw [hv, Shp.loc], hp, ?_, hq⟩, fun r o h => by simp at h⟩
  rw [locObs_len]
  exact ht.loc

/-! ### slices of trees that grow -/
/-- A slice that is built by appends: nothing as yet, or a whole row. -/
def Tb (σ : List Ob) (sz : Nat) (ds : List (List D)) (S : List Nat) (v : V) : Prop :=
  (ds = [] ∧ S = [] ∧ v = .nil0) ∨ ∃ (r g ver m : Nat) (es : List (List V)) (S' : List Nat), S = r :: S' ∧ r ∉ S' ∧ v = .own r ver 0 es.length ∧ σ[r]? = some (.row g ver sz m es) ∧ TrLL σ ds S' es ∧ ∀ e ∈ es, e.length = sz
theorem Tb_nil {sz : Nat} : Tb σ sz [] [] .nil0 := .inl ⟨rfl, rfl, rfl⟩
theorem Tb.tr {sz : Nat} {ds : List (List D)} {S : List Nat} {v : V} (h : Tb σ sz ds S v) : ∃ d g, Tr σ d S v ∧ d.er = .sl g (D.erLL ds) := by
  rcases h with ⟨rfl, rfl, rfl⟩ | ⟨r, g, ver, m, es, S', h1, h2, h3, h4, h5, hz⟩
  · exact ⟨.nil, 0, Tr_nil, rfl⟩
  · exact ⟨.ow g sz ds, g, by rw [Tr]; exact ⟨r, ver, m, es, S', h1, h2, h3, h4, h5, hz⟩, rfl⟩
theorem Tb.keep {σ' : List Ob} {sz : Nat} {ds : List (List D)} {S : List Nat} {v : V} (h : Tb σ sz ds S v) (hs : ∀ r ∈ S, σ'[r]? = σ[r]?) : Tb σ' sz ds S v := by
  rcases h with h | ⟨r, g, ver, m, es, S', rfl, h2, h3, h4, h5, hz⟩
  · exact .inl h
  · exact .inr ⟨r, g, ver, m, es, S', rfl, h2, h3, (hs r List.mem_cons_self).trans h4, h5.keep fun q hq => hs q (List.mem_cons_of_mem _ hq), hz⟩
theorem Tb.lt {sz : Nat} {ds : List (List D)} {S : List Nat} {v : V} (h : Tb σ sz ds S v) : ∀ r ∈ S, r < σ.length := by
  obtain ⟨d, g, h1, _⟩ := h.tr
  exact h1.lt
theorem Tb.leaf {sz : Nat} {ds : List (List D)} {S : List Nat} {v : V} (h : Tb σ sz ds S v) : v.leaf = true := by
  obtain ⟨d, g, h1, _⟩ := h.tr
  exact h1.leaf
/-- An append of one element to it. -/
theorem x_appT {d : Tmp} {x y : Operand} {t t2 t' : TypeId} {ty : TypeId} {pos : String} {af : Array Edge} {sz bs : Nat} {z : List V} {ds : List (List D)} {S S2 : List Nat} {v : V} {dn : List D} (cs : List V) (h1 : tElem P t = some t') (h2 : tSize P t' = some sz) (h3 : tZero P t' = some z) (h4 : tBytes P t' = some bs)
    (hx : St.eval ⟨e, σ, h⟩ x = v) (ho : Tb σ sz ds S v) (hy : appElems P ⟨e, σ, h⟩ sz (some z) t2 (St.eval ⟨e, σ, h⟩ y) = some [cs]) (hz : z.length = sz ∧ 0 < sz ∧ 0 < bs) (ht : TrL σ dn S2 cs) (hl : dn.length = sz) (hd : Dj S S2)
    (hb : 2 * (ds.length + 1) * bs ≤ 281474976710656)
    (hk : ∀ v' S' σ' h', Tb σ' sz (ds ++ [dn]) S' v' → (∀ r, r < σ.length → r ∉ S → σ'[r]? = σ[r]?) → (∀ r ∈ S', r ∈ S ∨ r ∈ S2 ∨ σ.length ≤ r) → σ.length ≤ σ'.length → (∀ (r : Nat) (o : Ob), σ[r]? = some o → ∃ o' : Ob, σ'[r]? = some o' ∧ o.le o') → h ≤ h' → vcX W0 P ops l K ⟨upd e d v', σ', h'⟩) :
    vcX W0 P ops ((⟨some d, .call ⟨.builtin .append, #[x, y], #[t, t2]⟩, ty, pos, af, none⟩, true) :: l) K ⟨e, σ, h⟩ := by
  have hcl : cs.length = sz := by rw [ht.len, hl]
  have hle : ∀ e ∈ [cs], e.length = sz ∧ ∀ c ∈ e, V.leaf c = true := fun e he => by
    obtain rfl := List.mem_singleton.1 he
    exact ⟨hcl, ht.leaf⟩
  rcases ho with ⟨rfl, rfl, rfl⟩ | ⟨r, g, ver, m, es, S', rfl, k2, rfl, k4, k5, kz⟩
  · refine x_app_nil [cs] h1 h2 h3 h4 hx hy hz hle (by simpa using hb) (by simp) (fun g n hg => ?_)
    refine hk _ (σ.length :: S2) _ _ (.inr ⟨σ.length, g, 0, n, [cs], S2, rfl, fun hm => Nat.lt_irrefl _ (ht.lt _ hm), rfl, by simp, TrLL_one (ht.keep fun q hq => List.getElem?_append_left (ht.lt q hq)), fun e he => by obtain rfl := List.mem_singleton.1 he; exact hcl⟩)
      (fun r hr _ => List.getElem?_append_left hr) (fun r hr => ?_) (by simp) (fun r o ho => ⟨o, by rw [List.getElem?_append_left (List.getElem?_eq_some_iff.1 ho).1]; exact ho, o.le_refl⟩) (by omega)
    rcases List.mem_cons.1 hr with rfl | hr
    · exact .inr (.inr (Nat.le_refl _))
    · exact .inr (.inl hr)
  · have hlen : es.length = ds.length := k5.len
    refine x_app_own (r := r) (g := g) (v := ver) (m := m) (es0 := es) [cs] h1 h2 h3 h4 hx k4 hy hz hle ⟨rfl, rfl⟩ (by rw [hlen]; exact hb) (fun g' n' h' hh _ => ?_)
    have hrl := (List.getElem?_eq_some_iff.1 k4).1
    have hr2 : r ∉ S2 := hd r List.mem_cons_self
    refine hk _ (r :: (S' ++ S2)) _ _ (.inr ⟨r, g', ver + 1, n', es ++ [cs], S' ++ S2, rfl, fun hm => ?_, by rw [List.length_append], ?_, ?_, fun e he => (List.mem_append.1 he).elim (kz e) fun he => by obtain rfl := List.mem_singleton.1 he; exact hcl⟩) (fun q hq hn => ?_) (fun q hq => ?_) (by simp) (fun q o ho => ?_) (by omega)
    · rcases List.mem_append.1 hm with hm | hm
      · exact k2 hm
      · exact hr2 hm
    · rw [List.getElem?_set_self hrl]
      simp
    · refine (k5.app (TrLL_one ht) fun q hq => hd q (List.mem_cons_of_mem _ hq)).keep fun q hq => ?_
      refine List.getElem?_set_ne fun he => ?_
      subst he
      rcases List.mem_append.1 hq with hm | hm
      · exact k2 hm
      · exact hr2 hm
    · exact List.getElem?_set_ne fun he => hn (by rw [← he]; exact List.mem_cons_self)
    · rcases List.mem_cons.1 hq with rfl | hq
      · exact .inl List.mem_cons_self
      · rcases List.mem_append.1 hq with hq | hq
        · exact .inl (List.mem_cons_of_mem _ hq)
        · exact .inr (.inl hq)
    · by_cases he : r = q
      · subst he
        rw [k4] at ho
        injection ho with ho
        subst ho
        exact ⟨_, List.getElem?_set_self hrl, by simp only [Ob.le]; omega⟩
      · exact ⟨o, by rw [List.getElem?_set_ne he]; exact ho, o.le_refl⟩
end
/-- One element of a row of trees, to be turned. -/
theorem TrLL.focus {σ : List Ob} : ∀ {ds : List (List D)} {S : List Nat} {es : List (List V)} {n : Nat}, TrLL σ ds S es → (hn : n < ds.length) → ∃ (cs : List V) (Sn : List Nat), es[n]? = some cs ∧ (∀ r ∈ Sn, r ∈ S) ∧ TrL σ ds[n] Sn cs ∧
    ∀ (σ' : List Ob) (d' : List D) (cs' : List V), (∀ r ∈ S, r ∉ Sn → σ'[r]? = σ[r]?) → TrL σ' d' Sn cs' → TrLL σ' (ds.set n d') S (es.set n cs')
  | [], S, es, n, h, hn => absurd hn (by simp)
  | d :: ds, S, es, n, h, hn => by
    rw [TrLL] at h
    obtain ⟨u, l, S1, S2, rfl, rfl, hd, h1, h2⟩ := h
    cases n with
    | zero =>
      refine ⟨u, S1, rfl, fun r hr => List.mem_append_left _ hr, h1, fun σ' d' cs' hk ht => ?_⟩
      exact TrLL_cons ht (h2.keep fun r hr => hk r (List.mem_append_right _ hr) fun hr1 => hd r hr1 hr) hd
    | succ n =>
      obtain ⟨cs, Sn, k1, k2, k3, k4⟩ := h2.focus (n := n) (by simpa using hn)
      refine ⟨cs, Sn, by simpa using k1, fun r hr => List.mem_append_right _ (k2 r hr), k3, fun σ' d' cs' hk ht => ?_⟩
      exact TrLL_cons (h1.keep fun r hr => hk r (List.mem_append_left _ hr) fun hr1 => hd r hr (k2 r hr1)) (k4 σ' d' cs' (fun r hr hr1 => hk r (List.mem_append_right _ hr) hr1) ht) hd
end Go.VL
namespace Go.VL
set_option linter.unusedVariables false
set_option linter.unusedSimpArgs false

/-! ### writing a tree in place -/
/-- A function that writes a tree that it is lent, and counts. -/
def MCtr (W0 : World) (P : Program) (f : FuncId) (sh : Shp) (ds : List D) (k k' : Int) (Q' : List T → Prop) : Prop :=
  ∀ (σ : List Ob) (vs : List V), TrL σ ds (List.range σ.length) vs → Ctr W0 P f [sh.v vs, .t (.int .i64 k)] σ (fun _ _ r σ' => r = .t (.int .i64 k') ∧ (∃ ds', TrL σ' ds' (List.range σ'.length) vs ∧ Q' (D.erL ds')) ∧ σ'.length = σ.length ∧ (∀ (r : Nat) (o : Ob), σ[r]? = some o → ∃ o' : Ob, σ'[r]? = some o' ∧ o.le o'))

theorem Tr.loc_back {σ : List Ob} {S0 bor : List Nat} {n : Nat} (hn : S0.Nodup) : ∀ {d : D} {S : List Nat} {v : V}, Tr σ d S v → (∀ r ∈ S, r ∈ S0) → (v.loc σ S0 bor).back S0 n = v
  | .t x, S, v, h, hs => by rw [Tr] at h; rw [h.2.1]; rfl
  | .nil, S, v, h, hs => by rw [Tr] at h; rw [h.2]; rfl
  | .ow g sz ds, S, v, h, hs => by
    rw [Tr] at h
    obtain ⟨r, ver, m, es, S', rfl, hr, rfl, h4, h5, hzz⟩ := h
    obtain ⟨i, hi, he⟩ := List.mem_iff_getElem.1 (hs r List.mem_cons_self)
    have hk := idx_get hn (List.getElem?_eq_getElem hi)
    rw [he] at hk
    simp only [V.loc, hk, V.back, bk, List.getElem?_eq_getElem hi, he]
theorem TrL.loc_back {σ : List Ob} {S0 bor : List Nat} {n : Nat} (hn : S0.Nodup) : ∀ {d : List D} {S : List Nat} {v : List V}, TrL σ d S v → (∀ r ∈ S, r ∈ S0) → (v.map (V.loc σ S0 bor)).map (V.back S0 n) = v
  | [], S, v, h, hs => by rw [TrL] at h; rw [h.2]; rfl
  | d :: ds, S, v, h, hs => by
    rw [TrL] at h
    obtain ⟨u, l, S1, S2, rfl, rfl, hd, h1, h2⟩ := h
    rw [List.map_cons, List.map_cons, h1.loc_back hn (fun r hr => hs r (List.mem_append_left _ hr)), h2.loc_back hn (fun r hr => hs r (List.mem_append_right _ hr))]
theorem backObs_len2 {σ σ1 : List Ob} {fp : List Nat} (hl : σ1.length = fp.length) : (backObs σ fp σ1).length = σ.length := by
  rw [backObs, List.length_append, backAt_length, List.length_map, List.length_drop]
  omega
theorem backObs_other2 {σ σ1 : List Ob} {fp : List Nat} (hl : σ1.length = fp.length) {r : Nat} (hr : r ∉ fp) : (backObs σ fp σ1)[r]? = σ[r]? := by
  by_cases h : r < σ.length
  · have := List.getElem?_eq_getElem h
    rw [this]
    exact backObs_other this (idx_not hr)
  · rw [List.getElem?_eq_none (l := σ) (by omega), List.getElem?_eq_none (by rw [backObs_len2 hl]; omega)]
theorem idx_range {n r : Nat} (h : r < n) : idx (List.range n) r = some r := by
  have := idx_get (List.nodup_range (n := n)) (r := r) (k := r) (by rw [List.getElem?_range h])
  exact this
theorem TrL.loc_range {σ : List Ob} {bor : List Nat} : ∀ {d : List D} {S : List Nat} {v : List V}, TrL σ d S v → v.map (V.loc σ (List.range σ.length) bor) = v
  | [], S, v, h => by rw [TrL] at h; rw [h.2]; rfl
  | d :: ds, S, v, h => by
    rw [TrL] at h
    obtain ⟨u, l, S1, S2, rfl, rfl, hd, h1, h2⟩ := h
    rw [List.map_cons, h2.loc_range]
    congr 1
    have hlt := h1.lt
    cases d with
    | t x => rw [Tr] at h1; rw [h1.2.1]; rfl
    | nil => rw [Tr] at h1; rw [h1.2]; rfl
    | ow g sz es =>
      rw [Tr] at h1
      obtain ⟨r, ver, m, es, S', rfl, hr, rfl, h4, h5, hzz⟩ := h1
      simp only [V.loc, idx_range (hlt r List.mem_cons_self)]
/-- Where such a function returns. -/
theorem retM {P : Program} {rs : List ResultVar} {h0 : Nat} {s : St} {σ0 : List Ob} {vs vs' : List V} {ds' : List D} {Q' : List T → Prop} {k' : Int} (hr : rs.mapM (resQ P s) = some vs') (hv : tupV vs' = .t (.int .i64 k')) (hl : s.σ.length = σ0.length) (ht : TrL s.σ ds' (List.range σ0.length) vs) (hq : Q' (D.erL ds'))
    (hle : ∀ (r : Nat) (o : Ob), σ0[r]? = some o → ∃ o' : Ob, s.σ[r]? = some o' ∧ o.le o') :
    retK P rs σ0 h0 (fun _ _ r σ' => r = .t (.int .i64 k') ∧ (∃ ds', TrL σ' ds' (List.range σ'.length) vs ∧ Q' (D.erL ds')) ∧ σ'.length = σ0.length ∧ (∀ (r : Nat) (o : Ob), σ0[r]? = some o → ∃ o' : Ob, σ'[r]? = some o' ∧ o.le o')) s := by
  rw [← hl] at ht
  have hle' : ∀ (r : Nat) (o : Ob), σ0[r]? = some o → ∃ o' : Ob, (locObs s.σ (List.range s.σ.length) [])[r]? = some o' ∧ o.le o' := fun r o ho => by
    obtain ⟨o', h1, h2⟩ := hle r o ho
    have hlt := (List.getElem?_eq_some_iff.1 h1).1
    exact ⟨_, locObs_get (by rw [List.getElem?_range hlt]) h1, h2.trans_ (o'.loc_le _ _ _)⟩
  refine ⟨vs', hr, List.range s.σ.length, [], List.nodup_range, (fun r hr => List.mem_range.1 hr), (fun r _ h => by cases h), fun hi _ => ⟨by rw [hv]; rfl, ⟨ds', ?_, hq⟩, by rw [locObs_len, List.length_range, hl], hle'⟩, hle'⟩
  · have h1 := ht.loc (bor := [])
    rw [ht.loc_range, List.length_range] at h1
    rw [locObs_len, List.length_range]
    exact h1
section
variable {W0 : World} {P : Program} {ops : Array Oper} {l : List (Oper × Bool)} {K : St → Prop} {e : Nat → V} {σ : List Ob} {h : Nat}
/-- A call of such a function. -/
theorem x_callM {d : Tmp} {f : FuncId} {as_ : Array Operand} {tys : Array TypeId} {ty : TypeId} {pos : String} {af : Array Edge} {fop : Operand} {sh : Shp} {ds : List D} {S : List Nat} {vs : List V} {k k' : Int} {Q' : List T → Prop} (hc : MCtr W0 P f sh ds k k' Q') (ht : TrL σ ds S vs) (hf : St.eval ⟨e, σ, h⟩ fop = .fn f [])
    (ha : as_.toList.map (St.eval ⟨e, σ, h⟩) = [sh.v vs, .t (.int .i64 k)])
    (hk : ∀ (ds' : List D) (σ' : List Ob) (h' : Nat), TrL σ' ds' S vs → Q' (D.erL ds') → (∀ r, r ∉ S → σ'[r]? = σ[r]?) → σ'.length = σ.length → (∀ (r : Nat) (o : Ob), σ[r]? = some o → ∃ o' : Ob, σ'[r]? = some o' ∧ o.le o') → h ≤ h' → vcX W0 P ops l K ⟨upd e d (.t (.int .i64 k')), σ', h'⟩) :
    vcX W0 P ops ((⟨some d, .call ⟨.value fop, as_, tys⟩, ty, pos, af, none⟩, true) :: l) K ⟨e, σ, h⟩ := by
  have hloc := ht.loc (bor := [])
  have hlen := locObs_len σ S []
  rw [← hlen] at hloc
  refine vcX_callF S [] [sh.v (vs.map (V.loc σ S [])), .t (.int .i64 k)] (locObs σ S []) _ (hc _ _ hloc) hf ht.nodup ht.lt (fun r _ hr => by cases hr) rfl (Subs.of_eq ?_) ?_
  · rw [ha, List.append_nil, List.map_cons, Shp.loc]; rfl
  · rintro r σ1 h' hh ⟨rfl, ⟨ds', h1, h2⟩, h3, h4⟩
    refine ⟨fun q hq => (by cases hq), ?_⟩
    rw [hlen] at h3
    have hb := h1.back (σ := σ) (fp := S) ht.nodup ht.lt
    rw [h3, map_bk, ht.loc_back ht.nodup (fun r hr => hr)] at hb
    refine hk ds' _ h' hb h2 (fun r hr => backObs_other2 h3 hr) (backObs_len2 h3) (fun r o ho => ?_) hh
    cases hk : idx S r with
    | none => exact ⟨o, backObs_other ho hk, o.le_refl⟩
    | some k =>
      have hkf := idx_some hk
      obtain ⟨o', h5, h6⟩ := h4 k _ (locObs_get hkf ho)
      refine ⟨o'.back S σ.length, ?_, (o.loc_le _ _ _).trans_ (h6.trans_ (o'.back_le _ _))⟩
      have := backObs_get ht.nodup ht.lt h5 (σ := σ)
      unfold bk at this
      rw [hkf] at this
      exact this

/-! ### frozen results in new blocks -/
mutual
theorem Tr.er_ids {σ : List Ob} : ∀ {d : D} {S : List Nat} {v : V}, Tr σ d S v → ∀ b ∈ d.er.ids, ∃ r ∈ S, ∃ o, σ[r]? = some o ∧ o.g = b
  | .t x, S, v, h => by rw [Tr] at h; rw [D.er, h.2.2.1]; exact fun b hb => by cases hb
  | .nil, S, v, h => by rw [D.er, T.ids]; exact fun b hb => by cases hb
  | .ow g sz ds, S, v, h => by
    rw [Tr] at h
    obtain ⟨r, ver, m, es, S', rfl, hr, rfl, h4, h5, hzz⟩ := h
    intro b hb
    rw [D.er, T.ids] at hb
    split at hb
    · cases hb
    · rcases List.mem_cons.1 hb with rfl | hb
      · exact ⟨r, List.mem_cons_self, _, h4, rfl⟩
      · obtain ⟨q, h6, h7⟩ := TrLL.er_ids h5 b hb
        exact ⟨q, List.mem_cons_of_mem _ h6, h7⟩
theorem TrL.er_ids {σ : List Ob} : ∀ {d : List D} {S : List Nat} {v : List V}, TrL σ d S v → ∀ b ∈ T.idsL (D.erL d), ∃ r ∈ S, ∃ o, σ[r]? = some o ∧ o.g = b
  | [], S, v, h => by rw [D.erL, T.idsL]; exact fun b hb => by cases hb
  | d :: ds, S, v, h => by
    rw [TrL] at h
    obtain ⟨u, l, S1, S2, rfl, rfl, hd, h1, h2⟩ := h
    intro b hb
    rw [D.erL, T.idsL] at hb
    rcases List.mem_append.1 hb with hb | hb
    · obtain ⟨q, h6, h7⟩ := Tr.er_ids h1 b hb
      exact ⟨q, List.mem_append_left _ h6, h7⟩
    · obtain ⟨q, h6, h7⟩ := TrL.er_ids h2 b hb
      exact ⟨q, List.mem_append_right _ h6, h7⟩
theorem TrLL.er_ids {σ : List Ob} : ∀ {d : List (List D)} {S : List Nat} {v : List (List V)}, TrLL σ d S v → ∀ b ∈ T.idsLL (D.erLL d), ∃ r ∈ S, ∃ o, σ[r]? = some o ∧ o.g = b
  | [], S, v, h => by rw [D.erLL, T.idsLL]; exact fun b hb => by cases hb
  | d :: ds, S, v, h => by
    rw [TrLL] at h
    obtain ⟨u, l, S1, S2, rfl, rfl, hd, h1, h2⟩ := h
    intro b hb
    rw [D.erLL, T.idsLL] at hb
    rcases List.mem_append.1 hb with hb | hb
    · obtain ⟨q, h6, h7⟩ := TrL.er_ids h1 b hb
      exact ⟨q, List.mem_append_left _ h6, h7⟩
    · obtain ⟨q, h6, h7⟩ := TrLL.er_ids h2 b hb
      exact ⟨q, List.mem_append_right _ h6, h7⟩
end
theorem V.idsL_t : ∀ l : List T, V.idsL (l.map V.t) = T.idsL l
  | [] => rfl
  | x :: l => by rw [List.map_cons, V.idsL, V.idsL_t l, V.ids, T.idsL]
theorem Shp.ids_t (s : Shp) (hs : s.plain) (ts : List T) : ∀ b ∈ (s.v (ts.map V.t)).ids, b ∈ T.idsL ts := by
  have h1 : ∀ b ∈ ((ts.map V.t).headD .undef).ids, b ∈ T.idsL ts := by
    cases ts with
    | nil => intro b hb; cases hb
    | cons x l => intro b hb; rw [T.idsL]; exact List.mem_append_left _ hb
  intro b hb
  cases s <;> simp only [Shp.v, V.ids, V.idsL, List.append_nil, V.idsL_t, List.mem_append] at hb
  · exact hb
  · exact h1 b hb
  · rcases hb with hb | hb
    · exact hb
    · have : _ = [] := hs; rw [this] at hb; cases hb
  · rcases hb with hb | hb
    · exact h1 b hb
    · have : _ = [] := hs; rw [this] at hb; cases hb
  · rcases hb with hb | hb
    · have : _ = [] := hs; rw [this] at hb; cases hb
    · exact h1 b hb
  · cases hb
/-- A function that gives frozen data in new blocks. -/
def NCtr (W0 : World) (P : Program) (f : FuncId) (args : List V) (Q : V → Prop) : Prop := Ctr W0 P f args [] fun lo _ r σ => Q r ∧ r.pure = true ∧ σ = [] ∧ ∀ b ∈ r.ids, lo ≤ b
theorem OCtr.fresh {W0 : World} {P : Program} {f : FuncId} {args : List V} {Q : Shp → List T → Prop} (h : OCtr W0 P f args Q) (hQ : ∀ s ts, Q s ts → ts.length = 1 ∨ (s = .agg ∨ ∃ x, s = .aggT x)) :
    NCtr W0 P f args (fun r => ∃ (s : Shp) (ts : List T), r = s.v (ts.map V.t) ∧ Q s ts) := by
  refine ⟨h.1, fun w X vs hX ha hp cs => ?_⟩
  obtain ⟨e, w', fr, ⟨v, r, σ', h1, ⟨s, ds, us, rfl, hs, h2, h3⟩, h4, h5, h6, h7, h8⟩, h9⟩ := h.2 w X vs hX ha hp cs
  refine ⟨e, w', fr, ⟨v, s.v ((D.erL ds).map V.t), [], h1, ⟨⟨s, D.erL ds, rfl, h3⟩, s.pure (hQ _ _ h3), rfl, fun b hb => ?_⟩, ?_, ⟨fun r o h => by simp at h, fun r r' o o' h => by simp at h, fun r o h => by simp at h⟩, h6, fun r o h => by simp at h, fun r o h => by simp at h⟩, h9⟩
  · obtain ⟨r, hr, o, ho, rfl⟩ := h2.er_ids b (s.ids_t hs _ b hb)
    rcases h8 r o ho with ⟨r', o', h, _⟩ | h
    · simp at h
    · exact h
  have hav : ∀ b, AV X (locObs σ' [] (List.range σ'.length)) b → X b ∨ ∃ (r : Nat) (o : Ob), σ'[r]? = some o ∧ r ∉ List.range σ'.length ∧ o.g = b := by
    rintro b (hx | ⟨r, o, ho, _⟩)
    · exact .inl hx
    · simp [locObs] at ho
  have h10 := h4.loc (fp := []) (bor := List.range σ'.length) h5 (fun r hr => by cases hr) hav
  rw [Shp.loc] at h10
  exact h10.sub (s.sub (h2.lend (fun r hr => hr) (fun r _ hr => by cases hr)))
theorem NCtr.mono {W0 : World} {P : Program} {f : FuncId} {args : List V} {Q Q' : V → Prop} (h : NCtr W0 P f args Q) (hq : ∀ v, Q v → Q' v) : NCtr W0 P f args Q' := by
  refine ⟨h.1, fun w X vs hX ha hp cs => ?_⟩
  obtain ⟨e, w', fr, ⟨v, r, σ', h1, ⟨h2, h3, h4⟩, h5⟩, h6⟩ := h.2 w X vs hX ha hp cs
  exact ⟨e, w', fr, ⟨v, r, σ', h1, ⟨hq r h2, h3, h4⟩, h5⟩, h6⟩
section
variable {W0 : World} {P : Program} {ops : Array Oper} {l : List (Oper × Bool)} {K : St → Prop} {e : Nat → V} {σ : List Ob} {h : Nat}
theorem x_callN {d : Option Tmp} {f : FuncId} {as_ : Array Operand} {tys : Array TypeId} {ty : TypeId} {pos : String} {af : Array Edge} {b : Bool} {fop : Operand} {caps : List V} (bor : List Nat) (args : List V) (Q : V → Prop) (hc : NCtr W0 P f args Q) (hf : St.eval ⟨e, σ, h⟩ fop = .fn f caps)
    (ha : Subs ((as_.toList.map (St.eval ⟨e, σ, h⟩) ++ caps).map (V.loc σ [] bor)) args)
    (hk : ∀ r h', h ≤ h' → Q r → r.pure = true → vcX W0 P ops l K ⟨((⟨e, σ, h⟩ : St).put d r).env, σ, h'⟩) :
    vcX W0 P ops ((⟨d, .call ⟨.value fop, as_, tys⟩, ty, pos, af, none⟩, b) :: l) K ⟨e, σ, h⟩ := by
  simp only [vcX, vcOp, gd, vcRun, isQuiet, isApp, vcCall, hf]
  rw [if_neg (by simp), if_neg (by simp)]
  refine ⟨[], bor, args, _, .nil, (fun r hr => by cases hr), (fun r hr => by cases hr), .inr rfl, ha, hc, fun lo hi r σ1 h1 h2 ⟨h3, h4, h5, h6⟩ => ?_⟩
  subst h5
  refine ⟨fun q hq o ho hlt => ⟨fun hm => by have := h6 _ hm; omega, fun o1 ho1 => by cases ho1⟩, ?_⟩
  rw [V.pure_back _ _ _ h4, backObs_nil]
  exact hk r hi (Nat.le_trans (show h ≤ lo from h1) h2) h3 h4
end

/-! ### slices that are joined -/
/-- The only object: a slice's row, filled from the front (as it begins it may hold 'tot' zeros); or none as yet. -/
def Cat (tot : Nat) (σ : List Ob) (sz : Nat) (acc : List (List V)) (v : V) : Prop :=
  (acc = [] ∧ σ = [] ∧ v = .nil0) ∨ ∃ (g ver m : Nat) (es : List (List V)), σ = [.row g ver sz m es] ∧ v = .own 0 ver 0 acc.length ∧ (es = acc ∨ acc = [] ∧ 0 < tot)
theorem x_cat {tot : Nat} {d : Tmp} {x y : Operand} {t t2 t' : TypeId} {ty : TypeId} {pos : String} {af : Array Edge} {sz bs : Nat} {z : List V} {acc : List (List V)} {v : V} (es : List (List V)) (h1 : tElem P t = some t') (h2 : tSize P t' = some sz) (h3 : tZero P t' = some z) (h4 : tBytes P t' = some bs)
    (hx : St.eval ⟨e, σ, h⟩ x = v) (ho : Cat tot σ sz acc v) (hy : appElems P ⟨e, σ, h⟩ sz (some z) t2 (St.eval ⟨e, σ, h⟩ y) = some es) (hz : z.length = sz ∧ 0 < sz ∧ 0 < bs) (hl : ∀ e ∈ es, e.length = sz ∧ ∀ c ∈ e, V.leaf c = true)
    (hb : 2 * (acc.length + es.length) * bs ≤ 281474976710656)
    (hk : ∀ v' σ' h', Cat tot σ' sz (acc ++ es) v' → h ≤ h' → vcX W0 P ops l K ⟨upd e d v', σ', h'⟩) :
    vcX W0 P ops ((⟨some d, .call ⟨.builtin .append, #[x, y], #[t, t2]⟩, ty, pos, af, none⟩, true) :: l) K ⟨e, σ, h⟩ := by
  rcases ho with ⟨rfl, rfl, rfl⟩ | ⟨g, ver, m, es0, rfl, rfl, h5⟩
  · rw [vcX_append_nil h1 h2 h3 h4 hx hy]
    refine ⟨hz.1, hz.2.1, hz.2.2, hl, by simpa using hb, ?_⟩
    split
    · rename_i h0
      obtain rfl := List.length_eq_zero_iff.1 h0
      exact hk _ _ _ (.inl ⟨rfl, rfl, rfl⟩) (Nat.le_refl _)
    · exact fun g n hg => hk _ _ _ (.inr ⟨g, 0, n, es, rfl, rfl, .inl rfl⟩) (by omega)
  · refine x_app_own (r := 0) (g := g) (v := ver) (m := m) (es0 := es0) es h1 h2 h3 h4 hx rfl hy hz hl ⟨rfl, rfl⟩ hb (fun g' n' h' hh _ => ?_)
    refine hk _ _ _ (.inr ⟨g', ver + 1, n', es0.take acc.length ++ es, rfl, by rw [List.length_append], .inl ?_⟩) hh
    rcases h5 with rfl | ⟨rfl, _⟩
    · rw [List.take_length]
    · rfl
/-- A function over frozen data, of whose result less is told. -/
theorem FCtr.of_sub {f : FuncId} {args : List V} {Q : V → Prop} (h : Ctr W0 P f args [] (fun _ _ r σ => (∃ x, Sub r x ∧ x.pure = true ∧ Q x) ∧ σ = [])) : FCtr W0 P f args Q := by
  refine ⟨h.1, fun w X vs hX ha hp cs => ?_⟩
  obtain ⟨e, w', fr, ⟨v, r, σ', h1, ⟨⟨x, h2, h3, h4⟩, h5⟩, h6, h7, h8, h9, h10⟩, h11⟩ := h.2 w X vs hX ha hp cs
  exact ⟨e, w', fr, ⟨v, x, σ', h1, ⟨h4, h3, h5⟩, h6.sub h2, h7, h8, h9, h10⟩, h11⟩
/-- Where a function returns frozen data that one's own objects make up. -/
theorem retFz {rs : List ResultVar} {h0 : Nat} {s : St} {Q : V → Prop} {vs : List V} (bor : List Nat) {x : V} (hr : rs.mapM (resQ P s) = some vs) (hs : Sub ((tupV vs).loc s.σ [] bor) x) (hp : x.pure = true) (hq : Q x) :
    retK P rs [] h0 (fun _ _ r σ => (∃ x, Sub r x ∧ x.pure = true ∧ Q x) ∧ σ = []) s :=
  ⟨vs, hr, [], bor, .nil, (fun r hr => by cases hr), (fun r hr => by cases hr), fun hi _ => ⟨⟨x, hs, hp, hq⟩, rfl⟩, fun r o h => by simp at h⟩
end

/-! ### parts of slices -/
theorem q_slice_nil {P : Program} {s : St} {t : TypeId} {k : IntKind} : sliceQ P s t .nil0 none (some (.t (.int k 0))) = match esize P t with | some _ => some .nil0 | none => none := by
  simp only [sliceQ, esize]
  cases tElem P t with
  | none => rfl
  | some e =>
    simp only [sliceB_0, sliceB_none]
    cases tSize P e <;> rfl
theorem q_slice_own {P : Program} {s : St} {t : TypeId} {k : IntKind} {r ver off len n : Nat} (h : n ≤ len) : sliceQ P s t (.own r ver off len) none (some (.t (.int k (n : Int)))) = match esize P t with
    | some sz => (match s.σ[r]? with | some (.row _ v sz' _ _) => if ver = v ∧ sz' = sz then some (.own r ver off n) else none | _ => none)
    | none => none := by
  simp only [sliceQ, esize]
  cases tElem P t with
  | none => rfl
  | some e =>
    simp only
    cases tSize P e with
    | none => rfl
    | some sz =>
      simp only [sliceB_nat h]
      cases s.σ[r]? with
      | none => rfl
      | some o => cases o <;> simp [sliceB_none]
theorem q_slice_own0 {P : Program} {s : St} {t : TypeId} {k : IntKind} {r ver off len : Nat} : sliceQ P s t (.own r ver off len) none (some (.t (.int k 0))) = match esize P t with
    | some sz => (match s.σ[r]? with | some (.row _ v sz' _ _) => if ver = v ∧ sz' = sz then some (.own r ver off 0) else none | _ => none)
    | none => none := q_slice_own (n := 0) (Nat.zero_le _)
attribute [go_sem] q_slice_nil q_slice_own q_slice_own0 capQ
theorem Tb.lend {σ : List Ob} {sz : Nat} {ds : List (List D)} {S : List Nat} {v : V} (h : Tb σ sz ds S v) : ∃ g, Sub (v.loc σ [] S) (.t (.sl g (D.erLL ds))) := by
  obtain ⟨d, g, h1, h2⟩ := h.tr
  refine ⟨g, ?_⟩
  rw [← h2]
  exact h1.lend (fun r hr => hr) (fun r _ hr => by cases hr)

theorem get_new (σ : List Ob) (o : Ob) : (σ ++ [o])[σ.length]? = some o := by simp
theorem get_old {σ : List Ob} {o : Ob} {r : Nat} (h : r < σ.length) : (σ ++ [o])[r]? = σ[r]? := List.getElem?_append_left h
attribute [go_sem] get_new
theorem Tb.more {σ : List Ob} {sz : Nat} {ds : List (List D)} {S : List Nat} {v : V} (h : Tb σ sz ds S v) (o : Ob) : Tb (σ ++ [o]) sz ds S v := h.keep fun r hr => get_old (h.lt r hr)
theorem TrL.more {σ : List Ob} {ds : List D} {S : List Nat} {v : List V} (h : TrL σ ds S v) (o : Ob) : TrL (σ ++ [o]) ds S v := h.keep fun r hr => get_old (h.lt r hr)

/-! ### strings in rows -/
def Vs (xs : List ByteArray) : List (List V) := xs.map fun x => [V.t (.str x)]
def Ts (xs : List ByteArray) : List (List T) := xs.map fun x => [T.str x]
def Ds (xs : List ByteArray) : List (List D) := xs.map fun x => [D.t (.str x)]
theorem Ds_er : ∀ xs : List ByteArray, D.erLL (Ds xs) = Ts xs
  | [] => rfl
  | x :: l => by
    have := Ds_er l
    unfold Ds Ts at *
    rw [List.map_cons, D.erLL, this, List.map_cons]; rfl
theorem Ts_V (xs : List ByteArray) : (Ts xs).map (·.map V.t) = Vs xs := by simp [Ts, Vs]
theorem TrLL_Ds {σ : List Ob} : ∀ xs : List ByteArray, TrLL σ (Ds xs) [] (Vs xs)
  | [] => TrLL_nil
  | x :: l => TrLL_cons (S1 := []) (S2 := []) (TrL_one Tr_str) (TrLL_Ds l) (Dj_nil _)
theorem Vs_1 (xs : List ByteArray) : ∀ e ∈ Vs xs, e.length = 1 := by
  intro e he
  obtain ⟨x, _, rfl⟩ := List.mem_map.1 he
  rfl
theorem TrLL_Ds_inv {σ : List Ob} : ∀ {xs : List ByteArray} {S : List Nat} {es : List (List V)}, TrLL σ (Ds xs) S es → S = [] ∧ es = Vs xs
  | [], S, es, h => by simp only [Ds, List.map_nil] at h; rw [TrLL] at h; exact h
  | x :: l, S, es, h => by
    simp only [Ds, List.map_cons] at h
    rw [TrLL] at h
    obtain ⟨u, l', S1, S2, rfl, rfl, hd, h1, h2⟩ := h
    obtain ⟨rfl, rfl⟩ := TrLL_Ds_inv (xs := l) h2
    rw [TrL] at h1
    obtain ⟨v, l2, S3, S4, rfl, rfl, _, h3, h4⟩ := h1
    rw [Tr] at h3
    rw [TrL] at h4
    obtain ⟨rfl, rfl, _⟩ := h3
    obtain ⟨rfl, rfl⟩ := h4
    exact ⟨rfl, rfl⟩
/-- A row of strings that is joined to the end. -/
theorem Cat.tr {σ : List Ob} {xs : List ByteArray} {v : V} (hc : Cat xs.length σ 1 (Vs xs) v) : ∃ d S, Tr σ d S v ∧ ∃ g, d.er = .sl g (Ts xs) := by
  rcases hc with ⟨h1, rfl, rfl⟩ | ⟨g, ver, m, es, rfl, rfl, h5⟩
  · obtain rfl : xs = [] := by simpa [Vs] using h1
    exact ⟨.nil, [], Tr_nil, 0, rfl⟩
  · obtain rfl : es = Vs xs := by
      rcases h5 with h5 | ⟨h5, h6⟩
      · exact h5
      · obtain rfl : xs = [] := by simpa [Vs] using h5
        exact absurd h6 (by simp)
    refine ⟨.ow g 1 (Ds xs), [0], ?_, g, by rw [D.er, Ds_er]⟩
    rw [Tr]
    exact ⟨0, ver, m, Vs xs, [], rfl, by simp, rfl, rfl, TrLL_Ds xs, Vs_1 xs⟩
theorem Ds_app (xs ys : List ByteArray) : Ds (xs ++ ys) = Ds xs ++ Ds ys := by simp [Ds]
theorem Vs_len (xs : List ByteArray) : (Vs xs).length = xs.length := by simp [Vs]
theorem Ts_len (xs : List ByteArray) : (Ts xs).length = xs.length := by simp [Ts]
theorem Ds_len (xs : List ByteArray) : (Ds xs).length = xs.length := by simp [Ds]
theorem Vs_app (xs ys : List ByteArray) : Vs (xs ++ ys) = Vs xs ++ Vs ys := by simp [Vs]
theorem Ts_app (xs ys : List ByteArray) : Ts (xs ++ ys) = Ts xs ++ Ts ys := by simp [Ts]
end Go.VL
