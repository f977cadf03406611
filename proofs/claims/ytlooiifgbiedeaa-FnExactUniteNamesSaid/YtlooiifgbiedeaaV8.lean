/- VL, part 8: contracts, calls, one operation. -/
import Derived.Test.YtlooiifgbiedeaaV7
namespace Go.VL
set_option linter.unusedVariables false
set_option linter.unusedSimpArgs false

/-- A value that says less. -/
inductive Sub : V → V → Prop
  | refl (v : V) : Sub v v
  | undef (v : V) : Sub v .undef
  | nil (g : Nat) : Sub .nil0 (.t (.sl g []))
  | agg {l l' : List V} (hl : l.length = l'.length) (h : ∀ (i : Nat) (c c' : V), l[i]? = some c → l'[i]? = some c' → Sub c c') : Sub (.agg l) (.agg l')
  | tup {l l' : List V} (hl : l.length = l'.length) (h : ∀ (i : Nat) (c c' : V), l[i]? = some c → l'[i]? = some c' → Sub c c') : Sub (.tup l) (.tup l')
def Subs (l l' : List V) : Prop := l.length = l'.length ∧ ∀ (i : Nat) (c c' : V), l[i]? = some c → l'[i]? = some c' → Sub c c'
theorem Subs.refl (l : List V) : Subs l l := ⟨rfl, fun i c c' h h' => by rw [h] at h'; cases h'; exact .refl _⟩
theorem VR.sub {w : World} {X : Nat → Prop} {σ : List Ob} {v v' : V} (h : Sub v v') : ∀ {y : Value}, VR w X σ v y → VR w X σ v' y := by
  induction h with
  | refl v => exact fun h => h
  | undef v => exact fun _ => .undef _
  | nil g => intro y h; cases h with | nil0 a => exact .t (.nil _ _ _)
  | @agg l l' hl h ih =>
    intro y hy
    cases hy with
    | @agg _ vs hs hr =>
      refine .agg (by omega) (fun i c' hc' => ?_)
      have hlt := (List.getElem?_eq_some_iff.1 hc').1
      have hc : l[i]? = some l[i] := List.getElem?_eq_getElem (by omega)
      exact ih i _ c' hc hc' (hr i _ hc)
  | @tup l l' hl h ih =>
    intro y hy
    cases hy with
    | @tup _ vs hs hr =>
      refine .tup (by omega) (fun i c' hc' => ?_)
      have hlt := (List.getElem?_eq_some_iff.1 hc').1
      have hc : l[i]? = some l[i] := List.getElem?_eq_getElem (by omega)
      exact ih i _ c' hc hc' (hr i _ hc)

mutual
def T.ids : T → List Nat
  | .sl g es => if es.isEmpty then [] else g :: T.idsLL es
  | .int .. => []
  | .bool _ => []
  | .str _ => []
def T.idsL : List T → List Nat
  | [] => []
  | x :: l => T.ids x ++ T.idsL l
def T.idsLL : List (List T) → List Nat
  | [] => []
  | e :: l => T.idsL e ++ T.idsLL l
end
theorem T.idsL_mem {b : Nat} : ∀ {l : List T} {j : Nat} {t : T}, l[j]? = some t → b ∈ t.ids → b ∈ T.idsL l
  | [], j, t, h, _ => by simp at h
  | x :: l, j, t, h, hb => by
    rw [T.idsL, List.mem_append]
    cases j with
    | zero => simp only [List.getElem?_cons_zero, Option.some.injEq] at h; subst h; exact .inl hb
    | succ j => exact .inr (T.idsL_mem (by simpa using h) hb)
theorem T.idsLL_mem {b : Nat} : ∀ {l : List (List T)} {i : Nat} {e : List T}, l[i]? = some e → b ∈ T.idsL e → b ∈ T.idsLL l
  | [], i, e, h, _ => by simp at h
  | x :: l, i, e, h, hb => by
    rw [T.idsLL, List.mem_append]
    cases i with
    | zero => simp only [List.getElem?_cons_zero, Option.some.injEq] at h; subst h; exact .inl hb
    | succ i => exact .inr (T.idsLL_mem (by simpa using h) hb)
theorem FR.ids {w : World} {av av' : Nat → Prop} {x : T} {v : Value} (h : FR w av x v) (ha : ∀ b, av' b → av b ∨ b ∉ x.ids) : FR w av' x v := by
  induction h with
  | int => exact .int _ _
  | bool => exact .bool _
  | str => exact .str _
  | nil => exact .nil _ _ _
  | sl g es off c sz cell hc hg h1 hl hcell hr ih =>
    cases es with
    | nil => exact .nil _ _ _
    | cons e0 es =>
    have hids : (T.sl g (e0 :: es)).ids = g :: T.idsLL (e0 :: es) := by rw [T.ids]; rfl
    rw [hids] at ha
    refine .sl g (e0 :: es) off c sz cell hc hg (fun hb => ?_) hl hcell (fun i j e t he ht => ih i j e t he ht (fun b hb => ?_))
    · rcases ha g hb with h | h
      · exact h1 h
      · exact h List.mem_cons_self
    · rcases ha b hb with h | h
      · exact .inl h
      · exact .inr (fun hm => h (List.mem_cons_of_mem _ (T.idsLL_mem he (T.idsL_mem ht hm))))

mutual
def V.ids : V → List Nat
  | .t x => x.ids
  | .fn _ caps => V.idsL caps
  | .agg cs => V.idsL cs
  | .tup vs => V.idsL vs
  | .nil0 => []
  | .own .. => []
  | .ptr .. => []
  | .fz .. => []
  | .map _ => []
  | .err _ => []
  | .undef => []
  | .skip => []
def V.idsL : List V → List Nat
  | [] => []
  | v :: l => V.ids v ++ V.idsL l
end
theorem V.idsL_mem {b : Nat} : ∀ {l : List V} {j : Nat} {u : V}, l[j]? = some u → b ∈ u.ids → b ∈ V.idsL l
  | [], j, u, h, _ => by simp at h
  | x :: l, j, u, h, hb => by
    rw [V.idsL, List.mem_append]
    cases j with
    | zero => simp only [List.getElem?_cons_zero, Option.some.injEq] at h; subst h; exact .inl hb
    | succ j => exact .inr (V.idsL_mem (by simpa using h) hb)
def Ob.ids : Ob → List Nat
  | .row _ _ _ _ es => es.flatMap V.idsL
  | .map _ es => es.flatMap fun p => p.2.ids

/-- A callee's number for an object, as the caller's: fp's own, then new ones from 'n' on. -/
def bk (fp : List Nat) (n k : Nat) : Nat := match fp[k]? with | some r => r | none => n + (k - fp.length)
mutual
def V.back (fp : List Nat) (n : Nat) : V → V
  | .own r ver off len => .own (bk fp n r) ver off len
  | .ptr r ver i j => .ptr (bk fp n r) ver i j
  | .map r => .map (bk fp n r)
  | .fn f caps => .fn f (V.backs fp n caps)
  | .agg cs => .agg (V.backs fp n cs)
  | .tup vs => .tup (V.backs fp n vs)
  | .fz e j => .undef
  | .t x => .t x
  | .nil0 => .nil0
  | .err b => .err b
  | .undef => .undef
  | .skip => .skip
def V.backs (fp : List Nat) (n : Nat) : List V → List V
  | [] => []
  | v :: l => V.back fp n v :: V.backs fp n l
end
theorem V.backs_eq (fp : List Nat) (n : Nat) (l : List V) : V.backs fp n l = l.map (V.back fp n) := by
  induction l with
  | nil => rfl
  | cons v l ih => rw [V.backs, ih]; rfl
def Ob.back (fp : List Nat) (n : Nat) : Ob → Ob
  | .row g ver sz m es => .row g ver sz m (es.map (·.map (V.back fp n)))
  | .map g es => .map g (es.map fun p => (p.1, p.2.back fp n))
theorem Ob.back_g (fp : List Nat) (n : Nat) (o : Ob) : (o.back fp n).g = o.g := by cases o <;> rfl
theorem Ob.back_le (fp : List Nat) (n : Nat) (o : Ob) : o.le (o.back fp n) := by cases o <;> simp [Ob.back, Ob.le]
/-- The caller's objects behind a call. -/
def backAt (fp : List Nat) (n : Nat) (σ1 : List Ob) : Nat → List Ob → List Ob
  | _, [] => []
  | r, o :: l => (match idx fp r with | some k => ((σ1[k]?).getD default).back fp n | none => o) :: backAt fp n σ1 (r + 1) l
def backObs (σ : List Ob) (fp : List Nat) (σ1 : List Ob) : List Ob := backAt fp σ.length σ1 0 σ ++ (σ1.drop fp.length).map (Ob.back fp σ.length)
theorem backAt_nil (n : Nat) (σ1 : List Ob) : ∀ (r : Nat) (σ : List Ob), backAt [] n σ1 r σ = σ
  | _, [] => rfl
  | r, o :: l => by rw [backAt, backAt_nil n σ1 (r + 1) l]; rfl
theorem backObs_nil (σ : List Ob) : backObs σ [] [] = σ := by simp [backObs, backAt_nil]
theorem backAt_get (fp : List Nat) (n : Nat) (σ1 : List Ob) : ∀ (σ : List Ob) (r q : Nat), (backAt fp n σ1 r σ)[q]? = match σ[q]? with
    | some o => some (match idx fp (r + q) with | some k => ((σ1[k]?).getD default).back fp n | none => o)
    | none => none
  | [], r, q => by simp [backAt]
  | o :: l, r, q => by
    rw [backAt]
    cases q with
    | zero => simp
    | succ q =>
      rw [List.getElem?_cons_succ, backAt_get fp n σ1 l (r + 1) q, List.getElem?_cons_succ]
      have : r + 1 + q = r + (q + 1) := by omega
      rw [this]
theorem backAt_length (fp : List Nat) (n : Nat) (σ1 : List Ob) : ∀ (σ : List Ob) (r : Nat), (backAt fp n σ1 r σ).length = σ.length
  | [], r => rfl
  | o :: l, r => by rw [backAt, List.length_cons, backAt_length fp n σ1 l (r + 1), List.length_cons]

/-- A function of ours: it has a body, and the model runs it. -/
def callable (P : Program) (f : FuncId) : Bool := match P.funcs[f]? with | some fn => !(fn.name == "runtime.NumGoroutine") && fn.body.isSome | none => false

/-- A contract: called with such arguments and such objects, the function returns; what it gives and leaves is as R says (lo, hi: the heap's size before and behind). -/
def Ctr (P : Program) (f : FuncId) (args : List V) (σ : List Ob) (R : Nat → Nat → V → List Ob → Prop) : Prop :=
  callable P f = true ∧ ∀ (w : World) (X : Nat → Prop) (vs : Array Value), (∀ b, X b → b < w.heap.size) → VRs w X σ args vs → Heap w X σ →
    Calls P f vs w fun e w' => ∃ (v : Value) (r : V) (σ' : List Ob), e = .returned v ∧ R w.heap.size w'.heap.size r σ' ∧ VR w' X σ' r v ∧ Heap w' X σ' ∧ Fr w (fun b => ∃ (r : Nat) (o : Ob), σ[r]? = some o ∧ o.g = b) w' ∧
      (∀ (r : Nat) (o : Ob), σ[r]? = some o → ∃ o' : Ob, σ'[r]? = some o' ∧ o.le o') ∧
      (∀ (r : Nat) (o : Ob), σ'[r]? = some o → (∃ (r' : Nat) (o' : Ob), σ[r']? = some o' ∧ o.g = o'.g) ∨ w.heap.size ≤ o.g)

/-- What a call asks, of what holds behind it. -/
def vcCall (P : Program) (s : St) (c : Call) (tc : List Nat → Prop) (K : V → List Ob → Nat → Prop) : Prop := match c.callee with
  | .value fop => match s.eval fop with
    | .fn f caps => ∃ (fp bor : List Nat) (args : List V) (R : Nat → Nat → V → List Ob → Prop), fp.Nodup ∧ (∀ r ∈ fp, r < s.σ.length) ∧ (∀ r ∈ fp, r ∉ bor) ∧ tc fp ∧
        Subs ((c.args.toList.map s.eval ++ caps).map (V.loc s.σ fp bor)) args ∧ Ctr P f args (locObs s.σ fp bor) R ∧
        ∀ lo hi r σ1, s.h ≤ lo → lo ≤ hi → R lo hi r σ1 →
          (∀ q ∈ bor, ∀ o : Ob, s.σ[q]? = some o → o.g < lo → o.g ∉ r.ids ∧ ∀ o1 ∈ σ1, o.g ∉ o1.ids) ∧ K (r.back fp s.σ.length) (backObs s.σ fp σ1) hi
    | _ => False
  | _ => False

theorem VR.back {w : World} {X X1 : Nat → Prop} {σ1 σ2 : List Ob} {fp : List Nat} {n : Nat} {v : V} {y : Value} (hv : VR w X1 σ1 v y)
    (hσ : ∀ (k : Nat) (o : Ob), σ1[k]? = some o → ∃ o' : Ob, σ2[bk fp n k]? = some o' ∧ o.le o')
    (ha : ∀ b, AV X σ2 b → AV X1 σ1 b ∨ b ∉ v.ids) : VR w X σ2 (v.back fp n) y := by
  have hlist : ∀ {cs : List V} {vs : Array Value}, (∀ (i : Nat) (c : V), cs[i]? = some c → VR w X σ2 (c.back fp n) (vs.getD i Go.undef)) → ∀ (i : Nat) (c : V), (V.backs fp n cs)[i]? = some c → VR w X σ2 c (vs.getD i Go.undef) := fun h i c hc => by
    rw [V.backs_eq, List.getElem?_map] at hc
    obtain ⟨c0, h0, rfl⟩ := Option.map_eq_some_iff.1 hc
    exact h i c0 h0
  induction hv with
  | t h => exact .t (h.ids ha)
  | nil0 a => exact .nil0 a
  | @own r ver off len g ver' sz m es v h hv h1 hp' =>
    obtain ⟨o', ho', hle⟩ := hσ r _ h
    cases o' with
    | map g es => exact hle.elim
    | row g2 v2 s2 n2 es2 =>
      refine .own ho' (Nat.le_trans hv hle.1) h1 (fun e => ?_)
      obtain ⟨rfl, rfl, rfl, e4⟩ := hle.2 (by have := hle.1; omega)
      obtain ⟨c, k1, k2, k3, k4⟩ := hp' (by have := hle.1; omega)
      exact ⟨c, k1, k2, k3, by omega⟩
  | @ptr r ver i j g ver' sz m es v h hv h1 hp' =>
    obtain ⟨o', ho', hle⟩ := hσ r _ h
    cases o' with
    | map g es => exact hle.elim
    | row g2 v2 s2 n2 es2 =>
      refine .ptr ho' (Nat.le_trans hv hle.1) h1 (fun e => ?_)
      obtain ⟨rfl, rfl, rfl, e4⟩ := hle.2 (by have := hle.1; omega)
      exact hp' (by have := hle.1; omega)
  | fz hb ha' hc hr => exact .undef _
  | @fn f caps vs hl hr ih =>
    refine .fn (by rw [V.backs_eq]; simpa using hl) (hlist (fun i c hc => ih i c hc (fun b hb => ?_)))
    rcases ha b hb with h | h
    · exact .inl h
    · exact .inr (fun hm => h (by rw [V.ids]; exact V.idsL_mem hc hm))
  | @map r g es h =>
    obtain ⟨o', ho', hle⟩ := hσ r _ h
    cases o' with
    | row g2 v2 s2 n2 es2 => exact hle.elim
    | map g2 es2 =>
      have : g2 = g := hle
      subst this
      exact .map ho'
  | errN => exact .errN
  | errS t v => exact .errS t v
  | @agg cs vs hl hr ih =>
    refine .agg (by rw [V.backs_eq]; simpa using hl) (hlist (fun i c hc => ih i c hc (fun b hb => ?_)))
    rcases ha b hb with h | h
    · exact .inl h
    · exact .inr (fun hm => h (by rw [V.ids]; exact V.idsL_mem hc hm))
  | @tup cs vs hl hr ih =>
    refine .tup (by rw [V.backs_eq]; simpa using hl) (hlist (fun i c hc => ih i c hc (fun b hb => ?_)))
    rcases ha b hb with h | h
    · exact .inl h
    · exact .inr (fun hm => h (by rw [V.ids]; exact V.idsL_mem hc hm))
  | undef v => exact .undef v
  | skip => exact .skip

theorem OR.back {w : World} {X X1 : Nat → Prop} {σ1 σ2 : List Ob} {fp : List Nat} {n : Nat} {o : Ob} (ho : OR w X1 σ1 o)
    (hσ : ∀ (k : Nat) (o : Ob), σ1[k]? = some o → ∃ o' : Ob, σ2[bk fp n k]? = some o' ∧ o.le o')
    (ha : ∀ b, AV X σ2 b → AV X1 σ1 b ∨ b ∉ o.ids) : OR w X σ2 (o.back fp n) := by
  cases o with
  | row g ver sz m es =>
    obtain ⟨cs, et, h1, h2, h3, h4⟩ := ho
    refine ⟨cs, et, h1, h2, by simpa using h3, fun i e he => ?_⟩
    rw [List.getElem?_map] at he
    obtain ⟨e0, he0, rfl⟩ := Option.map_eq_some_iff.1 he
    obtain ⟨h5, h6⟩ := h4 i e0 he0
    refine ⟨by simpa using h5, fun j c hc => ?_⟩
    rw [List.getElem?_map] at hc
    obtain ⟨c0, hc0, rfl⟩ := Option.map_eq_some_iff.1 hc
    refine (h6 j c0 hc0).back hσ (fun b hb => ?_)
    rcases ha b hb with h | h
    · exact .inl h
    · exact .inr (fun hm => h (by rw [Ob.ids, List.mem_flatMap]; exact ⟨e0, List.mem_of_getElem? he0, V.idsL_mem hc0 hm⟩))
  | map g es =>
    obtain ⟨ents, clock, h1, h2, h3⟩ := ho
    refine ⟨ents, clock, h1, by simpa using h2, fun i k x hx => ?_⟩
    rw [List.getElem?_map] at hx
    obtain ⟨⟨k0, x0⟩, hx0, he⟩ := Option.map_eq_some_iff.1 hx
    obtain ⟨rfl, rfl⟩ := Prod.mk.inj he
    obtain ⟨e, g1, g2, g3⟩ := h3 i k0 x0 hx0
    refine ⟨e, g1, g2, g3.back hσ (fun b hb => ?_)⟩
    rcases ha b hb with h | h
    · exact .inl h
    · exact .inr (fun hm => h (by rw [Ob.ids, List.mem_flatMap]; exact ⟨_, List.mem_of_getElem? hx0, hm⟩))

theorem Ob.le.trans_ {a b c : Ob} (h : a.le b) (k : b.le c) : a.le c := Ob.le_trans h k

theorem idx_get : ∀ {fp : List Nat}, fp.Nodup → ∀ {r k : Nat}, fp[k]? = some r → idx fp r = some k
  | [], _, r, k, h => by simp at h
  | x :: l, hn, r, k, h => by
    rw [List.nodup_cons] at hn
    unfold idx
    cases k with
    | zero =>
      simp only [List.getElem?_cons_zero, Option.some.injEq] at h
      rw [if_pos h]
    | succ k =>
      have h2 : l[k]? = some r := by simpa using h
      rw [if_neg (fun e : x = r => hn.1 (e ▸ List.mem_of_getElem? h2)), idx_get hn.2 h2]
theorem idx_none {fp : List Nat} {r : Nat} (hn : fp.Nodup) (h : idx fp r = none) : r ∉ fp := fun hm => by
  obtain ⟨k, hk⟩ := List.getElem?_of_mem hm
  rw [idx_get hn hk] at h
  cases h

theorem getElem?_append_cases {α : Type} {l l' : List α} {i : Nat} {x : α} (h : (l ++ l')[i]? = some x) : (i < l.length ∧ l[i]? = some x) ∨ (l.length ≤ i ∧ l'[i - l.length]? = some x) := by
  rcases Nat.lt_or_ge i l.length with hi | hi
  · rw [List.getElem?_append_left hi] at h
    exact .inl ⟨hi, h⟩
  · rw [List.getElem?_append_right hi] at h
    exact .inr ⟨hi, h⟩

/-- The caller's objects behind a call, each by where it comes from. -/
theorem backObs_cases {σ σ1 : List Ob} {fp : List Nat} (hn : fp.Nodup) (hfp : ∀ r ∈ fp, r < σ.length) (hl : fp.length ≤ σ1.length) {q : Nat} {o' : Ob} (h : (backObs σ fp σ1)[q]? = some o') :
    (q ∉ fp ∧ q < σ.length ∧ σ[q]? = some o') ∨ ∃ (k : Nat) (o : Ob), σ1[k]? = some o ∧ o' = o.back fp σ.length ∧ q = bk fp σ.length k := by
  unfold backObs at h
  rcases getElem?_append_cases h with ⟨h1, h2⟩ | ⟨h1, h2⟩
  · rw [backAt_length] at h1
    rw [backAt_get, List.getElem?_eq_getElem h1, Nat.zero_add] at h2
    simp only [Option.some.injEq] at h2
    cases hk : idx fp q with
    | none =>
      rw [hk] at h2
      simp only at h2
      exact .inl ⟨idx_none hn hk, h1, by rw [← h2]; exact List.getElem?_eq_getElem h1⟩
    | some k =>
      rw [hk] at h2
      simp only at h2
      have hkf := idx_some hk
      have hkl : k < σ1.length := Nat.lt_of_lt_of_le (List.getElem?_eq_some_iff.1 hkf).1 hl
      refine .inr ⟨k, σ1[k], List.getElem?_eq_getElem hkl, ?_, by unfold bk; rw [hkf]⟩
      rw [← h2, List.getElem?_eq_getElem hkl]
      rfl
  · rw [backAt_length] at h1 h2
    rw [List.getElem?_map, List.getElem?_drop] at h2
    obtain ⟨o, h3, h4⟩ := Option.map_eq_some_iff.1 h2
    refine .inr ⟨fp.length + (q - σ.length), o, h3, h4.symm, ?_⟩
    unfold bk
    rw [List.getElem?_eq_none (by omega)]
    simp only
    omega
theorem backObs_get {σ σ1 : List Ob} {fp : List Nat} (hn : fp.Nodup) (hfp : ∀ r ∈ fp, r < σ.length) {k : Nat} {o : Ob} (h : σ1[k]? = some o) : (backObs σ fp σ1)[bk fp σ.length k]? = some (o.back fp σ.length) := by
  unfold backObs bk
  cases hk : fp[k]? with
  | some r =>
    have hr := hfp r (List.mem_of_getElem? hk)
    simp only
    rw [List.getElem?_append_left (by rw [backAt_length]; exact hr), backAt_get, List.getElem?_eq_getElem hr, Nat.zero_add, idx_get hn hk]
    simp [h]
  | none =>
    have hkl := List.getElem?_eq_none_iff.1 hk
    simp only
    rw [List.getElem?_append_right (by rw [backAt_length]; omega), backAt_length, List.getElem?_map, List.getElem?_drop]
    have : fp.length + (σ.length + (k - fp.length) - σ.length) = k := by omega
    rw [this, h]
    rfl
theorem backObs_other {σ σ1 : List Ob} {fp : List Nat} {r : Nat} {o : Ob} (h : σ[r]? = some o) (hr : idx fp r = none) : (backObs σ fp σ1)[r]? = some o := by
  have hlt := (List.getElem?_eq_some_iff.1 h).1
  unfold backObs
  rw [List.getElem?_append_left (by rw [backAt_length]; exact hlt), backAt_get, h, Nat.zero_add, hr]

section
variable {P : Program} {w0 : World} {av0 X : Nat → Prop} {N : Nat} {a : Act} {w : World} {s : St}

theorem vcCall_sound (hi : Inv w0 av0 X N a w s) (hX : ∀ b, X b → b < w.heap.size) {o : Oper} {c : Call} (ho : o.op = .call c) {tc : List Nat → Prop} {K : V → List Ob → Nat → Prop} (h : vcCall P s c tc K) {Q : Exit → Act → World → Prop} {next : Act → World → Prop}
    (hnext : ∀ (val : Value) (w' : World) (v : V) (σ' : List Ob) (h' : Nat), Inv w0 av0 X N a w' ⟨s.env, σ', h'⟩ → VR w' X σ' v val → K v σ' h' → next (a.put o.dst val) w') : o.wp P a w next Q := by
  unfold vcCall at h
  split at h
  · rename_i fop hcal
    split at h
    · rename_i f caps hf
      obtain ⟨fp, bor, args, R, hn, hfp, hd, htc, hsub, hctr, hK⟩ := h
      have hfv := hf ▸ hi.eval fop
      obtain ⟨hcall, hctr⟩ := hctr
      generalize hfe : a.eval fop = fv at hfv
      cases hfv with
      | @fn _ _ cvs hcl hcr =>
      -- the machine comes to the call
      have henter : (execOp a.eval o).run P w = .ok (.enter f (c.args.map a.eval ++ cvs)) w := by
        unfold callable at hcall
        cases hfn : P.funcs[f]? with
        | none => rw [hfn] at hcall; cases hcall
        | some fn =>
          rw [hfn] at hcall
          simp only [Bool.and_eq_true, Bool.not_eq_true'] at hcall
          obtain ⟨hc1, hc2⟩ := hcall
          have hb : fn.body.isNone = false := by cases hbb : fn.body <;> simp [hbb] at hc2 ⊢
          obtain ⟨callee, cargs, ts⟩ := c
          simp only at hcal
          subst hcal
          have hc1' : (fn.name == "runtime.NumGoroutine") = false := hc1
          simp [execOp, ho, resolve, Deferred.ofValue, hfe, invoke, callFunc, hfn, hb]
          rw [if_neg (by simpa using hc1')]
          rw [if_neg (by intro hnone; rw [hnone] at hb; cases hb)]
      unfold Oper.wp
      rw [henter, Oper.upon_enter]
      -- what the callee gets
      let X1 : Nat → Prop := fun b => X b ∨ ∃ (r : Nat) (o : Ob), s.σ[r]? = some o ∧ r ∉ fp ∧ r ∉ bor ∧ o.g = b
      obtain ⟨hheap, hav⟩ := hi.hp.loc (X' := X1) hfp hn hd (fun b hb => hb)
      have hX1 : ∀ b, X1 b → b < w.heap.size := by
        rintro b (hb | ⟨r, o, h1, _, _, h2⟩)
        · exact hX b hb
        · rw [← h2]; exact hi.hp.lt h1
      have hargs : VRs w X1 (locObs s.σ fp bor) args (c.args.map a.eval ++ cvs) := by
        obtain ⟨hl, hs⟩ := hsub
        simp only [List.length_map, List.length_append, Array.length_toList] at hl
        refine ⟨by simp only [Array.size_append, Array.size_map]; omega, fun i v' hv' => ?_⟩
        have hil := (List.getElem?_eq_some_iff.1 hv').1
        have hlt : i < (c.args.toList.map s.eval ++ caps).length := by simp; omega
        have h1 : ((c.args.toList.map s.eval ++ caps).map (V.loc s.σ fp bor))[i]? = some ((c.args.toList.map s.eval ++ caps)[i].loc s.σ fp bor) := by rw [List.getElem?_map, List.getElem?_eq_getElem hlt]; rfl
        refine (VR.loc ?_ hi.hp hfp hav).sub (hs i _ v' h1 hv')
        rw [Array.getD_eq_getD_getElem?]
        by_cases hia : i < c.args.size
        · rw [Array.getElem?_append_left (by simpa using hia), Array.getElem?_map, Array.getElem?_eq_getElem hia]
          have : (c.args.toList.map s.eval ++ caps)[i] = s.eval c.args[i] := by
            rw [List.getElem_append_left (by simpa using hia)]
            simp
          rw [this]
          exact hi.eval _
        · have hic : i - c.args.size < caps.length := by simp at hlt; omega
          rw [Array.getElem?_append_right (by simp; omega)]
          have : (c.args.toList.map s.eval ++ caps)[i] = caps[i - c.args.size] := by
            rw [List.getElem_append_right (by simp; omega)]
            simp
          rw [this]
          have := hcr (i - c.args.size) caps[i - c.args.size] (List.getElem?_eq_getElem hic)
          rw [Array.getD_eq_getD_getElem?] at this
          simpa using this
      refine (hctr w X1 _ hX1 hargs hheap).mono ?_
      rintro e w' ⟨v, r, σ1, rfl, hR, hrv, hhp, hfr, hsucc, hown⟩
      simp only
      obtain ⟨hclear, hKK⟩ := hK w.heap.size w'.heap.size r σ1 hi.h hfr.size hR
      have hl1 : fp.length ≤ σ1.length := by
        rcases Nat.lt_or_ge σ1.length fp.length with hlt | hge
        · obtain ⟨o0, hloc⟩ : ∃ o0, (locObs s.σ fp bor)[σ1.length]? = some o0 := ⟨_, List.getElem?_eq_getElem (by simpa [locObs] using hlt)⟩
          obtain ⟨o', ho', _⟩ := hsucc _ _ hloc
          have := (List.getElem?_eq_some_iff.1 ho').1
          omega
        · exact hge
      -- the caller's objects
      have gs1 : ∀ (k : Nat) (o : Ob), (locObs s.σ fp bor)[k]? = some o → ∃ (r : Nat) (o0 : Ob), fp[k]? = some r ∧ s.σ[r]? = some o0 ∧ o.g = o0.g := fun k o hk => by
        obtain ⟨r, o0, h1, h2, rfl⟩ := locObs_cases hfp hk
        exact ⟨r, o0, h1, h2, Ob.loc_g _ _ _ _⟩
      have hg1 : ∀ (k : Nat) (o : Ob), σ1[k]? = some o → (∃ (r : Nat) (o0 : Ob), r ∈ fp ∧ s.σ[r]? = some o0 ∧ o.g = o0.g) ∨ w.heap.size ≤ o.g := fun k o hk => by
        rcases hown k o hk with ⟨k', o', h1, h2⟩ | h1
        · obtain ⟨r, o0, h3, h4, h5⟩ := gs1 k' o' h1
          exact .inl ⟨r, o0, List.mem_of_getElem? h3, h4, h2.trans h5⟩
        · exact .inr h1
      have hσ2 : ∀ (r : Nat) (o : Ob), s.σ[r]? = some o → ∃ o' : Ob, (backObs s.σ fp σ1)[r]? = some o' ∧ o.le o' := fun r o hr => by
        cases hk : idx fp r with
        | none => exact ⟨o, backObs_other hr hk, o.le_refl⟩
        | some k =>
          have hkf := idx_some hk
          obtain ⟨o', h1, h2⟩ := hsucc k _ (locObs_get hkf hr)
          refine ⟨o'.back fp s.σ.length, ?_, (o.loc_le _ _ _).trans_ (h2.trans_ (o'.back_le _ _))⟩
          have := backObs_get hn hfp h1 (σ := s.σ)
          unfold bk at this
          rw [hkf] at this
          exact this
      have hg2 : ∀ (q : Nat) (o' : Ob), (backObs s.σ fp σ1)[q]? = some o' → (∃ (r' : Nat) (o : Ob), s.σ[r']? = some o ∧ o'.g = o.g) ∨ w.heap.size ≤ o'.g := fun q o' hq => by
        rcases backObs_cases hn hfp hl1 hq with ⟨_, _, h2⟩ | ⟨k, o, h1, rfl, _⟩
        · exact .inl ⟨q, o', h2, rfl⟩
        · rw [Ob.back_g]
          rcases hg1 k o h1 with ⟨r, o0, _, h3, h4⟩ | h3
          · exact .inl ⟨r, o0, h3, h4⟩
          · exact .inr h3
      have hbl : ∀ b, b < w.heap.size → (∀ (r : Nat) (o : Ob), s.σ[r]? = some o → o.g ≠ b) → w'.heap[b]? = w.heap[b]? := fun b hb hno => hfr.block b hb (by
        rintro ⟨k, o, h1, h2⟩
        obtain ⟨r, o0, _, h4, h5⟩ := gs1 k o h1
        exact hno r o0 h4 (by omega))
      have hav2 : ∀ b, ¬ AV X s.σ b → b < w.heap.size → ¬ AV X (backObs s.σ fp σ1) b := by
        rintro b hb hlt (hx | ⟨q, o', hq, e⟩)
        · exact hb (.inl hx)
        · rcases hg2 q o' hq with ⟨r', o, h1, h2⟩ | h1
          · exact hb (.inr ⟨r', o, h1, by omega⟩)
          · omega
      have hids : ∀ (l : List Nat), (∀ q ∈ bor, ∀ o : Ob, s.σ[q]? = some o → o.g ∉ l) → ∀ b, AV X (backObs s.σ fp σ1) b → AV X1 σ1 b ∨ b ∉ l := by
        rintro l hl b (hx | ⟨q, o', hq, e⟩)
        · exact .inl (.inl (.inl hx))
        · rcases backObs_cases hn hfp hl1 hq with ⟨h1, _, h2⟩ | ⟨k, o, h1, rfl, _⟩
          · by_cases hqb : q ∈ bor
            · exact .inr (e ▸ hl q hqb o' h2)
            · exact .inl (.inl (.inr ⟨q, o', h2, h1, hqb, e⟩))
          · exact .inl (.inr ⟨k, o, h1, by rw [← e, Ob.back_g]⟩)
      have hback : ∀ (k : Nat) (o : Ob), σ1[k]? = some o → ∃ o' : Ob, (backObs s.σ fp σ1)[bk fp s.σ.length k]? = some o' ∧ o.le o' := fun k o hk => ⟨_, backObs_get hn hfp hk, o.back_le _ _⟩
      have hheap2 : Heap w' X (backObs s.σ fp σ1) := by
        refine ⟨fun q o' hq => ?_, fun q q' o o' h1 h2 e => ?_, fun q o' hq hx => ?_⟩
        · rcases backObs_cases hn hfp hl1 hq with ⟨h1, _, h2⟩ | ⟨k, o, h1, rfl, _⟩
          · have hsame : w'.heap[o'.g]? = w.heap[o'.g]? := hfr.block _ (hi.hp.lt h2) (by
              rintro ⟨k, o, k1, k2⟩
              obtain ⟨r, o0, k3, k4, k5⟩ := gs1 k o k1
              have := hi.hp.nd r q o0 o' k4 h2 (by omega)
              subst this
              exact h1 (List.mem_of_getElem? k3))
            have := (hi.hp.obj q o' h2).mono (w' := w') (X' := X) (σ' := backObs s.σ fp σ1) some hfr.size hsame (fun r o hr r' e => by cases e; exact hσ2 r o hr)
              (fun b hb1 hb2 => hbl b hb2 (fun r o hr e => hb1 (.inr ⟨r, o, hr, e⟩))) hav2
            rwa [Ob.ren_id] at this
          · exact (hhp.obj k o h1).back hback (hids o.ids (fun q hq o0 ho0 => (hclear q hq o0 ho0 (hi.hp.lt ho0)).2 o (List.mem_of_getElem? h1)))
        · rcases backObs_cases hn hfp hl1 h1 with ⟨k1, _, k2⟩ | ⟨k, o1, k3, rfl, k4⟩ <;> rcases backObs_cases hn hfp hl1 h2 with ⟨m1, _, m2⟩ | ⟨k', o2, m3, rfl, m4⟩
          · exact hi.hp.nd q q' o o' k2 m2 e
          · rw [Ob.back_g] at e
            rcases hg1 k' o2 m3 with ⟨r, o0, n1, n2, n3⟩ | n1
            · have := hi.hp.nd q r o o0 k2 n2 (by omega)
              subst this
              exact absurd n1 k1
            · have := hi.hp.lt k2
              omega
          · rw [Ob.back_g] at e
            rcases hg1 k o1 k3 with ⟨r, o0, n1, n2, n3⟩ | n1
            · have := hi.hp.nd q' r o' o0 m2 n2 (by omega)
              subst this
              exact absurd n1 m1
            · have := hi.hp.lt m2
              omega
          · rw [Ob.back_g, Ob.back_g] at e
            rw [k4, m4, hhp.nd k k' o1 o2 k3 m3 e]
        · rcases backObs_cases hn hfp hl1 hq with ⟨h1, _, h2⟩ | ⟨k, o, h1, rfl, _⟩
          · exact hi.hp.nx q o' h2 hx
          · rw [Ob.back_g] at hx
            exact hhp.nx k o h1 (.inl hx)
      have hinv := hi.step (w' := w') (σ' := backObs s.σ fp σ1) (h' := w'.heap.size) hfr.size hfr.os hfr.tape hfr.output hbl hσ2 hg2 hheap2 (Nat.le_refl _) (Nat.le_trans hi.h hfr.size)
      exact hnext v w' _ _ _ hinv (hrv.back hback (hids r.ids (fun q hq o0 ho0 => (hclear q hq o0 ho0 (hi.hp.lt ho0)).1))) hKK
    · exact h.elim
  · exact h.elim
end
end Go.VL
