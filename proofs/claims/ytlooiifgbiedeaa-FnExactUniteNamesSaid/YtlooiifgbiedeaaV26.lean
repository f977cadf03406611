/- VL, part 26: functions that give trees of one's own; slices of trees that grow. -/
import Derived.Test.YtlooiifgbiedeaaV25
namespace Go.VL
set_option linter.unusedVariables false
set_option linter.unusedSimpArgs false

/-- How a result is made of cells. -/
inductive Shp where
  | agg
  | one
  | aggT (x : T)
  | oneT (x : T)
  | Tone (x : T)
def Shp.v : Shp → List V → V
  | .agg, vs => .agg vs
  | .one, vs => vs.headD .undef
  | .aggT x, vs => .tup [.agg vs, .t x]
  | .oneT x, vs => .tup [vs.headD .undef, .t x]
  | .Tone x, vs => .tup [.t x, vs.headD .undef]
def Shp.plain : Shp → Prop
  | .agg => True
  | .one => True
  | .aggT x => x.ids = []
  | .oneT x => x.ids = []
  | .Tone x => x.ids = []
theorem headD_map (f : V → V) (hf : f .undef = .undef) (vs : List V) : f (vs.headD .undef) = (vs.map f).headD .undef := by cases vs <;> simp [hf]
theorem Shp.back (s : Shp) (fp : List Nat) (n : Nat) (vs : List V) : (s.v vs).back fp n = s.v (vs.map (V.back fp n)) := by
  have h0 : V.back fp n .undef = .undef := rfl
  cases s <;> simp only [Shp.v, V.back, V.backs, V.backs_eq, headD_map _ h0]
theorem Shp.loc (s : Shp) (σ : List Ob) (fp bor : List Nat) (vs : List V) : (s.v vs).loc σ fp bor = s.v (vs.map (V.loc σ fp bor)) := by
  have h0 : V.loc σ fp bor .undef = .undef := rfl
  cases s <;> simp only [Shp.v, V.loc, V.locs, V.locs_eq, headD_map _ h0]
theorem idsL_head {vs : List V} (h : V.idsL vs = []) : (vs.headD .undef).ids = [] := by
  cases vs with
  | nil => rfl
  | cons v l => rw [V.idsL, List.append_eq_nil_iff] at h; exact h.1
theorem Shp.ids (s : Shp) (hs : s.plain) {vs : List V} (h : V.idsL vs = []) : (s.v vs).ids = [] := by
  have h2 := idsL_head h
  cases s <;> simp only [Shp.v, V.ids, V.idsL, h, h2, List.append_nil, List.nil_append] <;> first | exact hs | rfl
theorem Subs.head {l l' : List V} (h : Subs l l') : Sub (l.headD .undef) (l'.headD .undef) := by
  cases l with
  | nil => cases l' with
    | nil => exact .refl _
    | cons a b => exact absurd h.1 (by simp)
  | cons a b => cases l' with
    | nil => exact absurd h.1 (by simp)
    | cons c d => exact h.2 0 a c rfl rfl
theorem Subs.nil : Subs [] [] := Subs.refl _
theorem Shp.sub (s : Shp) {l l' : List V} (h : Subs l l') : Sub (s.v l) (s.v l') := by
  have h2 := h.head
  cases s with
  | agg => exact .agg h.1 h.2
  | one => exact h2
  | aggT x => exact .tup rfl (Subs.cons (.agg h.1 h.2) (Subs.refl [V.t x])).2
  | oneT x => exact .tup rfl (Subs.cons h2 (Subs.refl [V.t x])).2
  | Tone x => exact .tup rfl (Subs.cons (.refl _) (Subs.cons h2 Subs.nil)).2

/-- A function over frozen data that gives a tree of one's own. -/
def OCtr (P : Program) (f : FuncId) (args : List V) (Q : Shp → List T → Prop) : Prop :=
  Ctr P f args [] (fun _ _ r σ' => ∃ (s : Shp) (ds : List D) (vs : List V), r = s.v vs ∧ s.plain ∧ TrL σ' ds (List.range σ'.length) vs ∧ Q s (D.erL ds))

theorem pures_t (l : List T) : V.pures (l.map .t) = true := V.pures_t l
theorem Shp.pure (s : Shp) {ts : List T} (hs : ts.length = 1 ∨ (s = .agg ∨ ∃ x, s = .aggT x)) : (s.v (ts.map V.t)).pure = true := by
  rcases hs with hs | rfl | ⟨x, rfl⟩
  · obtain ⟨x, rfl⟩ := List.length_eq_one_iff.1 hs
    cases s <;> rfl
  · exact V.pures_t ts
  · simp [Shp.v, V.pure, V.pures, V.pures_t]
/-- The same, with what it gives as frozen data. -/
theorem OCtr.frozen {P : Program} {f : FuncId} {args : List V} {Q : Shp → List T → Prop} (h : OCtr P f args Q) (hQ : ∀ s ts, Q s ts → ts.length = 1 ∨ (s = .agg ∨ ∃ x, s = .aggT x)) :
    FCtr P f args (fun r => ∃ (s : Shp) (ts : List T), r = s.v (ts.map V.t) ∧ Q s ts) := by
  refine ⟨h.1, fun w X vs hX ha hp cs => ?_⟩
  obtain ⟨e, w', fr, ⟨v, r, σ', h1, ⟨s, ds, us, rfl, hs, h2, h3⟩, h4, h5, h6, h7, h8⟩, h9⟩ := h.2 w X vs hX ha hp cs
  refine ⟨e, w', fr, ⟨v, s.v ((D.erL ds).map V.t), [], h1, ⟨⟨s, D.erL ds, rfl, h3⟩, s.pure (hQ _ _ h3), rfl⟩, ?_, ⟨fun r o h => by simp at h, fun r r' o o' h => by simp at h, fun r o h => by simp at h⟩, h6, fun r o h => by simp at h, fun r o h => by simp at h⟩, h9⟩
  have hav : ∀ b, AV X (locObs σ' [] (List.range σ'.length)) b → X b ∨ ∃ (r : Nat) (o : Ob), σ'[r]? = some o ∧ r ∉ List.range σ'.length ∧ o.g = b := by
    rintro b (hx | ⟨r, o, ho, _⟩)
    · exact .inl hx
    · simp [locObs] at ho
  have h10 := h4.loc (fp := []) (bor := List.range σ'.length) h5 (fun r hr => by cases hr) hav
  rw [Shp.loc] at h10
  exact h10.sub (s.sub (h2.lend (fun r hr => hr) (fun r _ hr => by cases hr)))

theorem backObs_len {σ σ1 : List Ob} : (backObs σ [] σ1).length = σ.length + σ1.length := by simp [backObs, backAt_nil]
theorem backObs_old {σ σ1 : List Ob} {r : Nat} (h : r < σ.length) : (backObs σ [] σ1)[r]? = σ[r]? := by
  rw [backObs, backAt_nil, List.getElem?_append_left h]
section
variable {P : Program} {ops : Array Oper} {l : List (Oper × Bool)} {K : St → Prop} {e : Nat → V} {σ : List Ob} {h : Nat}

/-- A call that gives a tree of one's own; some rows are lent as frozen data. -/
theorem x_callO {d : Tmp} {f : FuncId} {as_ : Array Operand} {tys : Array TypeId} {ty : TypeId} {pos : String} {af : Array Edge} {b : Bool} {fop : Operand} {caps : List V} (bor : List Nat) (args : List V) (Q : Shp → List T → Prop) (hc : OCtr P f args Q) (hf : St.eval ⟨e, σ, h⟩ fop = .fn f caps)
    (ha : Subs ((as_.toList.map (St.eval ⟨e, σ, h⟩) ++ caps).map (V.loc σ [] bor)) args)
    (hk : ∀ (s : Shp) (ds : List D) (vs : List V) (S : List Nat) (σ' : List Ob) (h' : Nat), Q s (D.erL ds) → TrL σ' ds S vs → (∀ r, r < σ.length → σ'[r]? = σ[r]?) → (∀ r ∈ S, σ.length ≤ r) → σ.length ≤ σ'.length → h ≤ h' → vcX P ops l K ⟨upd e d (s.v vs), σ', h'⟩) :
    vcX P ops ((⟨some d, .call ⟨.value fop, as_, tys⟩, ty, pos, af, none⟩, b) :: l) K ⟨e, σ, h⟩ := by
  simp only [vcX, vcOp, gd, vcRun, isQuiet, isApp, vcCall, hf]
  rw [if_neg (by simp), if_neg (by simp)]
  refine ⟨[], bor, args, _, .nil, (fun r hr => by cases hr), (fun r hr => by cases hr), .inr rfl, ha, hc, fun lo hi r σ1 h1 h2 ⟨s, ds, vs, h3, h4, h5, h6⟩ => ?_⟩
  subst h3
  refine ⟨fun q hq o ho _ => ⟨(by rw [s.ids h4 h5.ids]; exact fun hm => (by cases hm)), fun o1 ho1 => ?_⟩, ?_⟩
  · obtain ⟨i, hi, rfl⟩ := List.mem_iff_getElem.1 ho1
    rw [h5.obids i (by simpa using hi) _ (List.getElem?_eq_getElem hi)]
    exact fun hm => by cases hm
  · rw [Shp.back]
    refine hk s ds _ _ _ _ h6 (h5.back .nil (fun r hr => by cases hr)) (fun r hr => backObs_old hr) (fun r hr => ?_) (by rw [backObs_len]; omega) (Nat.le_trans (show h ≤ lo from h1) h2)
    obtain ⟨a, ha, rfl⟩ := List.mem_map.1 hr
    simp only [bk, List.getElem?_nil, List.length_nil]
    omega

/-- Where a function returns a tree of one's own. -/
theorem retO {rs : List ResultVar} {h0 : Nat} {s : St} {Q : Shp → List T → Prop} (sh : Shp) {ds : List D} {S : List Nat} {ws vs : List V} (hr : rs.mapM (resQ P s) = some vs) (hv : tupV vs = sh.v ws) (hp : sh.plain) (ht : TrL s.σ ds S ws) (hq : Q sh (D.erL ds)) :
    retK P rs [] h0 (fun _ _ r σ' => ∃ (s : Shp) (ds : List D) (vs : List V), r = s.v vs ∧ s.plain ∧ TrL σ' ds (List.range σ'.length) vs ∧ Q s (D.erL ds)) s := by
  refine ⟨vs, hr, S, [], ht.nodup, ht.lt, (fun r _ h => by cases h), fun hi _ => ⟨sh, ds, ws.map (V.loc s.σ S []), by rw [hv, Shp.loc], hp, ?_, hq⟩, fun r o h => by simp at h⟩
  rw [locObs_len]
  exact ht.loc

/-! ### slices of trees that grow -/
/-- A slice that is built by appends: nothing as yet, or a whole row. -/
def Tb (σ : List Ob) (sz : Nat) (ds : List (List D)) (S : List Nat) (v : V) : Prop :=
  (ds = [] ∧ S = [] ∧ v = .nil0) ∨ ∃ (r g ver m : Nat) (es : List (List V)) (S' : List Nat), S = r :: S' ∧ r ∉ S' ∧ v = .own r ver 0 es.length ∧ σ[r]? = some (.row g ver sz m es) ∧ TrLL σ ds S' es ∧ ∀ e ∈ es, e.length = sz
theorem Tb_nil {sz : Nat} : Tb σ sz [] [] .nil0 := .inl ⟨rfl, rfl, rfl⟩
theorem Tb.tr {sz : Nat} {ds : List (List D)} {S : List Nat} {v : V} (h : Tb σ sz ds S v) : ∃ d g, Tr σ d S v ∧ d.er = .sl g (D.erLL ds) := by
  rcases h with ⟨rfl, rfl, rfl⟩ | ⟨r, g, ver, m, es, S', h1, h2, h3, h4, h5, hz⟩
  · exact ⟨.nil, 0, Tr_nil, rfl⟩
  · exact ⟨.ow g ds, g, by rw [Tr]; exact ⟨r, ver, sz, m, es, S', h1, h2, h3, h4, h5, hz⟩, rfl⟩
theorem Tb.keep {σ' : List Ob} {sz : Nat} {ds : List (List D)} {S : List Nat} {v : V} (h : Tb σ sz ds S v) (hs : ∀ r ∈ S, σ'[r]? = σ[r]?) : Tb σ' sz ds S v := by
  rcases h with h | ⟨r, g, ver, m, es, S', rfl, h2, h3, h4, h5, hz⟩
  · exact .inl h
  · exact .inr ⟨r, g, ver, m, es, S', rfl, h2, h3, (hs r List.mem_cons_self).trans h4, h5.keep fun q hq => hs q (List.mem_cons_of_mem _ hq), hz⟩
theorem Tb.lt {sz : Nat} {ds : List (List D)} {S : List Nat} {v : V} (h : Tb σ sz ds S v) : ∀ r ∈ S, r < σ.length := by
  obtain ⟨d, g, h1, _⟩ := h.tr
  exact h1.lt
theorem Tb.leaf {sz : Nat} {ds : List (List D)} {S : List Nat} {v : V} (h : Tb σ sz ds S v) : v.leaf = true := by
  obtain ⟨d, g, h1, _⟩ := h.tr
  exact h1.leaf
/-- An append of one element to it. -/
theorem x_appT {d : Tmp} {x y : Operand} {t t2 t' : TypeId} {ty : TypeId} {pos : String} {af : Array Edge} {sz bs : Nat} {z : List V} {ds : List (List D)} {S S2 : List Nat} {v : V} {dn : List D} (cs : List V) (h1 : tElem P t = some t') (h2 : tSize P t' = some sz) (h3 : tZero P t' = some z) (h4 : tBytes P t' = some bs)
    (hx : St.eval ⟨e, σ, h⟩ x = v) (ho : Tb σ sz ds S v) (hy : appElems P ⟨e, σ, h⟩ sz (some z) t2 (St.eval ⟨e, σ, h⟩ y) = some [cs]) (hz : z.length = sz ∧ 0 < sz ∧ 0 < bs) (ht : TrL σ dn S2 cs) (hl : dn.length = sz) (hd : Dj S S2)
    (hb : 2 * (ds.length + 1) * bs ≤ 281474976710656)
    (hk : ∀ v' S' σ' h', Tb σ' sz (ds ++ [dn]) S' v' → (∀ r, r < σ.length → r ∉ S → σ'[r]? = σ[r]?) → (∀ r ∈ S', r ∈ S ∨ r ∈ S2 ∨ σ.length ≤ r) → σ.length ≤ σ'.length → h ≤ h' → vcX P ops l K ⟨upd e d v', σ', h'⟩) :
    vcX P ops ((⟨some d, .call ⟨.builtin .append, #[x, y], #[t, t2]⟩, ty, pos, af, none⟩, true) :: l) K ⟨e, σ, h⟩ := by
  have hcl : cs.length = sz := by rw [ht.len, hl]
  have hle : ∀ e ∈ [cs], e.length = sz ∧ ∀ c ∈ e, V.leaf c = true := fun e he => by
    obtain rfl := List.mem_singleton.1 he
    exact ⟨hcl, ht.leaf⟩
  rcases ho with ⟨rfl, rfl, rfl⟩ | ⟨r, g, ver, m, es, S', rfl, k2, rfl, k4, k5, kz⟩
  · refine x_app_nil [cs] h1 h2 h3 h4 hx hy hz hle (by simpa using hb) (by simp) (fun g n hg => ?_)
    refine hk _ (σ.length :: S2) _ _ (.inr ⟨σ.length, g, 0, n, [cs], S2, rfl, fun hm => Nat.lt_irrefl _ (ht.lt _ hm), rfl, by simp, TrLL_one (ht.keep fun q hq => List.getElem?_append_left (ht.lt q hq)), fun e he => by obtain rfl := List.mem_singleton.1 he; exact hcl⟩)
      (fun r hr _ => List.getElem?_append_left hr) (fun r hr => ?_) (by simp) (by omega)
    rcases List.mem_cons.1 hr with rfl | hr
    · exact .inr (.inr (Nat.le_refl _))
    · exact .inr (.inl hr)
  · have hlen : es.length = ds.length := k5.len
    refine x_app_own (r := r) (g := g) (v := ver) (m := m) (es0 := es) [cs] h1 h2 h3 h4 hx k4 hy hz hle ⟨rfl, rfl⟩ (by rw [hlen]; exact hb) (fun g' n' h' hh _ => ?_)
    have hrl := (List.getElem?_eq_some_iff.1 k4).1
    have hr2 : r ∉ S2 := hd r List.mem_cons_self
    refine hk _ (r :: (S' ++ S2)) _ _ (.inr ⟨r, g', ver + 1, n', es ++ [cs], S' ++ S2, rfl, fun hm => ?_, by rw [List.length_append], ?_, ?_, fun e he => (List.mem_append.1 he).elim (kz e) fun he => by obtain rfl := List.mem_singleton.1 he; exact hcl⟩) (fun q hq hn => ?_) (fun q hq => ?_) (by simp) (by omega)
    · rcases List.mem_append.1 hm with hm | hm
      · exact k2 hm
      · exact hr2 hm
    · rw [List.getElem?_set_self hrl]
      simp
    · refine (k5.app (TrLL_one ht) fun q hq => hd q (List.mem_cons_of_mem _ hq)).keep fun q hq => ?_
      refine List.getElem?_set_ne fun he => ?_
      subst he
      rcases List.mem_append.1 hq with hm | hm
      · exact k2 hm
      · exact hr2 hm
    · exact List.getElem?_set_ne fun he => hn (by rw [← he]; exact List.mem_cons_self)
    · rcases List.mem_cons.1 hq with rfl | hq
      · exact .inl List.mem_cons_self
      · rcases List.mem_append.1 hq with hq | hq
        · exact .inl (List.mem_cons_of_mem _ hq)
        · exact .inr (.inl hq)
end
/-- One element of a row of trees, to be turned. -/
theorem TrLL.focus {σ : List Ob} : ∀ {ds : List (List D)} {S : List Nat} {es : List (List V)} {n : Nat}, TrLL σ ds S es → (hn : n < ds.length) → ∃ (cs : List V) (Sn : List Nat), es[n]? = some cs ∧ (∀ r ∈ Sn, r ∈ S) ∧ TrL σ ds[n] Sn cs ∧
    ∀ (σ' : List Ob) (d' : List D) (cs' : List V), (∀ r ∈ S, r ∉ Sn → σ'[r]? = σ[r]?) → TrL σ' d' Sn cs' → TrLL σ' (ds.set n d') S (es.set n cs')
  | [], S, es, n, h, hn => absurd hn (by simp)
  | d :: ds, S, es, n, h, hn => by
    rw [TrLL] at h
    obtain ⟨u, l, S1, S2, rfl, rfl, hd, h1, h2⟩ := h
    cases n with
    | zero =>
      refine ⟨u, S1, rfl, fun r hr => List.mem_append_left _ hr, h1, fun σ' d' cs' hk ht => ?_⟩
      exact TrLL_cons ht (h2.keep fun r hr => hk r (List.mem_append_right _ hr) fun hr1 => hd r hr1 hr) hd
    | succ n =>
      obtain ⟨cs, Sn, k1, k2, k3, k4⟩ := h2.focus (n := n) (by simpa using hn)
      refine ⟨cs, Sn, by simpa using k1, fun r hr => List.mem_append_right _ (k2 r hr), k3, fun σ' d' cs' hk ht => ?_⟩
      exact TrLL_cons (h1.keep fun r hr => hk r (List.mem_append_left _ hr) fun hr1 => hd r hr (k2 r hr1)) (k4 σ' d' cs' (fun r hr hr1 => hk r (List.mem_append_right _ hr) hr1) ht) hd
end Go.VL
