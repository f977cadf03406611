/- VL, part 27: functions that write trees of one's own; slices that are joined; library functions by their own contracts. -/
import Derived.Test.YtlooiifgbiedeaaV26
namespace Go.VL
set_option linter.unusedVariables false
set_option linter.unusedSimpArgs false

/-! ### writing a tree in place -/
/-- A function that writes a tree that it is lent, and counts. -/
def MCtr (P : Program) (f : FuncId) (sh : Shp) (ds : List D) (k k' : Int) (Q' : List T → Prop) : Prop :=
  ∀ (σ : List Ob) (vs : List V), TrL σ ds (List.range σ.length) vs → Ctr P f [sh.v vs, .t (.int .i64 k)] σ (fun _ _ r σ' => r = .t (.int .i64 k') ∧ (∃ ds', TrL σ' ds' (List.range σ'.length) vs ∧ Q' (D.erL ds')) ∧ σ'.length = σ.length ∧ (∀ (r : Nat) (o : Ob), σ[r]? = some o → ∃ o' : Ob, σ'[r]? = some o' ∧ o.le o'))

theorem Tr.loc_back {σ : List Ob} {S0 bor : List Nat} {n : Nat} (hn : S0.Nodup) : ∀ {d : D} {S : List Nat} {v : V}, Tr σ d S v → (∀ r ∈ S, r ∈ S0) → (v.loc σ S0 bor).back S0 n = v
  | .t x, S, v, h, hs => by rw [Tr] at h; rw [h.2.1]; rfl
  | .nil, S, v, h, hs => by rw [Tr] at h; rw [h.2]; rfl
  | .ow g ds, S, v, h, hs => by
    rw [Tr] at h
    obtain ⟨r, ver, sz, m, es, S', rfl, hr, rfl, h4, h5, hzz⟩ := h
    obtain ⟨i, hi, he⟩ := List.mem_iff_getElem.1 (hs r List.mem_cons_self)
    have hk := idx_get hn (List.getElem?_eq_getElem hi)
    rw [he] at hk
    simp only [V.loc, hk, V.back, bk, List.getElem?_eq_getElem hi, he]
theorem TrL.loc_back {σ : List Ob} {S0 bor : List Nat} {n : Nat} (hn : S0.Nodup) : ∀ {d : List D} {S : List Nat} {v : List V}, TrL σ d S v → (∀ r ∈ S, r ∈ S0) → (v.map (V.loc σ S0 bor)).map (V.back S0 n) = v
  | [], S, v, h, hs => by rw [TrL] at h; rw [h.2]; rfl
  | d :: ds, S, v, h, hs => by
    rw [TrL] at h
    obtain ⟨u, l, S1, S2, rfl, rfl, hd, h1, h2⟩ := h
    rw [List.map_cons, List.map_cons, h1.loc_back hn (fun r hr => hs r (List.mem_append_left _ hr)), h2.loc_back hn (fun r hr => hs r (List.mem_append_right _ hr))]
theorem backObs_len2 {σ σ1 : List Ob} {fp : List Nat} (hl : σ1.length = fp.length) : (backObs σ fp σ1).length = σ.length := by
  rw [backObs, List.length_append, backAt_length, List.length_map, List.length_drop]
  omega
theorem backObs_other2 {σ σ1 : List Ob} {fp : List Nat} (hl : σ1.length = fp.length) {r : Nat} (hr : r ∉ fp) : (backObs σ fp σ1)[r]? = σ[r]? := by
  by_cases h : r < σ.length
  · have := List.getElem?_eq_getElem h
    rw [this]
    exact backObs_other this (idx_not hr)
  · rw [List.getElem?_eq_none (l := σ) (by omega), List.getElem?_eq_none (by rw [backObs_len2 hl]; omega)]
theorem idx_range {n r : Nat} (h : r < n) : idx (List.range n) r = some r := by
  have := idx_get (List.nodup_range (n := n)) (r := r) (k := r) (by rw [List.getElem?_range h])
  exact this
theorem TrL.loc_range {σ : List Ob} {bor : List Nat} : ∀ {d : List D} {S : List Nat} {v : List V}, TrL σ d S v → v.map (V.loc σ (List.range σ.length) bor) = v
  | [], S, v, h => by rw [TrL] at h; rw [h.2]; rfl
  | d :: ds, S, v, h => by
    rw [TrL] at h
    obtain ⟨u, l, S1, S2, rfl, rfl, hd, h1, h2⟩ := h
    rw [List.map_cons, h2.loc_range]
    congr 1
    have hlt := h1.lt
    cases d with
    | t x => rw [Tr] at h1; rw [h1.2.1]; rfl
    | nil => rw [Tr] at h1; rw [h1.2]; rfl
    | ow g es =>
      rw [Tr] at h1
      obtain ⟨r, ver, sz, m, es, S', rfl, hr, rfl, h4, h5, hzz⟩ := h1
      simp only [V.loc, idx_range (hlt r List.mem_cons_self)]
/-- Where such a function returns. -/
theorem retM {P : Program} {rs : List ResultVar} {h0 : Nat} {s : St} {σ0 : List Ob} {vs vs' : List V} {ds' : List D} {Q' : List T → Prop} {k' : Int} (hr : rs.mapM (resQ P s) = some vs') (hv : tupV vs' = .t (.int .i64 k')) (hl : s.σ.length = σ0.length) (ht : TrL s.σ ds' (List.range σ0.length) vs) (hq : Q' (D.erL ds'))
    (hle : ∀ (r : Nat) (o : Ob), σ0[r]? = some o → ∃ o' : Ob, s.σ[r]? = some o' ∧ o.le o') :
    retK P rs σ0 h0 (fun _ _ r σ' => r = .t (.int .i64 k') ∧ (∃ ds', TrL σ' ds' (List.range σ'.length) vs ∧ Q' (D.erL ds')) ∧ σ'.length = σ0.length ∧ (∀ (r : Nat) (o : Ob), σ0[r]? = some o → ∃ o' : Ob, σ'[r]? = some o' ∧ o.le o')) s := by
  rw [← hl] at ht
  have hle' : ∀ (r : Nat) (o : Ob), σ0[r]? = some o → ∃ o' : Ob, (locObs s.σ (List.range s.σ.length) [])[r]? = some o' ∧ o.le o' := fun r o ho => by
    obtain ⟨o', h1, h2⟩ := hle r o ho
    have hlt := (List.getElem?_eq_some_iff.1 h1).1
    exact ⟨_, locObs_get (by rw [List.getElem?_range hlt]) h1, h2.trans_ (o'.loc_le _ _ _)⟩
  refine ⟨vs', hr, List.range s.σ.length, [], List.nodup_range, (fun r hr => List.mem_range.1 hr), (fun r _ h => by cases h), fun hi _ => ⟨by rw [hv]; rfl, ⟨ds', ?_, hq⟩, by rw [locObs_len, List.length_range, hl], hle'⟩, hle'⟩
  · have h1 := ht.loc (bor := [])
    rw [ht.loc_range, List.length_range] at h1
    rw [locObs_len, List.length_range]
    exact h1
section
variable {P : Program} {ops : Array Oper} {l : List (Oper × Bool)} {K : St → Prop} {e : Nat → V} {σ : List Ob} {h : Nat}
/-- A call of such a function. -/
theorem x_callM {d : Tmp} {f : FuncId} {as_ : Array Operand} {tys : Array TypeId} {ty : TypeId} {pos : String} {af : Array Edge} {fop : Operand} {sh : Shp} {ds : List D} {S : List Nat} {vs : List V} {k k' : Int} {Q' : List T → Prop} (hc : MCtr P f sh ds k k' Q') (ht : TrL σ ds S vs) (hf : St.eval ⟨e, σ, h⟩ fop = .fn f [])
    (ha : as_.toList.map (St.eval ⟨e, σ, h⟩) = [sh.v vs, .t (.int .i64 k)])
    (hk : ∀ (ds' : List D) (σ' : List Ob) (h' : Nat), TrL σ' ds' S vs → Q' (D.erL ds') → (∀ r, r ∉ S → σ'[r]? = σ[r]?) → σ'.length = σ.length → (∀ (r : Nat) (o : Ob), σ[r]? = some o → ∃ o' : Ob, σ'[r]? = some o' ∧ o.le o') → h ≤ h' → vcX P ops l K ⟨upd e d (.t (.int .i64 k')), σ', h'⟩) :
    vcX P ops ((⟨some d, .call ⟨.value fop, as_, tys⟩, ty, pos, af, none⟩, true) :: l) K ⟨e, σ, h⟩ := by
  have hloc := ht.loc (bor := [])
  have hlen := locObs_len σ S []
  rw [← hlen] at hloc
  refine vcX_callF S [] [sh.v (vs.map (V.loc σ S [])), .t (.int .i64 k)] (locObs σ S []) _ (hc _ _ hloc) hf ht.nodup ht.lt (fun r _ hr => by cases hr) rfl (Subs.of_eq ?_) ?_
  · rw [ha, List.append_nil, List.map_cons, Shp.loc]; rfl
  · rintro r σ1 h' hh ⟨rfl, ⟨ds', h1, h2⟩, h3, h4⟩
    refine ⟨fun q hq => (by cases hq), ?_⟩
    rw [hlen] at h3
    have hb := h1.back (σ := σ) (fp := S) ht.nodup ht.lt
    rw [h3, map_bk, ht.loc_back ht.nodup (fun r hr => hr)] at hb
    refine hk ds' _ h' hb h2 (fun r hr => backObs_other2 h3 hr) (backObs_len2 h3) (fun r o ho => ?_) hh
    cases hk : idx S r with
    | none => exact ⟨o, backObs_other ho hk, o.le_refl⟩
    | some k =>
      have hkf := idx_some hk
      obtain ⟨o', h5, h6⟩ := h4 k _ (locObs_get hkf ho)
      refine ⟨o'.back S σ.length, ?_, (o.loc_le _ _ _).trans_ (h6.trans_ (o'.back_le _ _))⟩
      have := backObs_get ht.nodup ht.lt h5 (σ := σ)
      unfold bk at this
      rw [hkf] at this
      exact this

/-! ### frozen results in new blocks -/
mutual
theorem Tr.er_ids {σ : List Ob} : ∀ {d : D} {S : List Nat} {v : V}, Tr σ d S v → ∀ b ∈ d.er.ids, ∃ r ∈ S, ∃ o, σ[r]? = some o ∧ o.g = b
  | .t x, S, v, h => by rw [Tr] at h; rw [D.er, h.2.2.1]; exact fun b hb => by cases hb
  | .nil, S, v, h => by rw [D.er, T.ids]; exact fun b hb => by cases hb
  | .ow g ds, S, v, h => by
    rw [Tr] at h
    obtain ⟨r, ver, sz, m, es, S', rfl, hr, rfl, h4, h5, hzz⟩ := h
    intro b hb
    rw [D.er, T.ids] at hb
    split at hb
    · cases hb
    · rcases List.mem_cons.1 hb with rfl | hb
      · exact ⟨r, List.mem_cons_self, _, h4, rfl⟩
      · obtain ⟨q, h6, h7⟩ := TrLL.er_ids h5 b hb
        exact ⟨q, List.mem_cons_of_mem _ h6, h7⟩
theorem TrL.er_ids {σ : List Ob} : ∀ {d : List D} {S : List Nat} {v : List V}, TrL σ d S v → ∀ b ∈ T.idsL (D.erL d), ∃ r ∈ S, ∃ o, σ[r]? = some o ∧ o.g = b
  | [], S, v, h => by rw [D.erL, T.idsL]; exact fun b hb => by cases hb
  | d :: ds, S, v, h => by
    rw [TrL] at h
    obtain ⟨u, l, S1, S2, rfl, rfl, hd, h1, h2⟩ := h
    intro b hb
    rw [D.erL, T.idsL] at hb
    rcases List.mem_append.1 hb with hb | hb
    · obtain ⟨q, h6, h7⟩ := Tr.er_ids h1 b hb
      exact ⟨q, List.mem_append_left _ h6, h7⟩
    · obtain ⟨q, h6, h7⟩ := TrL.er_ids h2 b hb
      exact ⟨q, List.mem_append_right _ h6, h7⟩
theorem TrLL.er_ids {σ : List Ob} : ∀ {d : List (List D)} {S : List Nat} {v : List (List V)}, TrLL σ d S v → ∀ b ∈ T.idsLL (D.erLL d), ∃ r ∈ S, ∃ o, σ[r]? = some o ∧ o.g = b
  | [], S, v, h => by rw [D.erLL, T.idsLL]; exact fun b hb => by cases hb
  | d :: ds, S, v, h => by
    rw [TrLL] at h
    obtain ⟨u, l, S1, S2, rfl, rfl, hd, h1, h2⟩ := h
    intro b hb
    rw [D.erLL, T.idsLL] at hb
    rcases List.mem_append.1 hb with hb | hb
    · obtain ⟨q, h6, h7⟩ := TrL.er_ids h1 b hb
      exact ⟨q, List.mem_append_left _ h6, h7⟩
    · obtain ⟨q, h6, h7⟩ := TrLL.er_ids h2 b hb
      exact ⟨q, List.mem_append_right _ h6, h7⟩
end
theorem V.idsL_t : ∀ l : List T, V.idsL (l.map V.t) = T.idsL l
  | [] => rfl
  | x :: l => by rw [List.map_cons, V.idsL, V.idsL_t l, V.ids, T.idsL]
theorem Shp.ids_t (s : Shp) (hs : s.plain) (ts : List T) : ∀ b ∈ (s.v (ts.map V.t)).ids, b ∈ T.idsL ts := by
  have h1 : ∀ b ∈ ((ts.map V.t).headD .undef).ids, b ∈ T.idsL ts := by
    cases ts with
    | nil => intro b hb; cases hb
    | cons x l => intro b hb; rw [T.idsL]; exact List.mem_append_left _ hb
  intro b hb
  cases s <;> simp only [Shp.v, V.ids, V.idsL, List.append_nil, V.idsL_t, List.mem_append] at hb
  · exact hb
  · exact h1 b hb
  · rcases hb with hb | hb
    · exact hb
    · have : _ = [] := hs; rw [this] at hb; cases hb
  · rcases hb with hb | hb
    · exact h1 b hb
    · have : _ = [] := hs; rw [this] at hb; cases hb
  · rcases hb with hb | hb
    · have : _ = [] := hs; rw [this] at hb; cases hb
    · exact h1 b hb
/-- A function that gives frozen data in new blocks. -/
def NCtr (P : Program) (f : FuncId) (args : List V) (Q : V → Prop) : Prop := Ctr P f args [] fun lo _ r σ => Q r ∧ r.pure = true ∧ σ = [] ∧ ∀ b ∈ r.ids, lo ≤ b
theorem OCtr.fresh {P : Program} {f : FuncId} {args : List V} {Q : Shp → List T → Prop} (h : OCtr P f args Q) (hQ : ∀ s ts, Q s ts → ts.length = 1 ∨ (s = .agg ∨ ∃ x, s = .aggT x)) :
    NCtr P f args (fun r => ∃ (s : Shp) (ts : List T), r = s.v (ts.map V.t) ∧ Q s ts) := by
  refine ⟨h.1, fun w X vs hX ha hp cs => ?_⟩
  obtain ⟨e, w', fr, ⟨v, r, σ', h1, ⟨s, ds, us, rfl, hs, h2, h3⟩, h4, h5, h6, h7, h8⟩, h9⟩ := h.2 w X vs hX ha hp cs
  refine ⟨e, w', fr, ⟨v, s.v ((D.erL ds).map V.t), [], h1, ⟨⟨s, D.erL ds, rfl, h3⟩, s.pure (hQ _ _ h3), rfl, fun b hb => ?_⟩, ?_, ⟨fun r o h => by simp at h, fun r r' o o' h => by simp at h, fun r o h => by simp at h⟩, h6, fun r o h => by simp at h, fun r o h => by simp at h⟩, h9⟩
  · obtain ⟨r, hr, o, ho, rfl⟩ := h2.er_ids b (s.ids_t hs _ b hb)
    rcases h8 r o ho with ⟨r', o', h, _⟩ | h
    · simp at h
    · exact h
  have hav : ∀ b, AV X (locObs σ' [] (List.range σ'.length)) b → X b ∨ ∃ (r : Nat) (o : Ob), σ'[r]? = some o ∧ r ∉ List.range σ'.length ∧ o.g = b := by
    rintro b (hx | ⟨r, o, ho, _⟩)
    · exact .inl hx
    · simp [locObs] at ho
  have h10 := h4.loc (fp := []) (bor := List.range σ'.length) h5 (fun r hr => by cases hr) hav
  rw [Shp.loc] at h10
  exact h10.sub (s.sub (h2.lend (fun r hr => hr) (fun r _ hr => by cases hr)))
theorem NCtr.mono {P : Program} {f : FuncId} {args : List V} {Q Q' : V → Prop} (h : NCtr P f args Q) (hq : ∀ v, Q v → Q' v) : NCtr P f args Q' := by
  refine ⟨h.1, fun w X vs hX ha hp cs => ?_⟩
  obtain ⟨e, w', fr, ⟨v, r, σ', h1, ⟨h2, h3, h4⟩, h5⟩, h6⟩ := h.2 w X vs hX ha hp cs
  exact ⟨e, w', fr, ⟨v, r, σ', h1, ⟨hq r h2, h3, h4⟩, h5⟩, h6⟩
section
variable {P : Program} {ops : Array Oper} {l : List (Oper × Bool)} {K : St → Prop} {e : Nat → V} {σ : List Ob} {h : Nat}
theorem x_callN {d : Option Tmp} {f : FuncId} {as_ : Array Operand} {tys : Array TypeId} {ty : TypeId} {pos : String} {af : Array Edge} {b : Bool} {fop : Operand} {caps : List V} (bor : List Nat) (args : List V) (Q : V → Prop) (hc : NCtr P f args Q) (hf : St.eval ⟨e, σ, h⟩ fop = .fn f caps)
    (ha : Subs ((as_.toList.map (St.eval ⟨e, σ, h⟩) ++ caps).map (V.loc σ [] bor)) args)
    (hk : ∀ r h', h ≤ h' → Q r → r.pure = true → vcX P ops l K ⟨((⟨e, σ, h⟩ : St).put d r).env, σ, h'⟩) :
    vcX P ops ((⟨d, .call ⟨.value fop, as_, tys⟩, ty, pos, af, none⟩, b) :: l) K ⟨e, σ, h⟩ := by
  simp only [vcX, vcOp, gd, vcRun, isQuiet, isApp, vcCall, hf]
  rw [if_neg (by simp), if_neg (by simp)]
  refine ⟨[], bor, args, _, .nil, (fun r hr => by cases hr), (fun r hr => by cases hr), .inr rfl, ha, hc, fun lo hi r σ1 h1 h2 ⟨h3, h4, h5, h6⟩ => ?_⟩
  subst h5
  refine ⟨fun q hq o ho hlt => ⟨fun hm => by have := h6 _ hm; omega, fun o1 ho1 => by cases ho1⟩, ?_⟩
  rw [V.pure_back _ _ _ h4, backObs_nil]
  exact hk r hi (Nat.le_trans (show h ≤ lo from h1) h2) h3 h4
end

/-! ### slices that are joined -/
/-- The only object: a slice's row, filled from the front (as it begins it may hold 'tot' zeros); or none as yet. -/
def Cat (tot : Nat) (σ : List Ob) (sz : Nat) (acc : List (List V)) (v : V) : Prop :=
  (acc = [] ∧ σ = [] ∧ v = .nil0) ∨ ∃ (g ver m : Nat) (es : List (List V)), σ = [.row g ver sz m es] ∧ v = .own 0 ver 0 acc.length ∧ (es = acc ∨ acc = [] ∧ 0 < tot)
theorem x_cat {tot : Nat} {d : Tmp} {x y : Operand} {t t2 t' : TypeId} {ty : TypeId} {pos : String} {af : Array Edge} {sz bs : Nat} {z : List V} {acc : List (List V)} {v : V} (es : List (List V)) (h1 : tElem P t = some t') (h2 : tSize P t' = some sz) (h3 : tZero P t' = some z) (h4 : tBytes P t' = some bs)
    (hx : St.eval ⟨e, σ, h⟩ x = v) (ho : Cat tot σ sz acc v) (hy : appElems P ⟨e, σ, h⟩ sz (some z) t2 (St.eval ⟨e, σ, h⟩ y) = some es) (hz : z.length = sz ∧ 0 < sz ∧ 0 < bs) (hl : ∀ e ∈ es, e.length = sz ∧ ∀ c ∈ e, V.leaf c = true)
    (hb : 2 * (acc.length + es.length) * bs ≤ 281474976710656)
    (hk : ∀ v' σ' h', Cat tot σ' sz (acc ++ es) v' → h ≤ h' → vcX P ops l K ⟨upd e d v', σ', h'⟩) :
    vcX P ops ((⟨some d, .call ⟨.builtin .append, #[x, y], #[t, t2]⟩, ty, pos, af, none⟩, true) :: l) K ⟨e, σ, h⟩ := by
  rcases ho with ⟨rfl, rfl, rfl⟩ | ⟨g, ver, m, es0, rfl, rfl, h5⟩
  · rw [vcX_append_nil h1 h2 h3 h4 hx hy]
    refine ⟨hz.1, hz.2.1, hz.2.2, hl, by simpa using hb, ?_⟩
    split
    · rename_i h0
      obtain rfl := List.length_eq_zero_iff.1 h0
      exact hk _ _ _ (.inl ⟨rfl, rfl, rfl⟩) (Nat.le_refl _)
    · exact fun g n hg => hk _ _ _ (.inr ⟨g, 0, n, es, rfl, rfl, .inl rfl⟩) (by omega)
  · refine x_app_own (r := 0) (g := g) (v := ver) (m := m) (es0 := es0) es h1 h2 h3 h4 hx rfl hy hz hl ⟨rfl, rfl⟩ hb (fun g' n' h' hh _ => ?_)
    refine hk _ _ _ (.inr ⟨g', ver + 1, n', es0.take acc.length ++ es, rfl, by rw [List.length_append], .inl ?_⟩) hh
    rcases h5 with rfl | ⟨rfl, _⟩
    · rw [List.take_length]
    · rfl
/-- A function over frozen data, of whose result less is told. -/
theorem FCtr.of_sub {f : FuncId} {args : List V} {Q : V → Prop} (h : Ctr P f args [] (fun _ _ r σ => (∃ x, Sub r x ∧ x.pure = true ∧ Q x) ∧ σ = [])) : FCtr P f args Q := by
  refine ⟨h.1, fun w X vs hX ha hp cs => ?_⟩
  obtain ⟨e, w', fr, ⟨v, r, σ', h1, ⟨⟨x, h2, h3, h4⟩, h5⟩, h6, h7, h8, h9, h10⟩, h11⟩ := h.2 w X vs hX ha hp cs
  exact ⟨e, w', fr, ⟨v, x, σ', h1, ⟨h4, h3, h5⟩, h6.sub h2, h7, h8, h9, h10⟩, h11⟩
/-- Where a function returns frozen data that one's own objects make up. -/
theorem retFz {rs : List ResultVar} {h0 : Nat} {s : St} {Q : V → Prop} {vs : List V} (bor : List Nat) {x : V} (hr : rs.mapM (resQ P s) = some vs) (hs : Sub ((tupV vs).loc s.σ [] bor) x) (hp : x.pure = true) (hq : Q x) :
    retK P rs [] h0 (fun _ _ r σ => (∃ x, Sub r x ∧ x.pure = true ∧ Q x) ∧ σ = []) s :=
  ⟨vs, hr, [], bor, .nil, (fun r hr => by cases hr), (fun r hr => by cases hr), fun hi _ => ⟨⟨x, hs, hp, hq⟩, rfl⟩, fun r o h => by simp at h⟩
end

/-! ### parts of slices -/
theorem q_slice_nil {P : Program} {s : St} {t : TypeId} {k : IntKind} : sliceQ P s t .nil0 none (some (.t (.int k 0))) = match esize P t with | some _ => some .nil0 | none => none := by
  simp only [sliceQ, esize]
  cases tElem P t with
  | none => rfl
  | some e =>
    simp only [sliceB_0, sliceB_none]
    cases tSize P e <;> rfl
theorem q_slice_own {P : Program} {s : St} {t : TypeId} {k : IntKind} {r ver off len n : Nat} (h : n ≤ len) : sliceQ P s t (.own r ver off len) none (some (.t (.int k (n : Int)))) = match esize P t with
    | some sz => (match s.σ[r]? with | some (.row _ v sz' _ _) => if ver = v ∧ sz' = sz then some (.own r ver off n) else none | _ => none)
    | none => none := by
  simp only [sliceQ, esize]
  cases tElem P t with
  | none => rfl
  | some e =>
    simp only
    cases tSize P e with
    | none => rfl
    | some sz =>
      simp only [sliceB_nat h]
      cases s.σ[r]? with
      | none => rfl
      | some o => cases o <;> simp [sliceB_none]
theorem q_slice_own0 {P : Program} {s : St} {t : TypeId} {k : IntKind} {r ver off len : Nat} : sliceQ P s t (.own r ver off len) none (some (.t (.int k 0))) = match esize P t with
    | some sz => (match s.σ[r]? with | some (.row _ v sz' _ _) => if ver = v ∧ sz' = sz then some (.own r ver off 0) else none | _ => none)
    | none => none := q_slice_own (n := 0) (Nat.zero_le _)
attribute [go_sem] q_slice_nil q_slice_own q_slice_own0 capQ
theorem Tb.lend {σ : List Ob} {sz : Nat} {ds : List (List D)} {S : List Nat} {v : V} (h : Tb σ sz ds S v) : ∃ g, Sub (v.loc σ [] S) (.t (.sl g (D.erLL ds))) := by
  obtain ⟨d, g, h1, h2⟩ := h.tr
  refine ⟨g, ?_⟩
  rw [← h2]
  exact h1.lend (fun r hr => hr) (fun r _ hr => by cases hr)

theorem get_new (σ : List Ob) (o : Ob) : (σ ++ [o])[σ.length]? = some o := by simp
theorem get_old {σ : List Ob} {o : Ob} {r : Nat} (h : r < σ.length) : (σ ++ [o])[r]? = σ[r]? := List.getElem?_append_left h
attribute [go_sem] get_new
theorem Tb.more {σ : List Ob} {sz : Nat} {ds : List (List D)} {S : List Nat} {v : V} (h : Tb σ sz ds S v) (o : Ob) : Tb (σ ++ [o]) sz ds S v := h.keep fun r hr => get_old (h.lt r hr)
theorem TrL.more {σ : List Ob} {ds : List D} {S : List Nat} {v : List V} (h : TrL σ ds S v) (o : Ob) : TrL (σ ++ [o]) ds S v := h.keep fun r hr => get_old (h.lt r hr)

/-! ### strings in rows -/
def Vs (xs : List ByteArray) : List (List V) := xs.map fun x => [V.t (.str x)]
def Ts (xs : List ByteArray) : List (List T) := xs.map fun x => [T.str x]
def Ds (xs : List ByteArray) : List (List D) := xs.map fun x => [D.t (.str x)]
theorem Ds_er : ∀ xs : List ByteArray, D.erLL (Ds xs) = Ts xs
  | [] => rfl
  | x :: l => by
    have := Ds_er l
    unfold Ds Ts at *
    rw [List.map_cons, D.erLL, this, List.map_cons]; rfl
theorem Ts_V (xs : List ByteArray) : (Ts xs).map (·.map V.t) = Vs xs := by simp [Ts, Vs]
theorem TrLL_Ds {σ : List Ob} : ∀ xs : List ByteArray, TrLL σ (Ds xs) [] (Vs xs)
  | [] => TrLL_nil
  | x :: l => TrLL_cons (S1 := []) (S2 := []) (TrL_one Tr_str) (TrLL_Ds l) (Dj_nil _)
theorem Vs_1 (xs : List ByteArray) : ∀ e ∈ Vs xs, e.length = 1 := by
  intro e he
  obtain ⟨x, _, rfl⟩ := List.mem_map.1 he
  rfl
theorem TrLL_Ds_inv {σ : List Ob} : ∀ {xs : List ByteArray} {S : List Nat} {es : List (List V)}, TrLL σ (Ds xs) S es → S = [] ∧ es = Vs xs
  | [], S, es, h => by simp only [Ds, List.map_nil] at h; rw [TrLL] at h; exact h
  | x :: l, S, es, h => by
    simp only [Ds, List.map_cons] at h
    rw [TrLL] at h
    obtain ⟨u, l', S1, S2, rfl, rfl, hd, h1, h2⟩ := h
    obtain ⟨rfl, rfl⟩ := TrLL_Ds_inv (xs := l) h2
    rw [TrL] at h1
    obtain ⟨v, l2, S3, S4, rfl, rfl, _, h3, h4⟩ := h1
    rw [Tr] at h3
    rw [TrL] at h4
    obtain ⟨rfl, rfl, _⟩ := h3
    obtain ⟨rfl, rfl⟩ := h4
    exact ⟨rfl, rfl⟩
/-- A row of strings that is joined to the end. -/
theorem Cat.tr {σ : List Ob} {xs : List ByteArray} {v : V} (hc : Cat xs.length σ 1 (Vs xs) v) : ∃ d S, Tr σ d S v ∧ ∃ g, d.er = .sl g (Ts xs) := by
  rcases hc with ⟨h1, rfl, rfl⟩ | ⟨g, ver, m, es, rfl, rfl, h5⟩
  · obtain rfl : xs = [] := by simpa [Vs] using h1
    exact ⟨.nil, [], Tr_nil, 0, rfl⟩
  · obtain rfl : es = Vs xs := by
      rcases h5 with h5 | ⟨h5, h6⟩
      · exact h5
      · obtain rfl : xs = [] := by simpa [Vs] using h5
        exact absurd h6 (by simp)
    refine ⟨.ow g (Ds xs), [0], ?_, g, by rw [D.er, Ds_er]⟩
    rw [Tr]
    exact ⟨0, ver, 1, m, Vs xs, [], rfl, by simp, rfl, rfl, TrLL_Ds xs, Vs_1 xs⟩
theorem Ds_app (xs ys : List ByteArray) : Ds (xs ++ ys) = Ds xs ++ Ds ys := by simp [Ds]
theorem Vs_len (xs : List ByteArray) : (Vs xs).length = xs.length := by simp [Vs]
theorem Ts_len (xs : List ByteArray) : (Ts xs).length = xs.length := by simp [Ts]
theorem Ds_len (xs : List ByteArray) : (Ds xs).length = xs.length := by simp [Ds]
theorem Vs_app (xs ys : List ByteArray) : Vs (xs ++ ys) = Vs xs ++ Vs ys := by simp [Vs]
theorem Ts_app (xs ys : List ByteArray) : Ts (xs ++ ys) = Ts xs ++ Ts ys := by simp [Ts]
end Go.VL
