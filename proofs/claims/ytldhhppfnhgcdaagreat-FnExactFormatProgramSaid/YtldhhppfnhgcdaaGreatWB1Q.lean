/- Walks through the code: each function's contract. -/
import Derived.Test.YtldhhppfnhgcdaaGreatWXQ
import Derived.Test.YtldhhppfnhgcdaaGreatWMQ
set_option linter.unusedVariables false
set_option linter.unusedSimpArgs false
set_option maxRecDepth 8000
namespace Go.Proofs.YtldhhppfnhgcdaaGreat
open Go Go.VL

end Go.Proofs.YtldhhppfnhgcdaaGreat
namespace Go.VL
mutual
/-- How many arguments a constructor has where it stands first; -1 where it does not. -/
def E.cn (b : ByteArray) : E → Int
  | .mk k n us => if k = 2 ∧ n = b then (us.length : Int) else E.cnL b us
def E.cnL (b : ByteArray) : List E → Int
  | [] => -1
  | e :: l => if 0 ≤ E.cn b e then E.cn b e else E.cnL b l
end
theorem E.cnL_drop {b : ByteArray} {l : List E} {n : Nat} (h : n < l.length) : E.cnL b (l.drop n) = if 0 ≤ E.cn b l[n] then E.cn b l[n] else E.cnL b (l.drop (n + 1)) := by rw [drop_get h, E.cnL]
theorem E.cn_ge (b : ByteArray) : ∀ e : E, E.cn b e = -1 ∨ 0 ≤ E.cn b e := by
  intro e
  induction e using E.ind with
  | h k n us ih =>
    have : ∀ l : List E, (∀ a ∈ l, E.cn b a = -1 ∨ 0 ≤ E.cn b a) → E.cnL b l = -1 ∨ 0 ≤ E.cnL b l := by
      intro l
      induction l with
      | nil => exact fun _ => .inl rfl
      | cons a l ihl =>
        intro h
        rw [E.cnL]
        by_cases h0 : 0 ≤ E.cn b a
        · rw [if_pos h0]; exact .inr h0
        · rw [if_neg h0]; exact ihl fun x hx => h x (List.mem_cons_of_mem _ hx)
    by_cases hk : k = 2 ∧ n = b
    · have h1 : E.cn b (.mk k n us) = us.length := by rw [E.cn, if_pos hk]
      rw [h1]; exact .inr (by omega)
    · have h1 : E.cn b (.mk k n us) = E.cnL b us := by rw [E.cn, if_neg hk]
      rw [h1]; exact this us ih
def toO (i : Int) : Option Int := if 0 ≤ i then some i else none
theorem toO_or (i j : Int) : (toO i).or (toO j) = toO (if 0 ≤ i then i else j) := by
  by_cases h : 0 ≤ i
  · rw [if_pos h, toO, if_pos h]; rfl
  · rw [if_neg h, toO, if_neg h, Option.none_or]
theorem lk_add (b a : ByteArray) (n : Int) (ms : List (ByteArray × Int)) (c : Prop) [Decidable c] : lk b (if c ∧ lk a ms = none then ms ++ [(a, n)] else ms) = (lk b ms).or (if c ∧ a = b then some n else none) := by
  by_cases hk : c ∧ lk a ms = none
  · rw [if_pos hk, lk_app]
    by_cases hb : a = b
    · rw [if_pos hb, if_pos ⟨hk.1, hb⟩]
    · rw [if_neg hb, if_neg (fun h => hb h.2)]
  · rw [if_neg hk]
    by_cases hb : c ∧ a = b
    · rw [if_pos hb]
      obtain ⟨h1, rfl⟩ := hb
      have h2 : ¬ lk a ms = none := fun h => hk ⟨h1, h⟩
      cases h3 : lk a ms with
      | none => exact absurd h3 h2
      | some m => rfl
    · rw [if_neg hb, Option.or_none]
/-- The constructors that are not there yet, with the numbers of their arguments. -/
def arStep (x : E) (ms : List (ByteArray × Int)) : List (ByteArray × Int) := if x.kind = 2 ∧ lk x.name ms = none then ms ++ [(x.name, (x.args.length : Int))] else ms
theorem lk_arStep (b : ByteArray) (x : E) (ms : List (ByteArray × Int)) : lk b (arStep x ms) = (lk b ms).or (if x.kind = 2 ∧ x.name = b then some (x.args.length : Int) else none) := by
  unfold arStep
  rw [lk_add]
theorem lk_foG (b : ByteArray) : ∀ (e : E) (ms : List (ByteArray × Int)), lk b (E.foG arStep e ms) = (lk b ms).or (toO (E.cn b e)) := by
  intro e
  induction e using E.ind with
  | h k n us ih =>
    intro ms
    have : ∀ (l : List E), (∀ a ∈ l, ∀ ms, lk b (E.foG arStep a ms) = (lk b ms).or (toO (E.cn b a))) → ∀ ms, lk b (E.foGL arStep l ms) = (lk b ms).or (toO (E.cnL b l)) := by
      intro l
      induction l with
      | nil => exact fun _ ms => by rw [E.foGL, E.cnL, toO, if_neg (by omega), Option.or_none]
      | cons a l ihl => exact fun h ms => by rw [E.foGL, ihl (fun x hx => h x (List.mem_cons_of_mem _ hx)), h a List.mem_cons_self, Option.or_assoc, toO_or, E.cnL]
    rw [E.foG, this us ih, lk_arStep, Option.or_assoc, E.cn]
    congr 1
    show (if k = 2 ∧ n = b then some (us.length : Int) else none).or _ = _
    by_cases hk : k = 2 ∧ n = b
    · rw [if_pos hk, if_pos hk]
      show some (us.length : Int) = _
      rw [toO, if_pos (by omega)]
    · rw [if_neg hk, if_neg hk, Option.none_or]
/-- The same in a program. -/
def Pg.cn (b : ByteArray) : List Ru → Int
  | [] => -1
  | x :: l => if x.cn = b ∧ b ≠ ⟨#[]⟩ then (x.vs.length : Int) else if 0 ≤ E.cn b x.bd then E.cn b x.bd else Pg.cn b l
theorem Pg.cn_drop {b : ByteArray} {l : List Ru} {n : Nat} (h : n < l.length) : Pg.cn b (l.drop n) = if l[n].cn = b ∧ b ≠ ⟨#[]⟩ then (l[n].vs.length : Int) else if 0 ≤ E.cn b l[n].bd then E.cn b l[n].bd else Pg.cn b (l.drop (n + 1)) := by rw [drop_get h, Pg.cn]
theorem Pg.cn_ge (b : ByteArray) : ∀ l : List Ru, Pg.cn b l = -1 ∨ 0 ≤ Pg.cn b l
  | [] => .inl rfl
  | x :: l => by
    by_cases hk : x.cn = b ∧ b ≠ ⟨#[]⟩
    · have h1 : Pg.cn b (x :: l) = x.vs.length := by rw [Pg.cn, if_pos hk]
      rw [h1]; exact .inr (by omega)
    · by_cases h : 0 ≤ E.cn b x.bd
      · have h1 : Pg.cn b (x :: l) = E.cn b x.bd := by rw [Pg.cn, if_neg hk, if_pos h]
        rw [h1]; exact .inr h
      · have h1 : Pg.cn b (x :: l) = Pg.cn b l := by rw [Pg.cn, if_neg hk, if_neg h]
        rw [h1]; exact Pg.cn_ge b l
def arHead (x : Ru) (ms : List (ByteArray × Int)) : List (ByteArray × Int) := if x.cn ≠ ⟨#[]⟩ ∧ lk x.cn ms = none then ms ++ [(x.cn, (x.vs.length : Int))] else ms
def arP : List Ru → List (ByteArray × Int) → List (ByteArray × Int)
  | [], ms => ms
  | x :: l, ms => arP l (E.foG arStep x.bd (arHead x ms))
theorem arP_drop {l : List Ru} {n : Nat} {ms : List (ByteArray × Int)} (h : n < l.length) : arP (l.drop n) ms = arP (l.drop (n + 1)) (E.foG arStep l[n].bd (arHead l[n] ms)) := by rw [drop_get h, arP]
theorem lk_arP (b : ByteArray) : ∀ (l : List Ru) (ms : List (ByteArray × Int)), lk b (arP l ms) = (lk b ms).or (toO (Pg.cn b l))
  | [], ms => by rw [arP, Pg.cn, toO, if_neg (by omega), Option.or_none]
  | x :: l, ms => by
    rw [arP, lk_arP b l, lk_foG, arHead, lk_add, Option.or_assoc, Option.or_assoc, toO_or, Pg.cn]
    congr 1
    by_cases hk : x.cn = b ∧ b ≠ ⟨#[]⟩
    · have hk2 : x.cn ≠ ⟨#[]⟩ ∧ x.cn = b := ⟨fun h => hk.2 (hk.1 ▸ h), hk.1⟩
      rw [if_pos hk, if_pos hk2]
      show some (x.vs.length : Int) = _
      rw [toO, if_pos (by omega)]
    · rw [if_neg hk, if_neg (fun h => hk ⟨h.2, fun h2 => h.1 (h.2.trans h2)⟩), Option.none_or]
end Go.VL
namespace Go.Proofs.YtldhhppfnhgcdaaGreat
open Go Go.VL

/-- impl.visit -/
theorem impl_visitM {τ : Type} (f : Nat) (caps : List V) (n0 : Nat) (st : E → τ → τ) (J : Nat → τ → List Ob → Prop) (hJ : ∀ b t σ, J b t σ → σ.length = n0 ∧ ∀ o ∈ σ, o.shut n0) (hcap : ∀ σ : List Ob, caps.map (V.loc σ (List.range n0) []) = caps) (hf : ∀ (x : E) (c : List T) (t : τ) (b : Nat) (σ : List Ob), x.rep c → x.wt ≤ 1048576 → J (b + 1) t σ → Ctr Tryz.prog f (.agg (c.map .t) :: caps) σ (fun _ _ r σ' => r = .tup [] ∧ (J b (st x t) σ' ∧ leO σ σ'))) (e : E) (c : List T) (t : τ) (b : Nat) (σ0 : List Ob) (hc : e.rep c) (hJ0 : J (b + e.sz) t σ0) (hw : e.wt ≤ 1048576) : Ctr Tryz.prog 57 [.agg (c.map .t), .fn f caps] σ0 (fun _ _ r' σ' => r' = .tup [] ∧ (J b (E.foG st e t) σ' ∧ leO σ0 σ')) := by
  have hc0 := hc
  have hw0 := hw
  induction e using E.ind generalizing c t b σ0
  rename_i k nm us ih
  obtain ⟨g, cs, rfl, ha⟩ := E.rep_mk hc
  have hcl := E.repL_len ha
  rw [E.wt] at hw
  rw [E.sz] at hJ0
  have hwl := E.wtL_len us
  have hn0 := (hJ _ _ _ hJ0).1
  subst hn0
  show Ctr _ _ [.agg [.t (.int .i64 k), .t (.str nm), .t (.sl g cs)], .fn f caps] σ0 _
  refine Ctr.of_vc (rs := []) (fn := Tryz.f57) mixed Tryz.func57 rfl rfl (by kernel_rfl) (by kernel_rfl) (by simp [Tryz.ntmps57]) (fun h0 => ?_)
  refine vc_seq fun K1 hK1 => ?_
  refine vc_reg ?_
  try simp (disch := omega) only [go_sem, ↓reduceIte, Nat.reduceEqDiff, reduceCtorEq, Nat.reduceAdd, Nat.reduceLeDiff, Nat.reduceMul, Int.reduceNeg, Int.reduceLT, Int.reduceAdd, Int.reduceSub, hcl]
  intro g0_0 hg0_0
  refine hK1 _ ?_
  refine vc_seq fun K2 hK2 => ?_
  refine vc_reg ?_
  try simp (disch := omega) only [go_sem, ↓reduceIte, Nat.reduceEqDiff, reduceCtorEq, Nat.reduceAdd, Nat.reduceLeDiff, Nat.reduceMul, Int.reduceNeg, Int.reduceLT, Int.reduceAdd, Int.reduceSub, hcl, get_new]
  refine x_callA (σ := σ0) σ0.length _ _ (hf (.mk k nm us) _ t (b + E.szL us) σ0 hc0 hw0 (by rw [Nat.add_assoc, Nat.add_comm _ 1]; exact hJ0)) rfl (hJ _ _ _ hJ0).2 (by first | rfl | simp (disch := omega) only [go_sem, ↓reduceIte, Nat.reduceEqDiff, reduceCtorEq, Nat.reduceAdd, Nat.reduceLeDiff, Nat.reduceMul, Int.reduceNeg, Int.reduceLT, Int.reduceAdd, Int.reduceSub, hcl, get_new]) ?_ (fun σ1 h => hJ _ _ _ h.1) ?_
  · (try simp (disch := omega) only [go_sem, ↓reduceIte, Nat.reduceEqDiff, reduceCtorEq, Nat.reduceAdd, Nat.reduceLeDiff, Nat.reduceMul, Int.reduceNeg, Int.reduceLT, Int.reduceAdd, Int.reduceSub, hcl, get_new])
    try simp only [List.map_append, List.map_cons, List.map_nil, List.cons_append, List.nil_append]
    rw [hcap]; rfl
  rintro σ2 h2 hh2 ⟨hJ2, hle2⟩
  have hbox : (σ2 ++ [.row g0_0 0 3 3 [[V.t (.int .i64 k), V.t (.str nm), V.t (.sl g cs)]]])[σ0.length]? = some (.row g0_0 0 3 3 [[V.t (.int .i64 k), V.t (.str nm), V.t (.sl g cs)]]) := get_at (hJ _ _ _ hJ2).1
  try simp (disch := omega) only [go_sem, ↓reduceIte, Nat.reduceEqDiff, reduceCtorEq, Nat.reduceAdd, Nat.reduceLeDiff, Nat.reduceMul, Int.reduceNeg, Int.reduceLT, Int.reduceAdd, Int.reduceSub, hcl, get_new]
  refine hK2 _ ?_
  refine vc_seq fun K3 hK3 => ?_
  refine vc_reg ?_
  try simp (disch := omega) only [go_sem, ↓reduceIte, Nat.reduceEqDiff, reduceCtorEq, Nat.reduceAdd, Nat.reduceLeDiff, Nat.reduceMul, Int.reduceNeg, Int.reduceLT, Int.reduceAdd, Int.reduceSub, hcl, hbox]
  refine hK3 _ ?_
  refine vc_block ?_
  refine vc_loop (fun m s => ∃ (n : Nat) (t1 : τ) (σ1 τ1 : List Ob), (m = us.length - n) ∧ (s.σ = σ1 ++ τ1) ∧ (s.env 1 = .fn f caps) ∧ (s.env 10 = .t (.sl g cs)) ∧ (s.env 11 = .t (.int .i64 us.length)) ∧ (s.env 12 = .t (.int .i64 n)) ∧ (n ≤ us.length) ∧ (J (b + E.szL (us.drop n)) t1 σ1) ∧ (E.foGL st (us.drop n) t1 = E.foG st (.mk k nm us) t) ∧ (leO σ0 σ1)) (us.length - 0) ⟨0, st (.mk k nm us) t, σ2, [.row g0_0 0 3 3 [[V.t (.int .i64 k), V.t (.str nm), V.t (.sl g cs)]]], rfl, (by first | rfl | simp), (by first | rfl | assumption), (by first | rfl | assumption), (by first | rfl | assumption), (by first | rfl | assumption), (by first | rfl | omega | simp), (by exact hJ2), (by rfl), (by exact hle2)⟩ ?_
  rintro m ⟨e, σ, h⟩ ⟨n, t1, σ1, τ1, hm, hσ, e1, e10, e11, e12, hn, hJ1, ht1, hle1⟩ K4 hK4
  simp only at hσ e1 e10 e11 e12
  subst hσ
  refine vc_seq fun K5 hK5 => ?_
  refine vc_reg ?_
  try simp (disch := omega) only [go_sem, ↓reduceIte, Nat.reduceEqDiff, reduceCtorEq, Nat.reduceAdd, Nat.reduceLeDiff, Nat.reduceMul, Int.reduceNeg, Int.reduceLT, Int.reduceAdd, Int.reduceSub, e1, e10, e11, e12, hcl]
  refine hK5 _ ?_
  refine vc_seq fun K6 hK6 => ?_
  refine vc_cond (t := _) rfl (fun hc1 => ?_) (fun hc1 => ?_)
  · (try simp only [go_sem] at hc1)
    refine vc_skip ?_
    refine hK6 _ ?_
    refine vc_seq fun K7 hK7 => ?_
    refine vc_block ?_
    refine vc_seq fun K8 hK8 => ?_
    obtain ⟨c, hc, hrc⟩ := E.repL_get ha (n := n) (by omega)
    obtain ⟨gc, cc, rfl, hcc⟩ := E.rep_cells hrc
    refine vc_reg ?_
    try simp (disch := omega) only [go_sem, ↓reduceIte, Nat.reduceEqDiff, reduceCtorEq, Nat.reduceAdd, Nat.reduceLeDiff, Nat.reduceMul, Int.reduceNeg, Int.reduceLT, Int.reduceAdd, Int.reduceSub, e1, e10, e11, e12, hcl, hc, get_new, setV]
    intro g4_2 hg4_2
    refine hK8 _ ?_
    simp only [List.append_assoc]
    have hnw : ∀ x : Ob, (σ1 ++ (τ1 ++ [x]))[(σ1 ++ τ1).length]? = some x := fun x => by rw [← List.append_assoc]; exact get_new _ _
    refine vc_reg ?_
    try simp (disch := omega) only [go_sem, ↓reduceIte, Nat.reduceEqDiff, reduceCtorEq, Nat.reduceAdd, Nat.reduceLeDiff, Nat.reduceMul, Int.reduceNeg, Int.reduceLT, Int.reduceAdd, Int.reduceSub, e1, e10, e11, e12, hcl, hnw]
    refine x_callA (σ := σ1) σ0.length _ _ (ih _ (List.getElem_mem (show n < us.length by omega)) _ t1 (b + E.szL (us.drop (n + 1))) σ1 hrc (by rw [Nat.add_assoc, Nat.add_comm _ us[n].sz, ← E.szL_drop (by omega)]; exact hJ1) (by have := E.wtL_mem (List.getElem_mem (show n < us.length by omega)); omega) hrc (by have := E.wtL_mem (List.getElem_mem (show n < us.length by omega)); omega)) (hJ _ _ _ hJ1).1 (hJ _ _ _ hJ1).2 (by first | rfl | simp (disch := omega) only [go_sem, ↓reduceIte, Nat.reduceEqDiff, reduceCtorEq, Nat.reduceAdd, Nat.reduceLeDiff, Nat.reduceMul, Int.reduceNeg, Int.reduceLT, Int.reduceAdd, Int.reduceSub, e1, e10, e11, e12, hcl, hnw]) ?_ (fun σ1 h => hJ _ _ _ h.1) ?_
    · (try simp (disch := omega) only [go_sem, ↓reduceIte, Nat.reduceEqDiff, reduceCtorEq, Nat.reduceAdd, Nat.reduceLeDiff, Nat.reduceMul, Int.reduceNeg, Int.reduceLT, Int.reduceAdd, Int.reduceSub, e1, e10, e11, e12, hcl, hnw])
      try simp only [List.map_append, List.map_cons, List.map_nil, List.cons_append, List.nil_append, List.append_nil]
      try rw [V.loc, V.locs_eq, hcap]
      rfl
    rintro σ5 h5 hh5 ⟨hJ5, hle5⟩
    try simp (disch := omega) only [go_sem, ↓reduceIte, Nat.reduceEqDiff, reduceCtorEq, Nat.reduceAdd, Nat.reduceLeDiff, Nat.reduceMul, Int.reduceNeg, Int.reduceLT, Int.reduceAdd, Int.reduceSub, e1, e10, e11, e12, hcl, hnw]
    refine hK7 _ ?_
    refine vc_reg ?_
    try simp (disch := omega) only [go_sem, ↓reduceIte, Nat.reduceEqDiff, reduceCtorEq, Nat.reduceAdd, Nat.reduceLeDiff, Nat.reduceMul, Int.reduceNeg, Int.reduceLT, Int.reduceAdd, Int.reduceSub, e1, e10, e11, e12, hcl]
    refine hK4 _ _ ?_ ⟨n + 1, E.foG st us[n] t1, σ5, _, rfl, (by first | rfl | simp), (by first | rfl | assumption), (by first | rfl | assumption), (by first | rfl | assumption), (by first | rfl | assumption), ?_, ?_, ?_, ?_⟩
    · omega
    · first | omega | assumption | rfl | simp_all
    · exact hJ5
    · rw [← ht1, E.foGL_drop (l := us) (n := n) (by omega)]
    · exact hle1.trans hle5
  · (try simp only [go_sem] at hc1)
    refine vc_exit ?_
    rw [List.drop_of_length_le (by omega), E.foGL] at ht1
    rw [List.drop_of_length_le (by omega), E.szL, Nat.add_zero] at hJ1
    have hlo : locObs (σ1 ++ τ1) (List.range σ0.length) [] = σ1 := locObs_all (hJ _ _ _ hJ1).1 (hJ _ _ _ hJ1).2
    refine ⟨_, rfl, List.range σ0.length, [], List.nodup_range, fun r hr => (by have := (hJ _ _ _ hJ1).1; simp at hr ⊢; omega), fun r _ hr => (by cases hr), fun hi_ h1_ => ⟨rfl, ?_, ?_⟩, ?_⟩
    · show J b _ (locObs (σ1 ++ τ1) (List.range σ0.length) [])
      rw [hlo, ← ht1]; exact hJ1
    · show leO σ0 (locObs (σ1 ++ τ1) (List.range σ0.length) [])
      rw [hlo]; exact hle1
    · show leO σ0 (locObs (σ1 ++ τ1) (List.range σ0.length) [])
      rw [hlo]; exact hle1

theorem le_M {g0 g1 : Nat} {es es' : List (T × V)} {σ' : List Ob} (h : σ' = [.map g0 es', .row g1 0 1 1 [[.map 0]]]) : leO [.map g0 es, .row g1 0 1 1 [[.map 0]]] σ' := by
  subst h
  intro r o ho
  match r with
  | 0 => simp only [List.getElem?_cons_zero, Option.some.injEq] at ho; subst ho; exact ⟨_, rfl, by simp [Ob.le]⟩
  | 1 => simp only [List.getElem?_cons_succ, List.getElem?_cons_zero, Option.some.injEq] at ho; subst ho; exact ⟨_, rfl, by simp [Ob.le]⟩
  | r + 2 => simp at ho
theorem shutM {g0 g1 : Nat} {ms : List (ByteArray × Int)} : ∀ o ∈ [Ob.map g0 (mE ms), .row g1 0 1 1 [[.map 0]]], o.shut 2 := fun o ho => by
  rcases List.mem_cons.1 ho with rfl | ho
  · exact shut_mE
  · obtain rfl := List.mem_singleton.1 ho
    exact shut_map (by omega)

/-- impl.addArities$1 -/
theorem impl_addArities_1 (g0 g1 : Nat) (x : E) (c : List T) (ms : List (ByteArray × Int)) (hc : x.rep c) (hw : x.wt ≤ 1048576) : Ctr Tryz.prog 90 [.agg (c.map .t), .ptr 1 0 0 0] [.map g0 (mE ms), .row g1 0 1 1 [[.map 0]]] (fun _ _ r' σ' => r' = .tup [] ∧ (σ' = [.map g0 (mE (arStep x ms)), .row g1 0 1 1 [[.map 0]]] ∧ leO [.map g0 (mE ms), .row g1 0 1 1 [[.map 0]]] σ')) := by
  obtain ⟨k, nm, us⟩ := x
  obtain ⟨g, cs, rfl, ha⟩ := E.rep_mk hc
  have hcl := E.repL_len ha
  rw [E.wt] at hw
  have hwl := E.wtL_len us
  refine Ctr.of_vc (rs := []) (fn := Tryz.f90) mixed Tryz.func90 rfl rfl (by kernel_rfl) (by kernel_rfl) (by simp [Tryz.ntmps90]) (fun h0 => ?_)
  refine vc_seq fun K1 hK1 => ?_
  refine vc_reg ?_
  try simp (disch := omega) only [go_sem, ↓reduceIte, Nat.reduceEqDiff, reduceCtorEq, Nat.reduceAdd, Nat.reduceLeDiff, Nat.reduceMul, Int.reduceNeg, Int.reduceLT, Int.reduceAdd, Int.reduceSub, hcl]
  intro g0_0 hg0_0
  refine hK1 _ ?_
  refine vc_seq fun K2 hK2 => ?_
  refine vc_reg ?_
  try simp (disch := omega) only [go_sem, ↓reduceIte, Nat.reduceEqDiff, reduceCtorEq, Nat.reduceAdd, Nat.reduceLeDiff, Nat.reduceMul, Int.reduceNeg, Int.reduceLT, Int.reduceAdd, Int.reduceSub, hcl]
  refine hK2 _ ?_
  refine vc_seq fun K3 hK3 => ?_
  refine vc_reg ?_
  refine vcX_cut 4 fun K4 hK4 => ?_
  try simp (disch := omega) only [go_sem, ↓reduceIte, Nat.reduceEqDiff, reduceCtorEq, Nat.reduceAdd, Nat.reduceLeDiff, Nat.reduceMul, Int.reduceNeg, Int.reduceLT, Int.reduceAdd, Int.reduceSub, hcl]
  refine hK4 _ ?_
  refine vcX_bool (fun hb2_3 => ?_) (fun hb2_3 => ?_)
  · (try simp only [go_sem] at hb2_3)
    try simp (disch := omega) only [go_sem, ↓reduceIte, Nat.reduceEqDiff, reduceCtorEq, Nat.reduceAdd, Nat.reduceLeDiff, Nat.reduceMul, Int.reduceNeg, Int.reduceLT, Int.reduceAdd, Int.reduceSub, hcl]
    refine hK3 _ ?_
    refine vc_cond (t := _) rfl (fun hc1 => ?_) (fun hc1 => ?_)
    · (try simp only [go_sem] at hc1)
      refine vc_reg ?_
      try simp (disch := omega) only [go_sem, ↓reduceIte, Nat.reduceEqDiff, reduceCtorEq, Nat.reduceAdd, Nat.reduceLeDiff, Nat.reduceMul, Int.reduceNeg, Int.reduceLT, Int.reduceAdd, Int.reduceSub, hcl]
      refine x_mapUpdate 0 g0 nm (us.length : Int) ms (by kernel_rfl) rfl rfl rfl rfl (by simpa using hc1) ?_
      try simp (disch := omega) only [go_sem, ↓reduceIte, Nat.reduceEqDiff, reduceCtorEq, Nat.reduceAdd, Nat.reduceLeDiff, Nat.reduceMul, Int.reduceNeg, Int.reduceLT, Int.reduceAdd, Int.reduceSub, hcl]
      have hst : arStep (.mk k nm us) ms = ms ++ [(nm, (us.length : Int))] := if_pos (show k = 2 ∧ lk nm ms = none from ⟨by simpa using hb2_3, by simpa using hc1⟩)
      simp only [hst]
      refine ⟨_, rfl, [0, 1], [], by simp, by simp, by simp, fun hi_ h1_ => ⟨rfl, ?_, ?_⟩, ?_⟩
      · first | rfl | (simp [locObs, Ob.loc, V.loc, idx, mE, Function.comp_def]; done)
      · exact le_M (by first | rfl | (simp [locObs, Ob.loc, V.loc, idx, mE, Function.comp_def]; rfl))
      · exact le_M (by first | rfl | (simp [locObs, Ob.loc, V.loc, idx, mE, Function.comp_def]; rfl))
    · (try simp only [go_sem] at hc1)
      refine vc_skip ?_
      have hst : arStep (.mk k nm us) ms = ms := if_neg (fun h => by have h2 : lk nm ms = none := h.2; simp [h2] at hc1)
      simp only [hst]
      refine ⟨_, rfl, [0, 1], [], by simp, by simp, by simp, fun hi_ h1_ => ⟨rfl, ?_, ?_⟩, ?_⟩
      · first | rfl | (simp [locObs, Ob.loc, V.loc, idx, mE, Function.comp_def]; done)
      · exact le_M (by first | rfl | (simp [locObs, Ob.loc, V.loc, idx, mE, Function.comp_def]; rfl))
      · exact le_M (by first | rfl | (simp [locObs, Ob.loc, V.loc, idx, mE, Function.comp_def]; rfl))
  · (try simp only [go_sem] at hb2_3)
    try simp (disch := omega) only [go_sem, ↓reduceIte, Nat.reduceEqDiff, reduceCtorEq, Nat.reduceAdd, Nat.reduceLeDiff, Nat.reduceMul, Int.reduceNeg, Int.reduceLT, Int.reduceAdd, Int.reduceSub, hcl]
    refine hK3 _ ?_
    refine vc_cond (t := _) rfl (fun hc2 => ?_) (fun hc2 => ?_)
    · exact absurd hc2 (by simp)
    · (try simp only [go_sem] at hc2)
      refine vc_skip ?_
      have hst : arStep (.mk k nm us) ms = ms := if_neg (fun h => (by simpa using hb2_3 : ¬ k = 2) h.1)
      simp only [hst]
      refine ⟨_, rfl, [0, 1], [], by simp, by simp, by simp, fun hi_ h1_ => ⟨rfl, ?_, ?_⟩, ?_⟩
      · first | rfl | (simp [locObs, Ob.loc, V.loc, idx, mE, Function.comp_def]; done)
      · exact le_M (by first | rfl | (simp [locObs, Ob.loc, V.loc, idx, mE, Function.comp_def]; rfl))
      · exact le_M (by first | rfl | (simp [locObs, Ob.loc, V.loc, idx, mE, Function.comp_def]; rfl))

/-- impl.addArities -/
theorem impl_addArities (g0 : Nat) (e : E) (c : List T) (ms : List (ByteArray × Int)) (hc : e.rep c) (hw : e.wt ≤ 1048576) : Ctr Tryz.prog 54 [.map 0, .agg (c.map .t)] [.map g0 (mE ms)] (fun _ _ r' σ' => r' = .tup [] ∧ σ' = [.map g0 (mE (E.foG arStep e ms))]) := by
  have hc0 := hc
  obtain ⟨g, cs, rfl, hcs⟩ := E.rep_cells hc
  refine Ctr.of_vc (rs := []) (fn := Tryz.f54) mixed Tryz.func54 rfl rfl (by kernel_rfl) (by kernel_rfl) (by simp [Tryz.ntmps54]) (fun h0 => ?_)
  refine vc_seq fun K1 hK1 => ?_
  refine vc_reg ?_
  try simp (disch := omega) only [go_sem, ↓reduceIte, Nat.reduceEqDiff, reduceCtorEq, Nat.reduceAdd, Nat.reduceLeDiff, Nat.reduceMul, Int.reduceNeg, Int.reduceLT, Int.reduceAdd, Int.reduceSub]
  intro g0_0 hg0_0
  intro g0_1 hg0_1
  refine hK1 _ ?_
  refine vc_reg ?_
  try simp (disch := omega) only [go_sem, ↓reduceIte, Nat.reduceEqDiff, reduceCtorEq, Nat.reduceAdd, Nat.reduceLeDiff, Nat.reduceMul, Int.reduceNeg, Int.reduceLT, Int.reduceAdd, Int.reduceSub]
  refine x_callA (σ := [.map g0 (mE ms), .row g0_0 0 1 1 [[.map 0]]]) (τ := [.row g0_1 0 3 3 [[.t (.int .i64 e.kind), .t (.str e.name), .t (.sl g cs)]]]) 2 _ _ (impl_visitM 90 [.ptr 1 0 0 0] 2 arStep (fun _ ms σ => σ = [.map g0 (mE ms), .row g0_0 0 1 1 [[.map 0]]]) (fun b ms σ h => by subst h; exact ⟨rfl, shutM⟩) (fun σ => rfl) (fun x c ms b σ h1 h2 h3 => by subst h3; exact impl_addArities_1 g0 g0_0 x c ms h1 h2) e _ ms 0 _ hc0 rfl hw) rfl shutM (by first | rfl | simp (disch := omega) only [go_sem, ↓reduceIte, Nat.reduceEqDiff, reduceCtorEq, Nat.reduceAdd, Nat.reduceLeDiff, Nat.reduceMul, Int.reduceNeg, Int.reduceLT, Int.reduceAdd, Int.reduceSub]) (by first | rfl | (simp (disch := omega) only [go_sem, ↓reduceIte, Nat.reduceEqDiff, reduceCtorEq, Nat.reduceAdd, Nat.reduceLeDiff, Nat.reduceMul, Int.reduceNeg, Int.reduceLT, Int.reduceAdd, Int.reduceSub]) | (simp only [go_sem, V.loc, V.locs, idx]; done)) (fun σ1 h => by obtain ⟨h, -⟩ := h; subst h; exact ⟨rfl, shutM⟩) ?_
  rintro σ2 h2 hh2 ⟨rfl, -⟩
  try simp (disch := omega) only [go_sem, ↓reduceIte, Nat.reduceEqDiff, reduceCtorEq, Nat.reduceAdd, Nat.reduceLeDiff, Nat.reduceMul, Int.reduceNeg, Int.reduceLT, Int.reduceAdd, Int.reduceSub]
  refine ⟨_, rfl, [0], [], by simp, by simp, by simp, fun hi_ h1_ => ⟨rfl, ?_⟩, ?_⟩
  · show [Ob.loc _ _ _ (.map g0 (mE (E.foG arStep e ms)))] = _
    rw [loc_mE]
  · intro r o ho
    cases r with
    | zero => simp only [List.getElem?_cons_zero, Option.some.injEq] at ho; subst ho; exact ⟨_, rfl, by simp [Ob.loc, Ob.le]⟩
    | succ r => simp at ho

/-- spec.l5Con -/
theorem spec_l5Con (e : E) (c : List T) (hc : e.rep c) (hw : e.wt ≤ 1048576) (s1 : ByteArray) : FCtr Tryz.prog 78 [.agg (c.map .t), .t (.str s1)] (fun r => r = .t (.int .i64 (E.cn s1 e))) := by
  induction e using E.ind generalizing c
  rename_i k nm us ih
  obtain ⟨g, cs, rfl, ha⟩ := E.rep_mk hc
  have hcl := E.repL_len ha
  rw [E.wt] at hw
  have hwl := E.wtL_len us
  
  refine Ctr.of_vc (rs := [.tmp 4]) (fn := Tryz.f78) mixed Tryz.func78 rfl rfl (by kernel_rfl) (by kernel_rfl) (by simp [Tryz.ntmps78]) (fun h0 => ?_)
  refine vc_seq fun K1 hK1 => ?_
  refine vc_reg ?_
  try simp (disch := omega) only [go_sem, ↓reduceIte, Nat.reduceEqDiff, reduceCtorEq, Nat.reduceAdd, Nat.reduceLeDiff, Nat.reduceMul, Int.reduceNeg, Int.reduceLT, Int.reduceAdd, Int.reduceSub, hcl]
  intro g0_0 hg0_0
  refine hK1 _ ?_
  refine vc_seq fun K2 hK2 => ?_
  refine vc_seq fun K3 hK3 => ?_
  refine vc_reg ?_
  refine vcX_cut 4 fun K4 hK4 => ?_
  try simp (disch := omega) only [go_sem, ↓reduceIte, Nat.reduceEqDiff, reduceCtorEq, Nat.reduceAdd, Nat.reduceLeDiff, Nat.reduceMul, Int.reduceNeg, Int.reduceLT, Int.reduceAdd, Int.reduceSub, hcl]
  refine hK4 _ ?_
  refine vcX_bool (fun hb1_3 => ?_) (fun hb1_3 => ?_)
  · (try simp only [go_sem] at hb1_3)
    try simp (disch := omega) only [go_sem, ↓reduceIte, Nat.reduceEqDiff, reduceCtorEq, Nat.reduceAdd, Nat.reduceLeDiff, Nat.reduceMul, Int.reduceNeg, Int.reduceLT, Int.reduceAdd, Int.reduceSub, hcl]
    refine hK3 _ ?_
    refine vc_cond (t := _) rfl (fun hc1 => ?_) (fun hc1 => ?_)
    · (try simp only [go_sem] at hc1)
      refine vc_seq fun K6 hK6 => ?_
      refine vc_reg ?_
      try simp (disch := omega) only [go_sem, ↓reduceIte, Nat.reduceEqDiff, reduceCtorEq, Nat.reduceAdd, Nat.reduceLeDiff, Nat.reduceMul, Int.reduceNeg, Int.reduceLT, Int.reduceAdd, Int.reduceSub, hcl]
      refine hK6 _ ?_
      refine vc_ret ?_
      refine ⟨_, by first | rfl | (simp only [go_sem, resQ, List.mapM_cons, List.mapM_nil, ↓reduceIte, Nat.reduceEqDiff, Nat.reduceAdd, Nat.reduceLeDiff, reduceCtorEq]; rfl), [], [], .nil, by simp, by simp, fun hi_ h1_ => ⟨?_, rfl, rfl⟩, by simp⟩
      first
      | (have hx2 : E.cn s1 (.mk k nm us) = us.length := by rw [E.cn, if_pos (by simp_all)]
         rw [hx2]; rfl)
      | (have hx2 : E.cn s1 (.mk k nm us) = E.cn s1 us[n] := by rw [hx, E.cnL_drop (l := us) (n := n) (by omega), if_pos (by omega)]
         rw [hx2]; rfl)
      | (have hx2 : E.cn s1 (.mk k nm us) = -1 := by rw [hx, List.drop_of_length_le (by omega), E.cnL]
         rw [hx2]; rfl)
    · (try simp only [go_sem] at hc1)
      refine vc_skip ?_
      refine hK2 _ ?_
      refine vc_seq fun K7 hK7 => ?_
      refine vc_seq fun K8 hK8 => ?_
      refine vc_reg ?_
      try simp (disch := omega) only [go_sem, ↓reduceIte, Nat.reduceEqDiff, reduceCtorEq, Nat.reduceAdd, Nat.reduceLeDiff, Nat.reduceMul, Int.reduceNeg, Int.reduceLT, Int.reduceAdd, Int.reduceSub, hcl]
      refine hK8 _ ?_
      refine vc_block ?_
      refine vc_loop (fun m s => ∃ (n : Nat), (m = us.length - n) ∧ (s.σ = [.row g0_0 0 3 3 [[V.t (.int .i64 k), V.t (.str nm), V.t (.sl g cs)]]]) ∧ (s.env 1 = .t (.str s1)) ∧ (s.env 2 = .ptr 0 0 0 0) ∧ (s.env 5 = .t (.int .i64 n)) ∧ (n ≤ us.length) ∧ (E.cn s1 (.mk k nm us) = E.cnL s1 (us.drop n))) (us.length - 0) ⟨0, rfl, (by first | rfl | simp), (by first | rfl | assumption), (by first | rfl | assumption), (by first | rfl | assumption), (by first | rfl | omega | simp), (by rw [E.cn, if_neg (by simp_all)]; rfl)⟩ ?_
      rintro m ⟨e, σ, h⟩ ⟨n, hm, hσ, e1, e2, e5, hn, hx⟩ K9 hK9
      simp only at hσ e1 e2 e5
      subst hσ
      refine vc_seq fun K10 hK10 => ?_
      refine vc_seq fun K11 hK11 => ?_
      refine vc_reg ?_
      try simp (disch := omega) only [go_sem, ↓reduceIte, Nat.reduceEqDiff, reduceCtorEq, Nat.reduceAdd, Nat.reduceLeDiff, Nat.reduceMul, Int.reduceNeg, Int.reduceLT, Int.reduceAdd, Int.reduceSub, e1, e2, e5, hcl]
      refine hK11 _ ?_
      refine vc_cond (t := _) rfl (fun hc2 => ?_) (fun hc2 => ?_)
      · (try simp only [go_sem] at hc2)
        refine vc_skip ?_
        refine hK10 _ ?_
        refine vc_seq fun K12 hK12 => ?_
        refine vc_block ?_
        refine vc_seq fun K13 hK13 => ?_
        obtain ⟨c, hc, hrc⟩ := E.repL_get ha (n := n) (by omega)
        obtain ⟨gc, cc, rfl, hcc⟩ := E.rep_cells hrc
        refine vc_reg ?_
        try simp (disch := omega) only [go_sem, ↓reduceIte, Nat.reduceEqDiff, reduceCtorEq, Nat.reduceAdd, Nat.reduceLeDiff, Nat.reduceMul, Int.reduceNeg, Int.reduceLT, Int.reduceAdd, Int.reduceSub, e1, e2, e5, hcl, hc]
        refine vcX_call _ _ (ih _ (List.getElem_mem (show n < us.length by omega)) _ hrc (by have := E.wtL_mem (List.getElem_mem (show n < us.length by omega)); omega)) rfl rfl (by first | rfl | simp [V.pures, V.pure, V.pures_t]) ?_
        rintro r6_6 h6_6 hh6_6 rfl -
        try simp (disch := omega) only [go_sem, ↓reduceIte, Nat.reduceEqDiff, reduceCtorEq, Nat.reduceAdd, Nat.reduceLeDiff, Nat.reduceMul, Int.reduceNeg, Int.reduceLT, Int.reduceAdd, Int.reduceSub, e1, e2, e5, hcl, hc]
        refine hK13 _ ?_
        refine vc_seq fun K14 hK14 => ?_
        refine vc_reg ?_
        try simp (disch := omega) only [go_sem, ↓reduceIte, Nat.reduceEqDiff, reduceCtorEq, Nat.reduceAdd, Nat.reduceLeDiff, Nat.reduceMul, Int.reduceNeg, Int.reduceLT, Int.reduceAdd, Int.reduceSub, e1, e2, e5, hcl]
        refine hK14 _ ?_
        refine vc_cond (t := _) rfl (fun hc3 => ?_) (fun hc3 => ?_)
        · (try simp only [go_sem] at hc3)
          refine vc_seq fun K15 hK15 => ?_
          refine vc_reg ?_
          try simp (disch := omega) only [go_sem, ↓reduceIte, Nat.reduceEqDiff, reduceCtorEq, Nat.reduceAdd, Nat.reduceLeDiff, Nat.reduceMul, Int.reduceNeg, Int.reduceLT, Int.reduceAdd, Int.reduceSub, e1, e2, e5, hcl]
          refine hK15 _ ?_
          refine vc_ret ?_
          refine ⟨_, by first | rfl | (simp only [go_sem, resQ, List.mapM_cons, List.mapM_nil, ↓reduceIte, Nat.reduceEqDiff, Nat.reduceAdd, Nat.reduceLeDiff, reduceCtorEq]; rfl), [], [], .nil, by simp, by simp, fun hi_ h1_ => ⟨?_, rfl, rfl⟩, by simp⟩
          first
          | (have hx2 : E.cn s1 (.mk k nm us) = us.length := by rw [E.cn, if_pos (by simp_all)]
             rw [hx2]; rfl)
          | (have hx2 : E.cn s1 (.mk k nm us) = E.cn s1 us[n] := by rw [hx, E.cnL_drop (l := us) (n := n) (by omega), if_pos (by omega)]
             rw [hx2]; rfl)
          | (have hx2 : E.cn s1 (.mk k nm us) = -1 := by rw [hx, List.drop_of_length_le (by omega), E.cnL]
             rw [hx2]; rfl)
        · (try simp only [go_sem] at hc3)
          refine vc_skip ?_
          refine hK12 _ ?_
          refine vc_reg ?_
          try simp (disch := omega) only [go_sem, ↓reduceIte, Nat.reduceEqDiff, reduceCtorEq, Nat.reduceAdd, Nat.reduceLeDiff, Nat.reduceMul, Int.reduceNeg, Int.reduceLT, Int.reduceAdd, Int.reduceSub, e1, e2, e5, hcl]
          refine hK9 _ _ ?_ ⟨n + 1, rfl, (by first | rfl | simp), (by first | rfl | assumption), (by first | rfl | assumption), (by first | rfl | assumption), ?_, ?_⟩
          · omega
          · first | omega | assumption | rfl | simp_all
          · rw [hx, E.cnL_drop (l := us) (n := n) (by omega), if_neg (by omega)]
      · (try simp only [go_sem] at hc2)
        refine vc_exit ?_
        refine hK7 _ ?_
        refine vc_seq fun K16 hK16 => ?_
        refine vc_reg ?_
        try simp (disch := omega) only [go_sem, ↓reduceIte, Nat.reduceEqDiff, reduceCtorEq, Nat.reduceAdd, Nat.reduceLeDiff, Nat.reduceMul, Int.reduceNeg, Int.reduceLT, Int.reduceAdd, Int.reduceSub, e1, e2, e5, hcl]
        refine hK16 _ ?_
        refine vc_ret ?_
        refine ⟨_, by first | rfl | (simp only [go_sem, resQ, List.mapM_cons, List.mapM_nil, ↓reduceIte, Nat.reduceEqDiff, Nat.reduceAdd, Nat.reduceLeDiff, reduceCtorEq]; rfl), [], [], .nil, by simp, by simp, fun hi_ h1_ => ⟨?_, rfl, rfl⟩, by simp⟩
        first
        | (have hx2 : E.cn s1 (.mk k nm us) = us.length := by rw [E.cn, if_pos (by simp_all)]
           rw [hx2]; rfl)
        | (have hx2 : E.cn s1 (.mk k nm us) = E.cn s1 us[n] := by rw [hx, E.cnL_drop (l := us) (n := n) (by omega), if_pos (by omega)]
           rw [hx2]; rfl)
        | (have hx2 : E.cn s1 (.mk k nm us) = -1 := by rw [hx, List.drop_of_length_le (by omega), E.cnL]
           rw [hx2]; rfl)
  · (try simp only [go_sem] at hb1_3)
    try simp (disch := omega) only [go_sem, ↓reduceIte, Nat.reduceEqDiff, reduceCtorEq, Nat.reduceAdd, Nat.reduceLeDiff, Nat.reduceMul, Int.reduceNeg, Int.reduceLT, Int.reduceAdd, Int.reduceSub, hcl]
    refine hK3 _ ?_
    refine vc_cond (t := _) rfl (fun hc4 => ?_) (fun hc4 => ?_)
    · exact absurd hc4 (by simp)
    · (try simp only [go_sem] at hc4)
      refine vc_skip ?_
      refine hK2 _ ?_
      refine vc_seq fun K17 hK17 => ?_
      refine vc_seq fun K18 hK18 => ?_
      refine vc_reg ?_
      try simp (disch := omega) only [go_sem, ↓reduceIte, Nat.reduceEqDiff, reduceCtorEq, Nat.reduceAdd, Nat.reduceLeDiff, Nat.reduceMul, Int.reduceNeg, Int.reduceLT, Int.reduceAdd, Int.reduceSub, hcl]
      refine hK18 _ ?_
      refine vc_block ?_
      refine vc_loop (fun m s => ∃ (n : Nat), (m = us.length - n) ∧ (s.σ = [.row g0_0 0 3 3 [[V.t (.int .i64 k), V.t (.str nm), V.t (.sl g cs)]]]) ∧ (s.env 1 = .t (.str s1)) ∧ (s.env 2 = .ptr 0 0 0 0) ∧ (s.env 5 = .t (.int .i64 n)) ∧ (n ≤ us.length) ∧ (E.cn s1 (.mk k nm us) = E.cnL s1 (us.drop n))) (us.length - 0) ⟨0, rfl, (by first | rfl | simp), (by first | rfl | assumption), (by first | rfl | assumption), (by first | rfl | assumption), (by first | rfl | omega | simp), (by rw [E.cn, if_neg (by simp_all)]; rfl)⟩ ?_
      rintro m ⟨e, σ, h⟩ ⟨n, hm, hσ, e1, e2, e5, hn, hx⟩ K19 hK19
      simp only at hσ e1 e2 e5
      subst hσ
      refine vc_seq fun K20 hK20 => ?_
      refine vc_seq fun K21 hK21 => ?_
      refine vc_reg ?_
      try simp (disch := omega) only [go_sem, ↓reduceIte, Nat.reduceEqDiff, reduceCtorEq, Nat.reduceAdd, Nat.reduceLeDiff, Nat.reduceMul, Int.reduceNeg, Int.reduceLT, Int.reduceAdd, Int.reduceSub, e1, e2, e5, hcl]
      refine hK21 _ ?_
      refine vc_cond (t := _) rfl (fun hc5 => ?_) (fun hc5 => ?_)
      · (try simp only [go_sem] at hc5)
        refine vc_skip ?_
        refine hK20 _ ?_
        refine vc_seq fun K22 hK22 => ?_
        refine vc_block ?_
        refine vc_seq fun K23 hK23 => ?_
        obtain ⟨c, hc, hrc⟩ := E.repL_get ha (n := n) (by omega)
        obtain ⟨gc, cc, rfl, hcc⟩ := E.rep_cells hrc
        refine vc_reg ?_
        try simp (disch := omega) only [go_sem, ↓reduceIte, Nat.reduceEqDiff, reduceCtorEq, Nat.reduceAdd, Nat.reduceLeDiff, Nat.reduceMul, Int.reduceNeg, Int.reduceLT, Int.reduceAdd, Int.reduceSub, e1, e2, e5, hcl, hc]
        refine vcX_call _ _ (ih _ (List.getElem_mem (show n < us.length by omega)) _ hrc (by have := E.wtL_mem (List.getElem_mem (show n < us.length by omega)); omega)) rfl rfl (by first | rfl | simp [V.pures, V.pure, V.pures_t]) ?_
        rintro r6_6 h6_6 hh6_6 rfl -
        try simp (disch := omega) only [go_sem, ↓reduceIte, Nat.reduceEqDiff, reduceCtorEq, Nat.reduceAdd, Nat.reduceLeDiff, Nat.reduceMul, Int.reduceNeg, Int.reduceLT, Int.reduceAdd, Int.reduceSub, e1, e2, e5, hcl, hc]
        refine hK23 _ ?_
        refine vc_seq fun K24 hK24 => ?_
        refine vc_reg ?_
        try simp (disch := omega) only [go_sem, ↓reduceIte, Nat.reduceEqDiff, reduceCtorEq, Nat.reduceAdd, Nat.reduceLeDiff, Nat.reduceMul, Int.reduceNeg, Int.reduceLT, Int.reduceAdd, Int.reduceSub, e1, e2, e5, hcl]
        refine hK24 _ ?_
        refine vc_cond (t := _) rfl (fun hc6 => ?_) (fun hc6 => ?_)
        · (try simp only [go_sem] at hc6)
          refine vc_seq fun K25 hK25 => ?_
          refine vc_reg ?_
          try simp (disch := omega) only [go_sem, ↓reduceIte, Nat.reduceEqDiff, reduceCtorEq, Nat.reduceAdd, Nat.reduceLeDiff, Nat.reduceMul, Int.reduceNeg, Int.reduceLT, Int.reduceAdd, Int.reduceSub, e1, e2, e5, hcl]
          refine hK25 _ ?_
          refine vc_ret ?_
          refine ⟨_, by first | rfl | (simp only [go_sem, resQ, List.mapM_cons, List.mapM_nil, ↓reduceIte, Nat.reduceEqDiff, Nat.reduceAdd, Nat.reduceLeDiff, reduceCtorEq]; rfl), [], [], .nil, by simp, by simp, fun hi_ h1_ => ⟨?_, rfl, rfl⟩, by simp⟩
          first
          | (have hx2 : E.cn s1 (.mk k nm us) = us.length := by rw [E.cn, if_pos (by simp_all)]
             rw [hx2]; rfl)
          | (have hx2 : E.cn s1 (.mk k nm us) = E.cn s1 us[n] := by rw [hx, E.cnL_drop (l := us) (n := n) (by omega), if_pos (by omega)]
             rw [hx2]; rfl)
          | (have hx2 : E.cn s1 (.mk k nm us) = -1 := by rw [hx, List.drop_of_length_le (by omega), E.cnL]
             rw [hx2]; rfl)
        · (try simp only [go_sem] at hc6)
          refine vc_skip ?_
          refine hK22 _ ?_
          refine vc_reg ?_
          try simp (disch := omega) only [go_sem, ↓reduceIte, Nat.reduceEqDiff, reduceCtorEq, Nat.reduceAdd, Nat.reduceLeDiff, Nat.reduceMul, Int.reduceNeg, Int.reduceLT, Int.reduceAdd, Int.reduceSub, e1, e2, e5, hcl]
          refine hK19 _ _ ?_ ⟨n + 1, rfl, (by first | rfl | simp), (by first | rfl | assumption), (by first | rfl | assumption), (by first | rfl | assumption), ?_, ?_⟩
          · omega
          · first | omega | assumption | rfl | simp_all
          · rw [hx, E.cnL_drop (l := us) (n := n) (by omega), if_neg (by omega)]
      · (try simp only [go_sem] at hc5)
        refine vc_exit ?_
        refine hK17 _ ?_
        refine vc_seq fun K26 hK26 => ?_
        refine vc_reg ?_
        try simp (disch := omega) only [go_sem, ↓reduceIte, Nat.reduceEqDiff, reduceCtorEq, Nat.reduceAdd, Nat.reduceLeDiff, Nat.reduceMul, Int.reduceNeg, Int.reduceLT, Int.reduceAdd, Int.reduceSub, e1, e2, e5, hcl]
        refine hK26 _ ?_
        refine vc_ret ?_
        refine ⟨_, by first | rfl | (simp only [go_sem, resQ, List.mapM_cons, List.mapM_nil, ↓reduceIte, Nat.reduceEqDiff, Nat.reduceAdd, Nat.reduceLeDiff, reduceCtorEq]; rfl), [], [], .nil, by simp, by simp, fun hi_ h1_ => ⟨?_, rfl, rfl⟩, by simp⟩
        first
        | (have hx2 : E.cn s1 (.mk k nm us) = us.length := by rw [E.cn, if_pos (by simp_all)]
           rw [hx2]; rfl)
        | (have hx2 : E.cn s1 (.mk k nm us) = E.cn s1 us[n] := by rw [hx, E.cnL_drop (l := us) (n := n) (by omega), if_pos (by omega)]
           rw [hx2]; rfl)
        | (have hx2 : E.cn s1 (.mk k nm us) = -1 := by rw [hx, List.drop_of_length_le (by omega), E.cnL]
           rw [hx2]; rfl)

/-- spec.ConArity -/
theorem spec_ConArity (us : List Ru) (c : List T) (hc : Pg.rep us c) (hw : wl Ru.wt us ≤ 1048576) (s1 : ByteArray) : FCtr Tryz.prog 43 [.agg (c.map .t), .t (.str s1)] (fun r => r = .t (.int .i64 (Pg.cn s1 us))) := by
  obtain ⟨g, cs, rfl, ha⟩ := hc
  have hl1_ := wl_len Ru.wt us
  have hcl := ha.len
  refine Ctr.of_vc (rs := [.tmp 4]) (fn := Tryz.f43) mixed Tryz.func43 rfl rfl (by kernel_rfl) (by kernel_rfl) (by simp [Tryz.ntmps43]) (fun h0 => ?_)
  refine vc_seq fun K1 hK1 => ?_
  refine vc_reg ?_
  try simp (disch := omega) only [go_sem, ↓reduceIte, Nat.reduceEqDiff, reduceCtorEq, Nat.reduceAdd, Nat.reduceLeDiff, Nat.reduceMul, Int.reduceNeg, Int.reduceLT, Int.reduceAdd, Int.reduceSub, hcl]
  intro g0_0 hg0_0
  refine hK1 _ ?_
  refine vc_seq fun K2 hK2 => ?_
  refine vc_seq fun K3 hK3 => ?_
  refine vc_reg ?_
  try simp (disch := omega) only [go_sem, ↓reduceIte, Nat.reduceEqDiff, reduceCtorEq, Nat.reduceAdd, Nat.reduceLeDiff, Nat.reduceMul, Int.reduceNeg, Int.reduceLT, Int.reduceAdd, Int.reduceSub, hcl]
  refine hK3 _ ?_
  refine vc_block ?_
  refine vc_loop (fun m s => ∃ (n : Nat), (m = us.length - n) ∧ (s.σ = [.row g0_0 0 1 1 [[V.t (.sl g cs)]]]) ∧ (s.env 1 = .t (.str s1)) ∧ (s.env 2 = .ptr 0 0 0 0) ∧ (s.env 5 = .t (.int .i64 n)) ∧ (n ≤ us.length) ∧ (Pg.cn s1 us = Pg.cn s1 (us.drop n))) (us.length - 0) ⟨0, rfl, (by first | rfl | simp), (by first | rfl | assumption), (by first | rfl | assumption), (by first | rfl | assumption), (by first | rfl | omega | simp), (by first | rfl | omega | simp)⟩ ?_
  rintro m ⟨e, σ, h⟩ ⟨n, hm, hσ, e1, e2, e5, hn, hx⟩ K4 hK4
  simp only at hσ e1 e2 e5
  subst hσ
  refine vc_seq fun K5 hK5 => ?_
  refine vc_seq fun K6 hK6 => ?_
  refine vc_reg ?_
  try simp (disch := omega) only [go_sem, ↓reduceIte, Nat.reduceEqDiff, reduceCtorEq, Nat.reduceAdd, Nat.reduceLeDiff, Nat.reduceMul, Int.reduceNeg, Int.reduceLT, Int.reduceAdd, Int.reduceSub, e1, e2, e5, hcl]
  refine hK6 _ ?_
  refine vc_cond (t := _) rfl (fun hc1 => ?_) (fun hc1 => ?_)
  · (try simp only [go_sem] at hc1)
    refine vc_skip ?_
    refine hK5 _ ?_
    refine vc_seq fun K7 hK7 => ?_
    refine vc_block ?_
    refine vc_seq fun K8 hK8 => ?_
    refine vc_seq fun K9 hK9 => ?_
    have hlt : n < us.length := by omega
    obtain ⟨cc, hcc, hrc⟩ := Rl.get ha (n := n) (hlt)
    obtain ⟨gac_, gbc_, kc_, nc_, gc_, csc_, rfl, hvc_⟩ := Ru.cells hrc
    have hwm := wl_mem (f := Ru.wt) (List.getElem_mem hlt)
    rw [Ru.wt] at hwm
    refine vc_reg ?_
    refine vcX_cut 9 fun K10 hK10 => ?_
    try simp (disch := omega) only [go_sem, ↓reduceIte, Nat.reduceEqDiff, reduceCtorEq, Nat.reduceAdd, Nat.reduceLeDiff, Nat.reduceMul, Int.reduceNeg, Int.reduceLT, Int.reduceAdd, Int.reduceSub, e1, e2, e5, hcl, hcc]
    refine hK10 _ ?_
    refine vcX_bool (fun hb4_8 => ?_) (fun hb4_8 => ?_)
    · (try simp only [go_sem] at hb4_8)
      try simp (disch := omega) only [go_sem, ↓reduceIte, Nat.reduceEqDiff, reduceCtorEq, Nat.reduceAdd, Nat.reduceLeDiff, Nat.reduceMul, Int.reduceNeg, Int.reduceLT, Int.reduceAdd, Int.reduceSub, e1, e2, e5, hcl, hcc]
      refine hK9 _ ?_
      refine vc_cond (t := _) rfl (fun hc2 => ?_) (fun hc2 => ?_)
      · (try simp only [go_sem] at hc2)
        refine vc_seq fun K12 hK12 => ?_
        refine vc_reg ?_
        try simp (disch := omega) only [go_sem, ↓reduceIte, Nat.reduceEqDiff, reduceCtorEq, Nat.reduceAdd, Nat.reduceLeDiff, Nat.reduceMul, Int.reduceNeg, Int.reduceLT, Int.reduceAdd, Int.reduceSub, e1, e2, e5, hcl, hcc]
        refine hK12 _ ?_
        refine vc_ret ?_
        refine ⟨_, by first | rfl | (simp only [go_sem, resQ, List.mapM_cons, List.mapM_nil, ↓reduceIte, Nat.reduceEqDiff, Nat.reduceAdd, Nat.reduceLeDiff, reduceCtorEq]; rfl), [], [], .nil, by simp, by simp, fun hi_ h1_ => ⟨?_, rfl, rfl⟩, by simp⟩
        first
        | (have hx2 : Pg.cn s1 us = us[n].vs.length := by rw [hx, Pg.cn_drop (by omega), if_pos (by simp_all)]
           rw [hx2]; rfl)
        | (have hx2 : Pg.cn s1 us = E.cn s1 us[n].bd := by rw [hx, Pg.cn_drop (by omega), if_neg (by simp_all), if_pos (by omega)]
           rw [hx2]; rfl)
        | (have hx2 : Pg.cn s1 us = -1 := by rw [hx, List.drop_of_length_le (by omega), Pg.cn]
           rw [hx2]; rfl)
      · (try simp only [go_sem] at hc2)
        refine vc_skip ?_
        refine hK8 _ ?_
        refine vc_seq fun K13 hK13 => ?_
        refine vc_reg ?_
        try simp (disch := omega) only [go_sem, ↓reduceIte, Nat.reduceEqDiff, reduceCtorEq, Nat.reduceAdd, Nat.reduceLeDiff, Nat.reduceMul, Int.reduceNeg, Int.reduceLT, Int.reduceAdd, Int.reduceSub, e1, e2, e5, hcl, hcc]
        refine vcX_call _ _ (spec_l5Con us[n].bd _ hvc_ (by omega) s1) rfl rfl (by first | rfl | simp [V.pures, V.pure, V.pures_t]) ?_
        rintro r6_7 h6_7 hh6_7 rfl -
        try simp (disch := omega) only [go_sem, ↓reduceIte, Nat.reduceEqDiff, reduceCtorEq, Nat.reduceAdd, Nat.reduceLeDiff, Nat.reduceMul, Int.reduceNeg, Int.reduceLT, Int.reduceAdd, Int.reduceSub, e1, e2, e5, hcl, hcc]
        refine hK13 _ ?_
        refine vc_seq fun K14 hK14 => ?_
        refine vc_reg ?_
        try simp (disch := omega) only [go_sem, ↓reduceIte, Nat.reduceEqDiff, reduceCtorEq, Nat.reduceAdd, Nat.reduceLeDiff, Nat.reduceMul, Int.reduceNeg, Int.reduceLT, Int.reduceAdd, Int.reduceSub, e1, e2, e5, hcl]
        refine hK14 _ ?_
        refine vc_cond (t := _) rfl (fun hc3 => ?_) (fun hc3 => ?_)
        · (try simp only [go_sem] at hc3)
          refine vc_seq fun K15 hK15 => ?_
          refine vc_reg ?_
          try simp (disch := omega) only [go_sem, ↓reduceIte, Nat.reduceEqDiff, reduceCtorEq, Nat.reduceAdd, Nat.reduceLeDiff, Nat.reduceMul, Int.reduceNeg, Int.reduceLT, Int.reduceAdd, Int.reduceSub, e1, e2, e5, hcl]
          refine hK15 _ ?_
          refine vc_ret ?_
          refine ⟨_, by first | rfl | (simp only [go_sem, resQ, List.mapM_cons, List.mapM_nil, ↓reduceIte, Nat.reduceEqDiff, Nat.reduceAdd, Nat.reduceLeDiff, reduceCtorEq]; rfl), [], [], .nil, by simp, by simp, fun hi_ h1_ => ⟨?_, rfl, rfl⟩, by simp⟩
          first
          | (have hx2 : Pg.cn s1 us = us[n].vs.length := by rw [hx, Pg.cn_drop (by omega), if_pos (by simp_all)]
             rw [hx2]; rfl)
          | (have hx2 : Pg.cn s1 us = E.cn s1 us[n].bd := by rw [hx, Pg.cn_drop (by omega), if_neg (by simp_all), if_pos (by omega)]
             rw [hx2]; rfl)
          | (have hx2 : Pg.cn s1 us = -1 := by rw [hx, List.drop_of_length_le (by omega), Pg.cn]
             rw [hx2]; rfl)
        · (try simp only [go_sem] at hc3)
          refine vc_skip ?_
          refine hK7 _ ?_
          refine vc_reg ?_
          try simp (disch := omega) only [go_sem, ↓reduceIte, Nat.reduceEqDiff, reduceCtorEq, Nat.reduceAdd, Nat.reduceLeDiff, Nat.reduceMul, Int.reduceNeg, Int.reduceLT, Int.reduceAdd, Int.reduceSub, e1, e2, e5, hcl]
          refine hK4 _ _ ?_ ⟨n + 1, rfl, (by first | rfl | simp), (by first | rfl | assumption), (by first | rfl | assumption), (by first | rfl | assumption), ?_, ?_⟩
          · omega
          · first | omega | assumption | rfl | simp_all
          · rw [hx, Pg.cn_drop (by omega), if_neg (by simp_all), if_neg (by omega)]
    · (try simp only [go_sem] at hb4_8)
      try simp (disch := omega) only [go_sem, ↓reduceIte, Nat.reduceEqDiff, reduceCtorEq, Nat.reduceAdd, Nat.reduceLeDiff, Nat.reduceMul, Int.reduceNeg, Int.reduceLT, Int.reduceAdd, Int.reduceSub, e1, e2, e5, hcl, hcc]
      refine hK9 _ ?_
      refine vc_cond (t := _) rfl (fun hc4 => ?_) (fun hc4 => ?_)
      · exact absurd hc4 (by simp)
      · (try simp only [go_sem] at hc4)
        refine vc_skip ?_
        refine hK8 _ ?_
        refine vc_seq fun K16 hK16 => ?_
        refine vc_reg ?_
        try simp (disch := omega) only [go_sem, ↓reduceIte, Nat.reduceEqDiff, reduceCtorEq, Nat.reduceAdd, Nat.reduceLeDiff, Nat.reduceMul, Int.reduceNeg, Int.reduceLT, Int.reduceAdd, Int.reduceSub, e1, e2, e5, hcl, hcc]
        refine vcX_call _ _ (spec_l5Con us[n].bd _ hvc_ (by omega) s1) rfl rfl (by first | rfl | simp [V.pures, V.pure, V.pures_t]) ?_
        rintro r6_7 h6_7 hh6_7 rfl -
        try simp (disch := omega) only [go_sem, ↓reduceIte, Nat.reduceEqDiff, reduceCtorEq, Nat.reduceAdd, Nat.reduceLeDiff, Nat.reduceMul, Int.reduceNeg, Int.reduceLT, Int.reduceAdd, Int.reduceSub, e1, e2, e5, hcl, hcc]
        refine hK16 _ ?_
        refine vc_seq fun K17 hK17 => ?_
        refine vc_reg ?_
        try simp (disch := omega) only [go_sem, ↓reduceIte, Nat.reduceEqDiff, reduceCtorEq, Nat.reduceAdd, Nat.reduceLeDiff, Nat.reduceMul, Int.reduceNeg, Int.reduceLT, Int.reduceAdd, Int.reduceSub, e1, e2, e5, hcl]
        refine hK17 _ ?_
        refine vc_cond (t := _) rfl (fun hc5 => ?_) (fun hc5 => ?_)
        · (try simp only [go_sem] at hc5)
          refine vc_seq fun K18 hK18 => ?_
          refine vc_reg ?_
          try simp (disch := omega) only [go_sem, ↓reduceIte, Nat.reduceEqDiff, reduceCtorEq, Nat.reduceAdd, Nat.reduceLeDiff, Nat.reduceMul, Int.reduceNeg, Int.reduceLT, Int.reduceAdd, Int.reduceSub, e1, e2, e5, hcl]
          refine hK18 _ ?_
          refine vc_ret ?_
          refine ⟨_, by first | rfl | (simp only [go_sem, resQ, List.mapM_cons, List.mapM_nil, ↓reduceIte, Nat.reduceEqDiff, Nat.reduceAdd, Nat.reduceLeDiff, reduceCtorEq]; rfl), [], [], .nil, by simp, by simp, fun hi_ h1_ => ⟨?_, rfl, rfl⟩, by simp⟩
          first
          | (have hx2 : Pg.cn s1 us = us[n].vs.length := by rw [hx, Pg.cn_drop (by omega), if_pos (by simp_all)]
             rw [hx2]; rfl)
          | (have hx2 : Pg.cn s1 us = E.cn s1 us[n].bd := by rw [hx, Pg.cn_drop (by omega), if_neg (by simp_all), if_pos (by omega)]
             rw [hx2]; rfl)
          | (have hx2 : Pg.cn s1 us = -1 := by rw [hx, List.drop_of_length_le (by omega), Pg.cn]
             rw [hx2]; rfl)
        · (try simp only [go_sem] at hc5)
          refine vc_skip ?_
          refine hK7 _ ?_
          refine vc_reg ?_
          try simp (disch := omega) only [go_sem, ↓reduceIte, Nat.reduceEqDiff, reduceCtorEq, Nat.reduceAdd, Nat.reduceLeDiff, Nat.reduceMul, Int.reduceNeg, Int.reduceLT, Int.reduceAdd, Int.reduceSub, e1, e2, e5, hcl]
          refine hK4 _ _ ?_ ⟨n + 1, rfl, (by first | rfl | simp), (by first | rfl | assumption), (by first | rfl | assumption), (by first | rfl | assumption), ?_, ?_⟩
          · omega
          · first | omega | assumption | rfl | simp_all
          · rw [hx, Pg.cn_drop (by omega), if_neg (by simp_all), if_neg (by omega)]
  · (try simp only [go_sem] at hc1)
    refine vc_exit ?_
    refine hK2 _ ?_
    refine vc_seq fun K19 hK19 => ?_
    refine vc_reg ?_
    try simp (disch := omega) only [go_sem, ↓reduceIte, Nat.reduceEqDiff, reduceCtorEq, Nat.reduceAdd, Nat.reduceLeDiff, Nat.reduceMul, Int.reduceNeg, Int.reduceLT, Int.reduceAdd, Int.reduceSub, e1, e2, e5, hcl]
    refine hK19 _ ?_
    refine vc_ret ?_
    refine ⟨_, by first | rfl | (simp only [go_sem, resQ, List.mapM_cons, List.mapM_nil, ↓reduceIte, Nat.reduceEqDiff, Nat.reduceAdd, Nat.reduceLeDiff, reduceCtorEq]; rfl), [], [], .nil, by simp, by simp, fun hi_ h1_ => ⟨?_, rfl, rfl⟩, by simp⟩
    first
    | (have hx2 : Pg.cn s1 us = us[n].vs.length := by rw [hx, Pg.cn_drop (by omega), if_pos (by simp_all)]
       rw [hx2]; rfl)
    | (have hx2 : Pg.cn s1 us = E.cn s1 us[n].bd := by rw [hx, Pg.cn_drop (by omega), if_neg (by simp_all), if_pos (by omega)]
       rw [hx2]; rfl)
    | (have hx2 : Pg.cn s1 us = -1 := by rw [hx, List.drop_of_length_le (by omega), Pg.cn]
       rw [hx2]; rfl)
end Go.Proofs.YtldhhppfnhgcdaaGreat
