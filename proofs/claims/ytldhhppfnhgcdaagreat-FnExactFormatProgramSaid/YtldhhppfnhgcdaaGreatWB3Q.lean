/- Walks through the code: each function's contract. -/
import Derived.Test.YtldhhppfnhgcdaaGreatWB2Q
import Derived.Test.YtldhhppfnhgcdaaGreatWHQ
set_option linter.unusedVariables false
set_option linter.unusedSimpArgs false
set_option maxRecDepth 8000
namespace Go.Proofs.YtldhhppfnhgcdaaGreat
open Go Go.VL

end Go.Proofs.YtldhhppfnhgcdaaGreat
namespace Go.VL
mutual
/-- All nodes of a term, a node ahead of its arguments. -/
def E.nd : E → List E
  | .mk k n us => .mk k n us :: E.ndL us
def E.ndL : List E → List E
  | [] => []
  | e :: l => E.nd e ++ E.ndL l
end
mutual
/-- Have all nodes a property? -/
def E.al (p : E → Bool) : E → Bool
  | .mk k n us => p (.mk k n us) && E.alL p us
def E.alL (p : E → Bool) : List E → Bool
  | [] => true
  | e :: l => E.al p e && E.alL p l
end
theorem E.alL_drop {p : E → Bool} {l : List E} {n : Nat} (h : n < l.length) : E.alL p (l.drop n) = (E.al p l[n] && E.alL p (l.drop (n + 1))) := by rw [drop_get h, E.alL]
theorem E.al_congr {p q : E → Bool} : ∀ e : E, (∀ x ∈ E.nd e, p x = q x) → E.al p e = E.al q e := by
  intro e
  induction e using E.ind with
  | h k n us ih =>
    intro h
    have : ∀ l : List E, (∀ a ∈ l, (∀ x ∈ E.nd a, p x = q x) → E.al p a = E.al q a) → (∀ x ∈ E.ndL l, p x = q x) → E.alL p l = E.alL q l := by
      intro l
      induction l with
      | nil => exact fun _ _ => rfl
      | cons a l ihl =>
        intro h1 h2
        rw [E.ndL] at h2
        rw [E.alL, E.alL, h1 a List.mem_cons_self (fun x hx => h2 x (List.mem_append_left _ hx)), ihl (fun b hb => h1 b (List.mem_cons_of_mem _ hb)) (fun x hx => h2 x (List.mem_append_right _ hx))]
    rw [E.nd] at h
    rw [E.al, E.al, h _ List.mem_cons_self, this us ih (fun x hx => h x (List.mem_cons_of_mem _ hx))]
theorem foG_al (p : E → Bool) : ∀ (e : E) (b : Bool), E.foG (fun x b => b && p x) e b = (b && E.al p e) := by
  intro e
  induction e using E.ind with
  | h k n us ih =>
    intro b
    have : ∀ l : List E, (∀ a ∈ l, ∀ b, E.foG (fun x b => b && p x) a b = (b && E.al p a)) → ∀ b, E.foGL (fun x b => b && p x) l b = (b && E.alL p l) := by
      intro l
      induction l with
      | nil => exact fun _ b => by rw [E.foGL, E.alL, Bool.and_true]
      | cons a l ihl => exact fun h b => by rw [E.foGL, h a List.mem_cons_self, ihl (fun x hx => h x (List.mem_cons_of_mem _ hx)), E.alL, Bool.and_assoc]
    rw [E.foG, this us ih, E.al, Bool.and_assoc]
theorem E.cn_nd : ∀ e : E, ∀ x ∈ E.nd e, x.kind = 2 → 0 ≤ E.cn x.name e := by
  intro e
  induction e using E.ind with
  | h k n us ih =>
    intro x hx hk
    have hL : ∀ l : List E, (∀ a ∈ l, ∀ x ∈ E.nd a, x.kind = 2 → 0 ≤ E.cn x.name a) → x ∈ E.ndL l → 0 ≤ E.cnL x.name l := by
      intro l
      induction l with
      | nil => exact fun _ h => by rw [E.ndL] at h; cases h
      | cons a l ihl =>
        intro h1 h2
        rw [E.ndL] at h2
        by_cases h0 : 0 ≤ E.cn x.name a
        · have h3 : E.cnL x.name (a :: l) = E.cn x.name a := by rw [E.cnL, if_pos h0]
          rw [h3]; exact h0
        · have h3 : E.cnL x.name (a :: l) = E.cnL x.name l := by rw [E.cnL, if_neg h0]
          rw [h3]
          rcases List.mem_append.1 h2 with h4 | h4
          · exact absurd (h1 a List.mem_cons_self x h4 hk) h0
          · exact ihl (fun b hb => h1 b (List.mem_cons_of_mem _ hb)) h4
    by_cases hc : k = 2 ∧ n = x.name
    · have h3 : E.cn x.name (.mk k n us) = us.length := by rw [E.cn, if_pos hc]
      rw [h3]; omega
    · have h3 : E.cn x.name (.mk k n us) = E.cnL x.name us := by rw [E.cn, if_neg hc]
      rw [h3]
      rw [E.nd] at hx
      rcases List.mem_cons.1 hx with h4 | h4
      · subst h4
        exact absurd ⟨hk, rfl⟩ hc
      · exact hL us ih h4

end Go.VL
namespace Go.Proofs.YtldhhppfnhgcdaaGreat
open Go Go.VL

/-- Has a node the right number of arguments? The program's way, and the reference's. -/
def fitI (us : List Ru) (ms own : List (ByteArray × Int)) (x : E) : Bool :=
  if x.kind = 3 then arity us x.name == (x.args.length : Int) else if x.kind = 2 then (lk x.name ms).getD ((lk x.name own).getD 0) == (x.args.length : Int) else true
def fitS (us : List Ru) (al : E) (x : E) : Bool :=
  if x.kind = 3 then (x.args.length : Int) == arity us x.name else if x.kind = 2 then (x.args.length : Int) == (if Pg.cn x.name us < 0 then E.cn x.name al else Pg.cn x.name us) else true
theorem fit_eq (us : List Ru) (e : E) : E.al (fitI us (arP us []) (E.foG arStep e [])) e = E.al (fitS us e) e := by
  refine E.al_congr e fun x hx => ?_
  unfold fitI fitS
  have hbc : ∀ a b : Int, (a == b) = (b == a) := fun a b => by rw [Bool.eq_iff_iff]; simp only [beq_iff_eq]; omega
  by_cases h3 : x.kind = 3
  · rw [if_pos h3, if_pos h3, hbc]
  · rw [if_neg h3, if_neg h3]
    by_cases h2 : x.kind = 2
    · rw [if_pos h2, if_pos h2, hbc]
      congr 1
      have h4 := E.cn_nd e x hx h2
      have hl0 : ∀ b : ByteArray, lk b [] = none := fun _ => rfl
      rw [lk_arP, lk_foG, hl0, Option.none_or, Option.none_or]
      by_cases h5 : Pg.cn x.name us < 0
      · rw [if_pos h5, toO, if_neg (by omega), toO, if_pos h4]; rfl
      · rw [if_neg h5, toO, if_pos (by omega)]; rfl
    · rw [if_neg h2, if_neg h2]
theorem shut7 {g0 g1 g2 g3 g4 g5 g6 gp ge : Nat} {cp ce : List (List T)} {ke : Int} {ne : ByteArray} {ms own : List (ByteArray × Int)} {b : Bool} : shuts 7 [.map g0 (mE ms), .row g1 0 1 1 [[.t (.sl gp cp)]], .row g2 0 1 1 [[.map 0]], .row g3 0 3 3 [[.t (.int .i64 ke), .t (.str ne), .t (.sl ge ce)]], .map g4 (mE own), .row g5 0 1 1 [[.map 4]], .row g6 0 1 1 [[.t (.bool b)]]] :=
  shuts_cons shut_mE (shuts_cons shut_cell (shuts_cons (shut_map (by omega)) (shuts_cons (shut_t (ts := [[.int .i64 ke, .str ne, .sl ge ce]])) (shuts_cons shut_mE (shuts_cons (shut_map (by omega)) (shuts_cons shut_cell shuts_nil))))))
theorem le7 {g0 g1 g2 g3 g4 g5 g6 gp ge : Nat} {cp ce : List (List T)} {ke : Int} {ne : ByteArray} {ms own : List (ByteArray × Int)} {b b' : Bool} : leO [.map g0 (mE ms), .row g1 0 1 1 [[.t (.sl gp cp)]], .row g2 0 1 1 [[.map 0]], .row g3 0 3 3 [[.t (.int .i64 ke), .t (.str ne), .t (.sl ge ce)]], .map g4 (mE own), .row g5 0 1 1 [[.map 4]], .row g6 0 1 1 [[.t (.bool b)]]]
    [.map g0 (mE ms), .row g1 0 1 1 [[.t (.sl gp cp)]], .row g2 0 1 1 [[.map 0]], .row g3 0 3 3 [[.t (.int .i64 ke), .t (.str ne), .t (.sl ge ce)]], .map g4 (mE own), .row g5 0 1 1 [[.map 4]], .row g6 0 1 1 [[.t (.bool b')]]] :=
  leO_cons (Ob.le_refl _) (leO_cons (Ob.le_refl _) (leO_cons (Ob.le_refl _) (leO_cons (Ob.le_refl _) (leO_cons (Ob.le_refl _) (leO_cons (Ob.le_refl _) (leO_cons (by simp [Ob.le]) leO_nil))))))

/-- impl.fits$1 -/
theorem impl_fits_1 (g0 g1 g2 g3 g4 g5 g6 gp ge : Nat) (cp ce : List (List T)) (ke : Int) (ne : ByteArray) (us : List Ru) (ms own : List (ByteArray × Int)) (hp : Pg.rep us [.sl gp cp]) (hw : wl Ru.wt us ≤ 1048576) (x : E) (c : List T) (hc : x.rep c) (hwx : x.wt ≤ 1048576) (b : Bool) : Ctr Tryz.prog 58 [.agg (c.map .t), .ptr 6 0 0 0, .ptr 1 0 0 0, .ptr 2 0 0 0, .ptr 5 0 0 0] [.map g0 (mE ms), .row g1 0 1 1 [[.t (.sl gp cp)]], .row g2 0 1 1 [[.map 0]], .row g3 0 3 3 [[.t (.int .i64 ke), .t (.str ne), .t (.sl ge ce)]], .map g4 (mE (own)), .row g5 0 1 1 [[.map 4]], .row g6 0 1 1 [[.t (.bool (b))]]] (fun _ _ r' σ' => r' = .tup [] ∧ (σ' = [.map g0 (mE ms), .row g1 0 1 1 [[.t (.sl gp cp)]], .row g2 0 1 1 [[.map 0]], .row g3 0 3 3 [[.t (.int .i64 ke), .t (.str ne), .t (.sl ge ce)]], .map g4 (mE (own)), .row g5 0 1 1 [[.map 4]], .row g6 0 1 1 [[.t (.bool (b && fitI us ms own x))]]] ∧ leO [.map g0 (mE ms), .row g1 0 1 1 [[.t (.sl gp cp)]], .row g2 0 1 1 [[.map 0]], .row g3 0 3 3 [[.t (.int .i64 ke), .t (.str ne), .t (.sl ge ce)]], .map g4 (mE (own)), .row g5 0 1 1 [[.map 4]], .row g6 0 1 1 [[.t (.bool (b))]]] σ')) := by
  obtain ⟨k, nm, vs⟩ := x
  obtain ⟨g, cs, rfl, ha⟩ := E.rep_mk hc
  have hcl := E.repL_len ha
  rw [E.wt] at hwx
  have hwl := E.wtL_len vs
  refine Ctr.of_vc (rs := []) (fn := Tryz.f58) mixed Tryz.func58 rfl rfl (by kernel_rfl) (by kernel_rfl) (by simp [Tryz.ntmps58]) (fun h0 => ?_)
  refine vc_seq fun K1 hK1 => ?_
  refine vc_reg ?_
  try simp (disch := omega) only [go_sem, ↓reduceIte, Nat.reduceEqDiff, reduceCtorEq, Nat.reduceAdd, Nat.reduceLeDiff, Nat.reduceMul, Int.reduceNeg, Int.reduceLT, Int.reduceAdd, Int.reduceSub, hcl]
  intro g0_0 hg0_0
  refine hK1 _ ?_
  refine vc_seq fun K2 hK2 => ?_
  refine vc_reg ?_
  try simp (disch := omega) only [go_sem, ↓reduceIte, Nat.reduceEqDiff, reduceCtorEq, Nat.reduceAdd, Nat.reduceLeDiff, Nat.reduceMul, Int.reduceNeg, Int.reduceLT, Int.reduceAdd, Int.reduceSub, hcl]
  refine hK2 _ ?_
  refine vc_block ?_
  refine vc_seq fun K3 hK3 => ?_
  refine vc_reg ?_
  try simp (disch := omega) only [go_sem, ↓reduceIte, Nat.reduceEqDiff, reduceCtorEq, Nat.reduceAdd, Nat.reduceLeDiff, Nat.reduceMul, Int.reduceNeg, Int.reduceLT, Int.reduceAdd, Int.reduceSub, hcl]
  refine hK3 _ ?_
  refine vc_cond (t := _) rfl (fun hc1 => ?_) (fun hc1 => ?_)
  · (try simp only [go_sem] at hc1)
    refine vc_regD [(0, false), (1, false), (2, false), (3, false), (4, false), (6, false), (7, false), (8, false), (5, false), (9, false), (10, false), (11, true)] (by kernel_rfl) ?_
    refine vcX_cut 2 fun K4 hK4 => ?_
    try simp (disch := omega) only [go_sem, ↓reduceIte, Nat.reduceEqDiff, reduceCtorEq, Nat.reduceAdd, Nat.reduceLeDiff, Nat.reduceMul, Int.reduceNeg, Int.reduceLT, Int.reduceAdd, Int.reduceSub, hcl]
    refine hK4 _ ?_
    refine vcX_bool (fun hb3_1 => ?_) (fun hb3_1 => ?_)
    · (try simp only [go_sem] at hb3_1)
      try simp (disch := omega) only [go_sem, ↓reduceIte, Nat.reduceEqDiff, reduceCtorEq, Nat.reduceAdd, Nat.reduceLeDiff, Nat.reduceMul, Int.reduceNeg, Int.reduceLT, Int.reduceAdd, Int.reduceSub, hcl]
      refine vcX_call _ _ (impl_FunctionArity us [.sl gp cp] hp hw nm) rfl rfl (by first | rfl | simp [V.pures, V.pure, V.pures_t]) ?_
      rintro r3_5 h3_5 hh3_5 rfl -
      try simp (disch := omega) only [go_sem, ↓reduceIte, Nat.reduceEqDiff, reduceCtorEq, Nat.reduceAdd, Nat.reduceLeDiff, Nat.reduceMul, Int.reduceNeg, Int.reduceLT, Int.reduceAdd, Int.reduceSub, hcl]
      have hst : (b && fitI us ms own (.mk k nm vs)) = (arity us nm == (vs.length : Int)) := by
        rw [hb3_1, Bool.true_and, fitI, if_pos (show (E.mk k nm vs).kind = 3 from (by simpa using hc1 : k = 3))]; rfl
      simp only [hst]
      have hlo : locObs ([.map g0 (mE ms), .row g1 0 1 1 [[.t (.sl gp cp)]], .row g2 0 1 1 [[.map 0]], .row g3 0 3 3 [[.t (.int .i64 ke), .t (.str ne), .t (.sl ge ce)]], .map g4 (mE (own)), .row g5 0 1 1 [[.map 4]], .row g6 0 1 1 [[.t (.bool (arity us nm == (vs.length : Int)))]]] ++ [.row g0_0 0 3 3 [[.t (.int .i64 k), .t (.str nm), .t (.sl g cs)]]]) (List.range 7) [] = [.map g0 (mE ms), .row g1 0 1 1 [[.t (.sl gp cp)]], .row g2 0 1 1 [[.map 0]], .row g3 0 3 3 [[.t (.int .i64 ke), .t (.str ne), .t (.sl ge ce)]], .map g4 (mE (own)), .row g5 0 1 1 [[.map 4]], .row g6 0 1 1 [[.t (.bool (arity us nm == (vs.length : Int)))]]] := locObs_all rfl shut7
      refine ⟨_, rfl, List.range 7, [], List.nodup_range, (fun r hr => by have := List.mem_range.1 hr; show r < 8; omega), (fun r _ hr => by cases hr), fun hi_ h1_ => ⟨rfl, hlo, ?_⟩, ?_⟩
      · exact (show leO _ (locObs ([.map g0 (mE ms), .row g1 0 1 1 [[.t (.sl gp cp)]], .row g2 0 1 1 [[.map 0]], .row g3 0 3 3 [[.t (.int .i64 ke), .t (.str ne), .t (.sl ge ce)]], .map g4 (mE (own)), .row g5 0 1 1 [[.map 4]], .row g6 0 1 1 [[.t (.bool (arity us nm == (vs.length : Int)))]]] ++ [.row g0_0 0 3 3 [[.t (.int .i64 k), .t (.str nm), .t (.sl g cs)]]]) (List.range 7) []) by rw [hlo]; exact le7)
      · exact (show leO _ (locObs ([.map g0 (mE ms), .row g1 0 1 1 [[.t (.sl gp cp)]], .row g2 0 1 1 [[.map 0]], .row g3 0 3 3 [[.t (.int .i64 ke), .t (.str ne), .t (.sl ge ce)]], .map g4 (mE (own)), .row g5 0 1 1 [[.map 4]], .row g6 0 1 1 [[.t (.bool (arity us nm == (vs.length : Int)))]]] ++ [.row g0_0 0 3 3 [[.t (.int .i64 k), .t (.str nm), .t (.sl g cs)]]]) (List.range 7) []) by rw [hlo]; exact le7)
    · (try simp only [go_sem] at hb3_1)
      try simp (disch := omega) only [go_sem, ↓reduceIte, Nat.reduceEqDiff, reduceCtorEq, Nat.reduceAdd, Nat.reduceLeDiff, Nat.reduceMul, Int.reduceNeg, Int.reduceLT, Int.reduceAdd, Int.reduceSub, hcl]
      have hst : (b && fitI us ms own (.mk k nm vs)) = (false) := by
        rw [hb3_1, Bool.false_and]
      simp only [hst]
      have hlo : locObs ([.map g0 (mE ms), .row g1 0 1 1 [[.t (.sl gp cp)]], .row g2 0 1 1 [[.map 0]], .row g3 0 3 3 [[.t (.int .i64 ke), .t (.str ne), .t (.sl ge ce)]], .map g4 (mE (own)), .row g5 0 1 1 [[.map 4]], .row g6 0 1 1 [[.t (.bool (false))]]] ++ [.row g0_0 0 3 3 [[.t (.int .i64 k), .t (.str nm), .t (.sl g cs)]]]) (List.range 7) [] = [.map g0 (mE ms), .row g1 0 1 1 [[.t (.sl gp cp)]], .row g2 0 1 1 [[.map 0]], .row g3 0 3 3 [[.t (.int .i64 ke), .t (.str ne), .t (.sl ge ce)]], .map g4 (mE (own)), .row g5 0 1 1 [[.map 4]], .row g6 0 1 1 [[.t (.bool (false))]]] := locObs_all rfl shut7
      refine ⟨_, rfl, List.range 7, [], List.nodup_range, (fun r hr => by have := List.mem_range.1 hr; show r < 8; omega), (fun r _ hr => by cases hr), fun hi_ h1_ => ⟨rfl, hlo, ?_⟩, ?_⟩
      · exact (show leO _ (locObs ([.map g0 (mE ms), .row g1 0 1 1 [[.t (.sl gp cp)]], .row g2 0 1 1 [[.map 0]], .row g3 0 3 3 [[.t (.int .i64 ke), .t (.str ne), .t (.sl ge ce)]], .map g4 (mE (own)), .row g5 0 1 1 [[.map 4]], .row g6 0 1 1 [[.t (.bool (false))]]] ++ [.row g0_0 0 3 3 [[.t (.int .i64 k), .t (.str nm), .t (.sl g cs)]]]) (List.range 7) []) by rw [hlo]; exact le7)
      · exact (show leO _ (locObs ([.map g0 (mE ms), .row g1 0 1 1 [[.t (.sl gp cp)]], .row g2 0 1 1 [[.map 0]], .row g3 0 3 3 [[.t (.int .i64 ke), .t (.str ne), .t (.sl ge ce)]], .map g4 (mE (own)), .row g5 0 1 1 [[.map 4]], .row g6 0 1 1 [[.t (.bool (false))]]] ++ [.row g0_0 0 3 3 [[.t (.int .i64 k), .t (.str nm), .t (.sl g cs)]]]) (List.range 7) []) by rw [hlo]; exact le7)
  · (try simp only [go_sem] at hc1)
    refine vc_seq fun K6 hK6 => ?_
    refine vc_reg ?_
    try simp (disch := omega) only [go_sem, ↓reduceIte, Nat.reduceEqDiff, reduceCtorEq, Nat.reduceAdd, Nat.reduceLeDiff, Nat.reduceMul, Int.reduceNeg, Int.reduceLT, Int.reduceAdd, Int.reduceSub, hcl]
    refine hK6 _ ?_
    refine vc_cond (t := _) rfl (fun hc2 => ?_) (fun hc2 => ?_)
    · (try simp only [go_sem] at hc2)
      refine vc_seq fun K7 hK7 => ?_
      refine vc_reg ?_
      try simp (disch := omega) only [go_sem, ↓reduceIte, Nat.reduceEqDiff, reduceCtorEq, Nat.reduceAdd, Nat.reduceLeDiff, Nat.reduceMul, Int.reduceNeg, Int.reduceLT, Int.reduceAdd, Int.reduceSub, hcl]
      refine hK7 _ ?_
      refine vc_seq fun K8 hK8 => ?_
      refine vc_seq fun K9 hK9 => ?_
      refine vc_reg ?_
      try simp (disch := omega) only [go_sem, ↓reduceIte, Nat.reduceEqDiff, reduceCtorEq, Nat.reduceAdd, Nat.reduceLeDiff, Nat.reduceMul, Int.reduceNeg, Int.reduceLT, Int.reduceAdd, Int.reduceSub, hcl]
      refine hK9 _ ?_
      refine vc_cond (t := _) rfl (fun hc3 => ?_) (fun hc3 => ?_)
      · (try simp only [go_sem] at hc3)
        refine vc_reg ?_
        try simp (disch := omega) only [go_sem, ↓reduceIte, Nat.reduceEqDiff, reduceCtorEq, Nat.reduceAdd, Nat.reduceLeDiff, Nat.reduceMul, Int.reduceNeg, Int.reduceLT, Int.reduceAdd, Int.reduceSub, hcl]
        refine hK8 _ ?_
        refine vc_reg ?_
        refine vcX_cut 2 fun K10 hK10 => ?_
        try simp (disch := omega) only [go_sem, ↓reduceIte, Nat.reduceEqDiff, reduceCtorEq, Nat.reduceAdd, Nat.reduceLeDiff, Nat.reduceMul, Int.reduceNeg, Int.reduceLT, Int.reduceAdd, Int.reduceSub, hcl]
        refine hK10 _ ?_
        refine vcX_bool (fun hb8_1 => ?_) (fun hb8_1 => ?_)
        · (try simp only [go_sem] at hb8_1)
          try simp (disch := omega) only [go_sem, ↓reduceIte, Nat.reduceEqDiff, reduceCtorEq, Nat.reduceAdd, Nat.reduceLeDiff, Nat.reduceMul, Int.reduceNeg, Int.reduceLT, Int.reduceAdd, Int.reduceSub, hcl]
          have hst : (b && fitI us ms own (.mk k nm vs)) = ((lk nm own).getD 0 == (vs.length : Int)) := by
            rw [hb8_1, Bool.true_and, fitI, if_neg (show ¬ (E.mk k nm vs).kind = 3 from (by simpa using hc1 : ¬ k = 3)), if_pos (show (E.mk k nm vs).kind = 2 from (by simpa using hc2 : k = 2))]
            show ((lk nm ms).getD ((lk nm own).getD 0) == (vs.length : Int)) = _
            have h9 : lk nm ms = none := by simpa using hc3
            rw [h9]; rfl
          simp only [hst]
          have hlo : locObs ([.map g0 (mE ms), .row g1 0 1 1 [[.t (.sl gp cp)]], .row g2 0 1 1 [[.map 0]], .row g3 0 3 3 [[.t (.int .i64 ke), .t (.str ne), .t (.sl ge ce)]], .map g4 (mE (own)), .row g5 0 1 1 [[.map 4]], .row g6 0 1 1 [[.t (.bool ((lk nm own).getD 0 == (vs.length : Int)))]]] ++ [.row g0_0 0 3 3 [[.t (.int .i64 k), .t (.str nm), .t (.sl g cs)]]]) (List.range 7) [] = [.map g0 (mE ms), .row g1 0 1 1 [[.t (.sl gp cp)]], .row g2 0 1 1 [[.map 0]], .row g3 0 3 3 [[.t (.int .i64 ke), .t (.str ne), .t (.sl ge ce)]], .map g4 (mE (own)), .row g5 0 1 1 [[.map 4]], .row g6 0 1 1 [[.t (.bool ((lk nm own).getD 0 == (vs.length : Int)))]]] := locObs_all rfl shut7
          refine ⟨_, rfl, List.range 7, [], List.nodup_range, (fun r hr => by have := List.mem_range.1 hr; show r < 8; omega), (fun r _ hr => by cases hr), fun hi_ h1_ => ⟨rfl, hlo, ?_⟩, ?_⟩
          · exact (show leO _ (locObs ([.map g0 (mE ms), .row g1 0 1 1 [[.t (.sl gp cp)]], .row g2 0 1 1 [[.map 0]], .row g3 0 3 3 [[.t (.int .i64 ke), .t (.str ne), .t (.sl ge ce)]], .map g4 (mE (own)), .row g5 0 1 1 [[.map 4]], .row g6 0 1 1 [[.t (.bool ((lk nm own).getD 0 == (vs.length : Int)))]]] ++ [.row g0_0 0 3 3 [[.t (.int .i64 k), .t (.str nm), .t (.sl g cs)]]]) (List.range 7) []) by rw [hlo]; exact le7)
          · exact (show leO _ (locObs ([.map g0 (mE ms), .row g1 0 1 1 [[.t (.sl gp cp)]], .row g2 0 1 1 [[.map 0]], .row g3 0 3 3 [[.t (.int .i64 ke), .t (.str ne), .t (.sl ge ce)]], .map g4 (mE (own)), .row g5 0 1 1 [[.map 4]], .row g6 0 1 1 [[.t (.bool ((lk nm own).getD 0 == (vs.length : Int)))]]] ++ [.row g0_0 0 3 3 [[.t (.int .i64 k), .t (.str nm), .t (.sl g cs)]]]) (List.range 7) []) by rw [hlo]; exact le7)
        · (try simp only [go_sem] at hb8_1)
          try simp (disch := omega) only [go_sem, ↓reduceIte, Nat.reduceEqDiff, reduceCtorEq, Nat.reduceAdd, Nat.reduceLeDiff, Nat.reduceMul, Int.reduceNeg, Int.reduceLT, Int.reduceAdd, Int.reduceSub, hcl]
          have hst : (b && fitI us ms own (.mk k nm vs)) = (false) := by
            rw [hb8_1, Bool.false_and]
          simp only [hst]
          have hlo : locObs ([.map g0 (mE ms), .row g1 0 1 1 [[.t (.sl gp cp)]], .row g2 0 1 1 [[.map 0]], .row g3 0 3 3 [[.t (.int .i64 ke), .t (.str ne), .t (.sl ge ce)]], .map g4 (mE (own)), .row g5 0 1 1 [[.map 4]], .row g6 0 1 1 [[.t (.bool (false))]]] ++ [.row g0_0 0 3 3 [[.t (.int .i64 k), .t (.str nm), .t (.sl g cs)]]]) (List.range 7) [] = [.map g0 (mE ms), .row g1 0 1 1 [[.t (.sl gp cp)]], .row g2 0 1 1 [[.map 0]], .row g3 0 3 3 [[.t (.int .i64 ke), .t (.str ne), .t (.sl ge ce)]], .map g4 (mE (own)), .row g5 0 1 1 [[.map 4]], .row g6 0 1 1 [[.t (.bool (false))]]] := locObs_all rfl shut7
          refine ⟨_, rfl, List.range 7, [], List.nodup_range, (fun r hr => by have := List.mem_range.1 hr; show r < 8; omega), (fun r _ hr => by cases hr), fun hi_ h1_ => ⟨rfl, hlo, ?_⟩, ?_⟩
          · exact (show leO _ (locObs ([.map g0 (mE ms), .row g1 0 1 1 [[.t (.sl gp cp)]], .row g2 0 1 1 [[.map 0]], .row g3 0 3 3 [[.t (.int .i64 ke), .t (.str ne), .t (.sl ge ce)]], .map g4 (mE (own)), .row g5 0 1 1 [[.map 4]], .row g6 0 1 1 [[.t (.bool (false))]]] ++ [.row g0_0 0 3 3 [[.t (.int .i64 k), .t (.str nm), .t (.sl g cs)]]]) (List.range 7) []) by rw [hlo]; exact le7)
          · exact (show leO _ (locObs ([.map g0 (mE ms), .row g1 0 1 1 [[.t (.sl gp cp)]], .row g2 0 1 1 [[.map 0]], .row g3 0 3 3 [[.t (.int .i64 ke), .t (.str ne), .t (.sl ge ce)]], .map g4 (mE (own)), .row g5 0 1 1 [[.map 4]], .row g6 0 1 1 [[.t (.bool (false))]]] ++ [.row g0_0 0 3 3 [[.t (.int .i64 k), .t (.str nm), .t (.sl g cs)]]]) (List.range 7) []) by rw [hlo]; exact le7)
      · (try simp only [go_sem] at hc3)
        refine vc_skip ?_
        refine hK8 _ ?_
        refine vc_reg ?_
        refine vcX_cut 2 fun K12 hK12 => ?_
        try simp (disch := omega) only [go_sem, ↓reduceIte, Nat.reduceEqDiff, reduceCtorEq, Nat.reduceAdd, Nat.reduceLeDiff, Nat.reduceMul, Int.reduceNeg, Int.reduceLT, Int.reduceAdd, Int.reduceSub, hcl]
        refine hK12 _ ?_
        refine vcX_bool (fun hb8_1 => ?_) (fun hb8_1 => ?_)
        · (try simp only [go_sem] at hb8_1)
          try simp (disch := omega) only [go_sem, ↓reduceIte, Nat.reduceEqDiff, reduceCtorEq, Nat.reduceAdd, Nat.reduceLeDiff, Nat.reduceMul, Int.reduceNeg, Int.reduceLT, Int.reduceAdd, Int.reduceSub, hcl]
          have hst : (b && fitI us ms own (.mk k nm vs)) = ((lk nm ms).getD 0 == (vs.length : Int)) := by
            rw [hb8_1, Bool.true_and, fitI, if_neg (show ¬ (E.mk k nm vs).kind = 3 from (by simpa using hc1 : ¬ k = 3)), if_pos (show (E.mk k nm vs).kind = 2 from (by simpa using hc2 : k = 2))]
            show ((lk nm ms).getD ((lk nm own).getD 0) == (vs.length : Int)) = _
            obtain ⟨n9, h9⟩ := Option.isSome_iff_exists.1 (show (lk nm ms).isSome = true by simpa using hc3)
            rw [h9]; rfl
          simp only [hst]
          have hlo : locObs ([.map g0 (mE ms), .row g1 0 1 1 [[.t (.sl gp cp)]], .row g2 0 1 1 [[.map 0]], .row g3 0 3 3 [[.t (.int .i64 ke), .t (.str ne), .t (.sl ge ce)]], .map g4 (mE (own)), .row g5 0 1 1 [[.map 4]], .row g6 0 1 1 [[.t (.bool ((lk nm ms).getD 0 == (vs.length : Int)))]]] ++ [.row g0_0 0 3 3 [[.t (.int .i64 k), .t (.str nm), .t (.sl g cs)]]]) (List.range 7) [] = [.map g0 (mE ms), .row g1 0 1 1 [[.t (.sl gp cp)]], .row g2 0 1 1 [[.map 0]], .row g3 0 3 3 [[.t (.int .i64 ke), .t (.str ne), .t (.sl ge ce)]], .map g4 (mE (own)), .row g5 0 1 1 [[.map 4]], .row g6 0 1 1 [[.t (.bool ((lk nm ms).getD 0 == (vs.length : Int)))]]] := locObs_all rfl shut7
          refine ⟨_, rfl, List.range 7, [], List.nodup_range, (fun r hr => by have := List.mem_range.1 hr; show r < 8; omega), (fun r _ hr => by cases hr), fun hi_ h1_ => ⟨rfl, hlo, ?_⟩, ?_⟩
          · exact (show leO _ (locObs ([.map g0 (mE ms), .row g1 0 1 1 [[.t (.sl gp cp)]], .row g2 0 1 1 [[.map 0]], .row g3 0 3 3 [[.t (.int .i64 ke), .t (.str ne), .t (.sl ge ce)]], .map g4 (mE (own)), .row g5 0 1 1 [[.map 4]], .row g6 0 1 1 [[.t (.bool ((lk nm ms).getD 0 == (vs.length : Int)))]]] ++ [.row g0_0 0 3 3 [[.t (.int .i64 k), .t (.str nm), .t (.sl g cs)]]]) (List.range 7) []) by rw [hlo]; exact le7)
          · exact (show leO _ (locObs ([.map g0 (mE ms), .row g1 0 1 1 [[.t (.sl gp cp)]], .row g2 0 1 1 [[.map 0]], .row g3 0 3 3 [[.t (.int .i64 ke), .t (.str ne), .t (.sl ge ce)]], .map g4 (mE (own)), .row g5 0 1 1 [[.map 4]], .row g6 0 1 1 [[.t (.bool ((lk nm ms).getD 0 == (vs.length : Int)))]]] ++ [.row g0_0 0 3 3 [[.t (.int .i64 k), .t (.str nm), .t (.sl g cs)]]]) (List.range 7) []) by rw [hlo]; exact le7)
        · (try simp only [go_sem] at hb8_1)
          try simp (disch := omega) only [go_sem, ↓reduceIte, Nat.reduceEqDiff, reduceCtorEq, Nat.reduceAdd, Nat.reduceLeDiff, Nat.reduceMul, Int.reduceNeg, Int.reduceLT, Int.reduceAdd, Int.reduceSub, hcl]
          have hst : (b && fitI us ms own (.mk k nm vs)) = (false) := by
            rw [hb8_1, Bool.false_and]
          simp only [hst]
          have hlo : locObs ([.map g0 (mE ms), .row g1 0 1 1 [[.t (.sl gp cp)]], .row g2 0 1 1 [[.map 0]], .row g3 0 3 3 [[.t (.int .i64 ke), .t (.str ne), .t (.sl ge ce)]], .map g4 (mE (own)), .row g5 0 1 1 [[.map 4]], .row g6 0 1 1 [[.t (.bool (false))]]] ++ [.row g0_0 0 3 3 [[.t (.int .i64 k), .t (.str nm), .t (.sl g cs)]]]) (List.range 7) [] = [.map g0 (mE ms), .row g1 0 1 1 [[.t (.sl gp cp)]], .row g2 0 1 1 [[.map 0]], .row g3 0 3 3 [[.t (.int .i64 ke), .t (.str ne), .t (.sl ge ce)]], .map g4 (mE (own)), .row g5 0 1 1 [[.map 4]], .row g6 0 1 1 [[.t (.bool (false))]]] := locObs_all rfl shut7
          refine ⟨_, rfl, List.range 7, [], List.nodup_range, (fun r hr => by have := List.mem_range.1 hr; show r < 8; omega), (fun r _ hr => by cases hr), fun hi_ h1_ => ⟨rfl, hlo, ?_⟩, ?_⟩
          · exact (show leO _ (locObs ([.map g0 (mE ms), .row g1 0 1 1 [[.t (.sl gp cp)]], .row g2 0 1 1 [[.map 0]], .row g3 0 3 3 [[.t (.int .i64 ke), .t (.str ne), .t (.sl ge ce)]], .map g4 (mE (own)), .row g5 0 1 1 [[.map 4]], .row g6 0 1 1 [[.t (.bool (false))]]] ++ [.row g0_0 0 3 3 [[.t (.int .i64 k), .t (.str nm), .t (.sl g cs)]]]) (List.range 7) []) by rw [hlo]; exact le7)
          · exact (show leO _ (locObs ([.map g0 (mE ms), .row g1 0 1 1 [[.t (.sl gp cp)]], .row g2 0 1 1 [[.map 0]], .row g3 0 3 3 [[.t (.int .i64 ke), .t (.str ne), .t (.sl ge ce)]], .map g4 (mE (own)), .row g5 0 1 1 [[.map 4]], .row g6 0 1 1 [[.t (.bool (false))]]] ++ [.row g0_0 0 3 3 [[.t (.int .i64 k), .t (.str nm), .t (.sl g cs)]]]) (List.range 7) []) by rw [hlo]; exact le7)
    · (try simp only [go_sem] at hc2)
      refine vc_skip ?_
      have hst : (b && fitI us ms own (.mk k nm vs)) = (b) := by
        rw [fitI, if_neg (show ¬ (E.mk k nm vs).kind = 3 from (by simpa using hc1 : ¬ k = 3)), if_neg (show ¬ (E.mk k nm vs).kind = 2 from (by simpa using hc2 : ¬ k = 2)), Bool.and_true]
      simp only [hst]
      have hlo : locObs ([.map g0 (mE ms), .row g1 0 1 1 [[.t (.sl gp cp)]], .row g2 0 1 1 [[.map 0]], .row g3 0 3 3 [[.t (.int .i64 ke), .t (.str ne), .t (.sl ge ce)]], .map g4 (mE (own)), .row g5 0 1 1 [[.map 4]], .row g6 0 1 1 [[.t (.bool (b))]]] ++ [.row g0_0 0 3 3 [[.t (.int .i64 k), .t (.str nm), .t (.sl g cs)]]]) (List.range 7) [] = [.map g0 (mE ms), .row g1 0 1 1 [[.t (.sl gp cp)]], .row g2 0 1 1 [[.map 0]], .row g3 0 3 3 [[.t (.int .i64 ke), .t (.str ne), .t (.sl ge ce)]], .map g4 (mE (own)), .row g5 0 1 1 [[.map 4]], .row g6 0 1 1 [[.t (.bool (b))]]] := locObs_all rfl shut7
      refine ⟨_, rfl, List.range 7, [], List.nodup_range, (fun r hr => by have := List.mem_range.1 hr; show r < 8; omega), (fun r _ hr => by cases hr), fun hi_ h1_ => ⟨rfl, hlo, ?_⟩, ?_⟩
      · exact (show leO _ (locObs ([.map g0 (mE ms), .row g1 0 1 1 [[.t (.sl gp cp)]], .row g2 0 1 1 [[.map 0]], .row g3 0 3 3 [[.t (.int .i64 ke), .t (.str ne), .t (.sl ge ce)]], .map g4 (mE (own)), .row g5 0 1 1 [[.map 4]], .row g6 0 1 1 [[.t (.bool (b))]]] ++ [.row g0_0 0 3 3 [[.t (.int .i64 k), .t (.str nm), .t (.sl g cs)]]]) (List.range 7) []) by rw [hlo]; exact le7)
      · exact (show leO _ (locObs ([.map g0 (mE ms), .row g1 0 1 1 [[.t (.sl gp cp)]], .row g2 0 1 1 [[.map 0]], .row g3 0 3 3 [[.t (.int .i64 ke), .t (.str ne), .t (.sl ge ce)]], .map g4 (mE (own)), .row g5 0 1 1 [[.map 4]], .row g6 0 1 1 [[.t (.bool (b))]]] ++ [.row g0_0 0 3 3 [[.t (.int .i64 k), .t (.str nm), .t (.sl g cs)]]]) (List.range 7) []) by rw [hlo]; exact le7)

/-- impl.fits -/
theorem impl_fits (g0 : Nat) (us : List Ru) (d : List T) (hd : Pg.rep us d) (hw : wl Ru.wt us ≤ 1048576) (e : E) (c : List T) (hc : e.rep c) (hwe : e.wt ≤ 1048576) (ms : List (ByteArray × Int)) : Ctr Tryz.prog 25 [.agg (d.map .t), .map 0, .agg (c.map .t)] [.map g0 (mE ms)] (fun _ _ r' σ' => r' = .t (.bool (E.al (fitI us ms (E.foG arStep e [])) e)) ∧ σ' = [.map g0 (mE ms)]) := by
  have hc0 := hc
  have hd0 := hd
  obtain ⟨gp, cp, rfl, hp⟩ := hd
  obtain ⟨g, cs, rfl, hcs⟩ := E.rep_cells hc
  refine Ctr.of_vc (rs := [.tmp 6]) (fn := Tryz.f25) mixed Tryz.func25 rfl rfl (by kernel_rfl) (by kernel_rfl) (by simp [Tryz.ntmps25]) (fun h0 => ?_)
  refine vc_seq fun K1 hK1 => ?_
  refine vc_reg ?_
  try simp (disch := omega) only [go_sem, ↓reduceIte, Nat.reduceEqDiff, reduceCtorEq, Nat.reduceAdd, Nat.reduceLeDiff, Nat.reduceMul, Int.reduceNeg, Int.reduceLT, Int.reduceAdd, Int.reduceSub]
  intro g0_0 hg0_0
  intro g0_1 hg0_1
  intro g0_2 hg0_2
  refine hK1 _ ?_
  refine vc_seq fun K2 hK2 => ?_
  refine vc_reg ?_
  try simp (disch := omega) only [go_sem, ↓reduceIte, Nat.reduceEqDiff, reduceCtorEq, Nat.reduceAdd, Nat.reduceLeDiff, Nat.reduceMul, Int.reduceNeg, Int.reduceLT, Int.reduceAdd, Int.reduceSub, setV]
  intro g1_0 hg1_0
  intro g1_1 hg1_1
  refine hK2 _ ?_
  refine vc_seq fun K3 hK3 => ?_
  refine vc_reg ?_
  try simp (disch := omega) only [go_sem, ↓reduceIte, Nat.reduceEqDiff, reduceCtorEq, Nat.reduceAdd, Nat.reduceLeDiff, Nat.reduceMul, Int.reduceNeg, Int.reduceLT, Int.reduceAdd, Int.reduceSub]
  refine vcX_callF [4] [] [.map 0, .agg (List.map V.t [.int .i64 e.kind, .str e.name, .sl g cs])] [.map g1_0 (mE [])] _ (impl_addArities g1_0 e _ [] hc0 hwe) (by first | rfl | simp (disch := omega) only [go_sem, ↓reduceIte, Nat.reduceEqDiff, reduceCtorEq, Nat.reduceAdd, Nat.reduceLeDiff, Nat.reduceMul, Int.reduceNeg, Int.reduceLT, Int.reduceAdd, Int.reduceSub]) (by simp) (by simp) (by simp) (by simp only [locObs, List.map_cons, List.map_nil, List.getElem?_cons_succ, List.getElem?_cons_zero, Option.getD_some, loc_mE]) (Subs.of_eq (by first | rfl | (simp (disch := omega) only [go_sem, ↓reduceIte, Nat.reduceEqDiff, reduceCtorEq, Nat.reduceAdd, Nat.reduceLeDiff, Nat.reduceMul, Int.reduceNeg, Int.reduceLT, Int.reduceAdd, Int.reduceSub]) | (simp only [go_sem, V.loc, V.locs, idx]; done))) ?_
  rintro r2_2 σ2_2 h2_2 hh2_2 ⟨rfl, rfl⟩
  refine ⟨by simp, ?_⟩
  rw [show backObs [.map g0 (mE ms), .row g0_0 0 1 1 [[.t (.sl gp cp)]], .row g0_1 0 1 1 [[.map 0]], .row g0_2 0 3 3 [[.t (.int .i64 e.kind), .t (.str e.name), .t (.sl g cs)]], .map g1_0 (mE ([])), .row g1_1 0 1 1 [[.map 4]]] [4] [.map g1_0 (mE (E.foG arStep e []))] = [.map g0 (mE ms), .row g0_0 0 1 1 [[.t (.sl gp cp)]], .row g0_1 0 1 1 [[.map 0]], .row g0_2 0 3 3 [[.t (.int .i64 e.kind), .t (.str e.name), .t (.sl g cs)]], .map g1_0 (mE (E.foG arStep e [])), .row g1_1 0 1 1 [[.map 4]]] by simp [backObs, backAt, idx, back_mE]]
  try simp (disch := omega) only [go_sem, ↓reduceIte, Nat.reduceEqDiff, reduceCtorEq, Nat.reduceAdd, Nat.reduceLeDiff, Nat.reduceMul, Int.reduceNeg, Int.reduceLT, Int.reduceAdd, Int.reduceSub]
  refine hK3 _ ?_
  refine vc_seq fun K4 hK4 => ?_
  refine vc_reg ?_
  try simp (disch := omega) only [go_sem, ↓reduceIte, Nat.reduceEqDiff, reduceCtorEq, Nat.reduceAdd, Nat.reduceLeDiff, Nat.reduceMul, Int.reduceNeg, Int.reduceLT, Int.reduceAdd, Int.reduceSub, setV]
  intro g3_0 hg3_0
  refine hK4 _ ?_
  refine vc_seq fun K5 hK5 => ?_
  refine vc_reg ?_
  try simp (disch := omega) only [go_sem, ↓reduceIte, Nat.reduceEqDiff, reduceCtorEq, Nat.reduceAdd, Nat.reduceLeDiff, Nat.reduceMul, Int.reduceNeg, Int.reduceLT, Int.reduceAdd, Int.reduceSub]
  refine x_callA (σ := [.map g0 (mE ms), .row g0_0 0 1 1 [[.t (.sl gp cp)]], .row g0_1 0 1 1 [[.map 0]], .row g0_2 0 3 3 [[.t (.int .i64 e.kind), .t (.str e.name), .t (.sl g cs)]], .map g1_0 (mE (E.foG arStep e [])), .row g1_1 0 1 1 [[.map 4]], .row g3_0 0 1 1 [[.t (.bool (true))]]]) (τ := []) 7 _ _ (impl_visitM 58 [.ptr 6 0 0 0, .ptr 1 0 0 0, .ptr 2 0 0 0, .ptr 5 0 0 0] 7 (fun x b => b && fitI us ms (E.foG arStep e []) x) (fun _ b σ => σ = [.map g0 (mE ms), .row g0_0 0 1 1 [[.t (.sl gp cp)]], .row g0_1 0 1 1 [[.map 0]], .row g0_2 0 3 3 [[.t (.int .i64 e.kind), .t (.str e.name), .t (.sl g cs)]], .map g1_0 (mE (E.foG arStep e [])), .row g1_1 0 1 1 [[.map 4]], .row g3_0 0 1 1 [[.t (.bool (b))]]]) (fun b t σ h => by subst h; exact ⟨rfl, shut7⟩) (fun σ => rfl) (fun x c t b σ h1 h2 h3 => by subst h3; exact impl_fits_1 g0 g0_0 g0_1 g0_2 g1_0 g1_1 g3_0 gp g cp cs e.kind e.name us ms (E.foG arStep e []) hd0 hw x c h1 h2 t) e _ true 0 _ hc0 rfl hwe) rfl shut7 (by first | rfl | simp (disch := omega) only [go_sem, ↓reduceIte, Nat.reduceEqDiff, reduceCtorEq, Nat.reduceAdd, Nat.reduceLeDiff, Nat.reduceMul, Int.reduceNeg, Int.reduceLT, Int.reduceAdd, Int.reduceSub]) (by first | rfl | (simp (disch := omega) only [go_sem, ↓reduceIte, Nat.reduceEqDiff, reduceCtorEq, Nat.reduceAdd, Nat.reduceLeDiff, Nat.reduceMul, Int.reduceNeg, Int.reduceLT, Int.reduceAdd, Int.reduceSub]) | (simp only [go_sem, V.loc, V.locs, idx]; done)) (fun σ1 h => by obtain ⟨h, -⟩ := h; subst h; exact ⟨rfl, shut7⟩) ?_
  rintro σ4_2 h4_2 hh4_2 ⟨rfl, -⟩
  try simp (disch := omega) only [go_sem, ↓reduceIte, Nat.reduceEqDiff, reduceCtorEq, Nat.reduceAdd, Nat.reduceLeDiff, Nat.reduceMul, Int.reduceNeg, Int.reduceLT, Int.reduceAdd, Int.reduceSub, List.append_nil, foG_al, Bool.true_and]
  refine hK5 _ ?_
  refine vc_seq fun K6 hK6 => ?_
  refine vc_reg ?_
  try simp (disch := omega) only [go_sem, ↓reduceIte, Nat.reduceEqDiff, reduceCtorEq, Nat.reduceAdd, Nat.reduceLeDiff, Nat.reduceMul, Int.reduceNeg, Int.reduceLT, Int.reduceAdd, Int.reduceSub]
  refine hK6 _ ?_
  refine vc_ret ?_
  refine ⟨_, rfl, [0], [], by simp, by simp, by simp, fun hi_ h1_ => ⟨rfl, ?_⟩, ?_⟩
  · show [Ob.loc _ _ _ (.map g0 (mE ms))] = _
    rw [loc_mE]
  · intro r o ho
    cases r with
    | zero => simp only [List.getElem?_cons_zero, Option.some.injEq] at ho; subst ho; exact ⟨_, rfl, by simp [Ob.loc, Ob.le]⟩
    | succ r => simp at ho

/-- spec.l5Fits -/
theorem spec_l5Fits (us : List Ru) (d : List T) (hd : Pg.rep us d) (hw : wl Ru.wt us ≤ 1048576) (al : E) (ca : List T) (hca : al.rep ca) (hwa : al.wt ≤ 1048576) (e : E) (c : List T) (hc : e.rep c) (hwe : e.wt ≤ 1048576) : FCtr Tryz.prog 75 [.agg (d.map .t), .agg (c.map .t), .agg (ca.map .t)] (fun r => r = .t (.bool (E.al (fitS us al) e))) := by
  have hca0 := hca
  have hd0 := hd
  obtain ⟨gp, cp, rfl, hp⟩ := hd
  obtain ⟨ga, caa, rfl, hcaa⟩ := E.rep_cells hca
  induction e using E.ind generalizing c
  rename_i k nm vs ih
  obtain ⟨g, cs, rfl, ha⟩ := E.rep_mk hc
  have hcl := E.repL_len ha
  rw [E.wt] at hwe
  have hwl := E.wtL_len vs
  refine Ctr.of_vc (rs := [.tmp 6]) (fn := Tryz.f75) mixed Tryz.func75 rfl rfl (by kernel_rfl) (by kernel_rfl) (by simp [Tryz.ntmps75]) (fun h0 => ?_)
  refine vc_seq fun K1 hK1 => ?_
  refine vc_reg ?_
  try simp (disch := omega) only [go_sem, ↓reduceIte, Nat.reduceEqDiff, reduceCtorEq, Nat.reduceAdd, Nat.reduceLeDiff, Nat.reduceMul, Int.reduceNeg, Int.reduceLT, Int.reduceAdd, Int.reduceSub, hcl]
  intro g0_0 hg0_0
  intro g0_1 hg0_1
  intro g0_2 hg0_2
  refine hK1 _ ?_
  refine vc_seq fun K2 hK2 => ?_
  refine vc_seq fun K3 hK3 => ?_
  refine vc_reg ?_
  try simp (disch := omega) only [go_sem, ↓reduceIte, Nat.reduceEqDiff, reduceCtorEq, Nat.reduceAdd, Nat.reduceLeDiff, Nat.reduceMul, Int.reduceNeg, Int.reduceLT, Int.reduceAdd, Int.reduceSub, hcl]
  refine hK3 _ ?_
  refine vc_block ?_
  refine vc_loop (fun m s => ∃ (n : Nat), (m = vs.length - n) ∧ (s.σ = [.row g0_0 0 1 1 [[.t (.sl gp cp)]], .row g0_1 0 3 3 [[V.t (.int .i64 k), V.t (.str nm), V.t (.sl g cs)]], .row g0_2 0 3 3 [[.t (.int .i64 al.kind), .t (.str al.name), .t (.sl ga caa)]]]) ∧ (s.env 3 = .ptr 0 0 0 0) ∧ (s.env 4 = .ptr 1 0 0 0) ∧ (s.env 5 = .ptr 2 0 0 0) ∧ (s.env 7 = .t (.int .i64 n)) ∧ (n ≤ vs.length) ∧ (E.al (fitS us al) (.mk k nm vs) = (fitS us al (.mk k nm vs) && E.alL (fitS us al) (vs.drop n)))) (vs.length - 0) ⟨0, rfl, (by first | rfl | simp), (by first | rfl | assumption), (by first | rfl | assumption), (by first | rfl | assumption), (by first | rfl | assumption), (by first | rfl | omega | simp), (by rw [E.al]; rfl)⟩ ?_
  rintro m ⟨e, σ, h⟩ ⟨n, hm, hσ, e3, e4, e5, e7, hn, hx⟩ K4 hK4
  simp only at hσ e3 e4 e5 e7
  subst hσ
  refine vc_seq fun K5 hK5 => ?_
  refine vc_seq fun K6 hK6 => ?_
  refine vc_reg ?_
  try simp (disch := omega) only [go_sem, ↓reduceIte, Nat.reduceEqDiff, reduceCtorEq, Nat.reduceAdd, Nat.reduceLeDiff, Nat.reduceMul, Int.reduceNeg, Int.reduceLT, Int.reduceAdd, Int.reduceSub, e3, e4, e5, e7, hcl]
  refine hK6 _ ?_
  refine vc_cond (t := _) rfl (fun hc1 => ?_) (fun hc1 => ?_)
  · (try simp only [go_sem] at hc1)
    refine vc_skip ?_
    refine hK5 _ ?_
    refine vc_seq fun K7 hK7 => ?_
    refine vc_block ?_
    refine vc_seq fun K8 hK8 => ?_
    obtain ⟨c, hc, hrc⟩ := E.repL_get ha (n := n) (by omega)
    obtain ⟨gc, cc, rfl, hcc⟩ := E.rep_cells hrc
    refine vc_regD [(0, false), (1, false), (2, false), (3, false), (4, false), (5, false), (6, false), (7, false), (8, false)] (by kernel_rfl) ?_
    try simp (disch := omega) only [go_sem, ↓reduceIte, Nat.reduceEqDiff, reduceCtorEq, Nat.reduceAdd, Nat.reduceLeDiff, Nat.reduceMul, Int.reduceNeg, Int.reduceLT, Int.reduceAdd, Int.reduceSub, e3, e4, e5, e7, hcl, hc]
    refine vcX_call _ _ (ih _ (List.getElem_mem (show n < vs.length by omega)) _ hrc (by have := E.wtL_mem (List.getElem_mem (show n < vs.length by omega)); omega)) rfl rfl (by first | rfl | simp [V.pures, V.pure, V.pures_t]) ?_
    rintro r4_7 h4_7 hh4_7 rfl -
    try simp (disch := omega) only [go_sem, ↓reduceIte, Nat.reduceEqDiff, reduceCtorEq, Nat.reduceAdd, Nat.reduceLeDiff, Nat.reduceMul, Int.reduceNeg, Int.reduceLT, Int.reduceAdd, Int.reduceSub, e3, e4, e5, e7, hcl, hc]
    refine hK8 _ ?_
    refine vc_cond (t := _) rfl (fun hc2 => ?_) (fun hc2 => ?_)
    · (try simp only [go_sem] at hc2)
      refine vc_seq fun K9 hK9 => ?_
      refine vc_reg ?_
      try simp (disch := omega) only [go_sem, ↓reduceIte, Nat.reduceEqDiff, reduceCtorEq, Nat.reduceAdd, Nat.reduceLeDiff, Nat.reduceMul, Int.reduceNeg, Int.reduceLT, Int.reduceAdd, Int.reduceSub, e3, e4, e5, e7, hcl]
      refine hK9 _ ?_
      refine vc_ret ?_
      try rw [List.drop_of_length_le (by omega), E.alL, Bool.and_true] at hx
      refine ⟨_, by first | rfl | (simp only [go_sem, resQ, List.mapM_cons, List.mapM_nil, ↓reduceIte, Nat.reduceEqDiff, Nat.reduceAdd, Nat.reduceLeDiff, reduceCtorEq]; rfl), [], [], .nil, by simp, by simp, fun hi_ h1_ => ⟨?_, rfl, rfl⟩, by simp⟩
      have h7 : E.al (fitS us al) vs[n] = false := by simpa using hc2
      have hx2 : E.al (fitS us al) (.mk k nm vs) = false := by rw [hx, E.alL_drop (l := vs) (n := n) (by omega), h7, Bool.false_and, Bool.and_false]
      rw [hx2]; rfl
    · (try simp only [go_sem] at hc2)
      refine vc_skip ?_
      refine hK7 _ ?_
      refine vc_reg ?_
      try simp (disch := omega) only [go_sem, ↓reduceIte, Nat.reduceEqDiff, reduceCtorEq, Nat.reduceAdd, Nat.reduceLeDiff, Nat.reduceMul, Int.reduceNeg, Int.reduceLT, Int.reduceAdd, Int.reduceSub, e3, e4, e5, e7, hcl]
      refine hK4 _ _ ?_ ⟨n + 1, rfl, (by first | rfl | simp), (by first | rfl | assumption), (by first | rfl | assumption), (by first | rfl | assumption), (by first | rfl | assumption), ?_, ?_⟩
      · omega
      · first | omega | assumption | rfl | simp_all
      · have h7 : E.al (fitS us al) vs[n] = true := (by simpa using hc2); rw [hx, E.alL_drop (l := vs) (n := n) (by omega), h7, Bool.true_and]
  · (try simp only [go_sem] at hc1)
    refine vc_exit ?_
    refine hK2 _ ?_
    refine vc_seq fun K10 hK10 => ?_
    refine vc_seq fun K11 hK11 => ?_
    refine vc_reg ?_
    try simp (disch := omega) only [go_sem, ↓reduceIte, Nat.reduceEqDiff, reduceCtorEq, Nat.reduceAdd, Nat.reduceLeDiff, Nat.reduceMul, Int.reduceNeg, Int.reduceLT, Int.reduceAdd, Int.reduceSub, e3, e4, e5, e7, hcl]
    refine hK11 _ ?_
    refine vc_block ?_
    refine vc_seq fun K12 hK12 => ?_
    refine vc_reg ?_
    try simp (disch := omega) only [go_sem, ↓reduceIte, Nat.reduceEqDiff, reduceCtorEq, Nat.reduceAdd, Nat.reduceLeDiff, Nat.reduceMul, Int.reduceNeg, Int.reduceLT, Int.reduceAdd, Int.reduceSub, e3, e4, e5, e7, hcl]
    refine hK12 _ ?_
    refine vc_cond (t := _) rfl (fun hc3 => ?_) (fun hc3 => ?_)
    · (try simp only [go_sem] at hc3)
      refine vc_seq fun K13 hK13 => ?_
      refine vc_regD [(0, false), (1, false), (2, false), (3, false), (4, false), (5, false), (6, false), (7, false), (8, false)] (by kernel_rfl) ?_
      try simp (disch := omega) only [go_sem, ↓reduceIte, Nat.reduceEqDiff, reduceCtorEq, Nat.reduceAdd, Nat.reduceLeDiff, Nat.reduceMul, Int.reduceNeg, Int.reduceLT, Int.reduceAdd, Int.reduceSub, e3, e4, e5, e7, hcl]
      refine vcX_call _ _ (spec_FunctionArity us _ hd0 hw nm) rfl rfl (by first | rfl | simp [V.pures, V.pure, V.pures_t]) ?_
      rintro r8_6 h8_6 hh8_6 rfl -
      try simp (disch := omega) only [go_sem, ↓reduceIte, Nat.reduceEqDiff, reduceCtorEq, Nat.reduceAdd, Nat.reduceLeDiff, Nat.reduceMul, Int.reduceNeg, Int.reduceLT, Int.reduceAdd, Int.reduceSub, e3, e4, e5, e7, hcl]
      refine hK13 _ ?_
      refine vc_ret ?_
      try rw [List.drop_of_length_le (by omega), E.alL, Bool.and_true] at hx
      refine ⟨_, by first | rfl | (simp only [go_sem, resQ, List.mapM_cons, List.mapM_nil, ↓reduceIte, Nat.reduceEqDiff, Nat.reduceAdd, Nat.reduceLeDiff, reduceCtorEq]; rfl), [], [], .nil, by simp, by simp, fun hi_ h1_ => ⟨?_, rfl, rfl⟩, by simp⟩
      have hx2 : E.al (fitS us al) (.mk k nm vs) = ((vs.length : Int) == arity us nm) := by rw [hx, fitS, if_pos (show (E.mk k nm vs).kind = 3 from (by simpa using hc3 : k = 3))]; rfl
      rw [hx2]; rfl
    · (try simp only [go_sem] at hc3)
      refine vc_seq fun K14 hK14 => ?_
      refine vc_reg ?_
      try simp (disch := omega) only [go_sem, ↓reduceIte, Nat.reduceEqDiff, reduceCtorEq, Nat.reduceAdd, Nat.reduceLeDiff, Nat.reduceMul, Int.reduceNeg, Int.reduceLT, Int.reduceAdd, Int.reduceSub, e3, e4, e5, e7, hcl]
      refine hK14 _ ?_
      refine vc_cond (t := _) rfl (fun hc4 => ?_) (fun hc4 => ?_)
      · (try simp only [go_sem] at hc4)
        refine vc_seq fun K15 hK15 => ?_
        refine vc_reg ?_
        try simp (disch := omega) only [go_sem, ↓reduceIte, Nat.reduceEqDiff, reduceCtorEq, Nat.reduceAdd, Nat.reduceLeDiff, Nat.reduceMul, Int.reduceNeg, Int.reduceLT, Int.reduceAdd, Int.reduceSub, e3, e4, e5, e7, hcl]
        refine vcX_call _ _ (spec_ConArity us _ hd0 hw nm) rfl rfl (by first | rfl | simp [V.pures, V.pure, V.pures_t]) ?_
        rintro r10_3 h10_3 hh10_3 rfl -
        try simp (disch := omega) only [go_sem, ↓reduceIte, Nat.reduceEqDiff, reduceCtorEq, Nat.reduceAdd, Nat.reduceLeDiff, Nat.reduceMul, Int.reduceNeg, Int.reduceLT, Int.reduceAdd, Int.reduceSub, e3, e4, e5, e7, hcl]
        refine hK15 _ ?_
        refine vc_seq fun K16 hK16 => ?_
        refine vc_seq fun K17 hK17 => ?_
        refine vc_reg ?_
        try simp (disch := omega) only [go_sem, ↓reduceIte, Nat.reduceEqDiff, reduceCtorEq, Nat.reduceAdd, Nat.reduceLeDiff, Nat.reduceMul, Int.reduceNeg, Int.reduceLT, Int.reduceAdd, Int.reduceSub, e3, e4, e5, e7, hcl]
        refine hK17 _ ?_
        refine vc_cond (t := _) rfl (fun hc5 => ?_) (fun hc5 => ?_)
        · (try simp only [go_sem] at hc5)
          refine vc_reg ?_
          try simp (disch := omega) only [go_sem, ↓reduceIte, Nat.reduceEqDiff, reduceCtorEq, Nat.reduceAdd, Nat.reduceLeDiff, Nat.reduceMul, Int.reduceNeg, Int.reduceLT, Int.reduceAdd, Int.reduceSub, e3, e4, e5, e7, hcl]
          refine vcX_call _ _ (spec_l5Con al _ hca0 hwa nm) rfl rfl (by first | rfl | simp [V.pures, V.pure, V.pures_t]) ?_
          rintro r12_3 h12_3 hh12_3 rfl -
          try simp (disch := omega) only [go_sem, ↓reduceIte, Nat.reduceEqDiff, reduceCtorEq, Nat.reduceAdd, Nat.reduceLeDiff, Nat.reduceMul, Int.reduceNeg, Int.reduceLT, Int.reduceAdd, Int.reduceSub, e3, e4, e5, e7, hcl]
          refine hK16 _ ?_
          refine vc_seq fun K18 hK18 => ?_
          refine vc_reg ?_
          try simp (disch := omega) only [go_sem, ↓reduceIte, Nat.reduceEqDiff, reduceCtorEq, Nat.reduceAdd, Nat.reduceLeDiff, Nat.reduceMul, Int.reduceNeg, Int.reduceLT, Int.reduceAdd, Int.reduceSub, e3, e4, e5, e7, hcl]
          refine hK18 _ ?_
          refine vc_ret ?_
          try rw [List.drop_of_length_le (by omega), E.alL, Bool.and_true] at hx
          refine ⟨_, by first | rfl | (simp only [go_sem, resQ, List.mapM_cons, List.mapM_nil, ↓reduceIte, Nat.reduceEqDiff, Nat.reduceAdd, Nat.reduceLeDiff, reduceCtorEq]; rfl), [], [], .nil, by simp, by simp, fun hi_ h1_ => ⟨?_, rfl, rfl⟩, by simp⟩
          have hx2 : E.al (fitS us al) (.mk k nm vs) = ((vs.length : Int) == E.cn nm al) := by rw [hx, fitS, if_neg (show ¬ (E.mk k nm vs).kind = 3 from (by simpa using hc3 : ¬ k = 3)), if_pos (show (E.mk k nm vs).kind = 2 from (by simpa using hc4 : k = 2))]; show (_ == (if Pg.cn nm us < 0 then _ else _)) = _; rw [if_pos (by omega)]; rfl
          rw [hx2]; rfl
        · (try simp only [go_sem] at hc5)
          refine vc_skip ?_
          refine hK16 _ ?_
          refine vc_seq fun K19 hK19 => ?_
          refine vc_reg ?_
          try simp (disch := omega) only [go_sem, ↓reduceIte, Nat.reduceEqDiff, reduceCtorEq, Nat.reduceAdd, Nat.reduceLeDiff, Nat.reduceMul, Int.reduceNeg, Int.reduceLT, Int.reduceAdd, Int.reduceSub, e3, e4, e5, e7, hcl]
          refine hK19 _ ?_
          refine vc_ret ?_
          try rw [List.drop_of_length_le (by omega), E.alL, Bool.and_true] at hx
          refine ⟨_, by first | rfl | (simp only [go_sem, resQ, List.mapM_cons, List.mapM_nil, ↓reduceIte, Nat.reduceEqDiff, Nat.reduceAdd, Nat.reduceLeDiff, reduceCtorEq]; rfl), [], [], .nil, by simp, by simp, fun hi_ h1_ => ⟨?_, rfl, rfl⟩, by simp⟩
          have hx2 : E.al (fitS us al) (.mk k nm vs) = ((vs.length : Int) == Pg.cn nm us) := by rw [hx, fitS, if_neg (show ¬ (E.mk k nm vs).kind = 3 from (by simpa using hc3 : ¬ k = 3)), if_pos (show (E.mk k nm vs).kind = 2 from (by simpa using hc4 : k = 2))]; show (_ == (if Pg.cn nm us < 0 then _ else _)) = _; rw [if_neg (by omega)]; rfl
          rw [hx2]; rfl
      · (try simp only [go_sem] at hc4)
        refine vc_skip ?_
        refine hK10 _ ?_
        refine vc_seq fun K20 hK20 => ?_
        refine vc_reg ?_
        try simp (disch := omega) only [go_sem, ↓reduceIte, Nat.reduceEqDiff, reduceCtorEq, Nat.reduceAdd, Nat.reduceLeDiff, Nat.reduceMul, Int.reduceNeg, Int.reduceLT, Int.reduceAdd, Int.reduceSub, e3, e4, e5, e7, hcl]
        refine hK20 _ ?_
        refine vc_ret ?_
        try rw [List.drop_of_length_le (by omega), E.alL, Bool.and_true] at hx
        refine ⟨_, by first | rfl | (simp only [go_sem, resQ, List.mapM_cons, List.mapM_nil, ↓reduceIte, Nat.reduceEqDiff, Nat.reduceAdd, Nat.reduceLeDiff, reduceCtorEq]; rfl), [], [], .nil, by simp, by simp, fun hi_ h1_ => ⟨?_, rfl, rfl⟩, by simp⟩
        have hx2 : E.al (fitS us al) (.mk k nm vs) = true := by rw [hx, fitS, if_neg (show ¬ (E.mk k nm vs).kind = 3 from (by simpa using hc3 : ¬ k = 3)), if_neg (show ¬ (E.mk k nm vs).kind = 2 from (by simpa using hc4 : ¬ k = 2))]
        rw [hx2]; rfl

/-- spec.IsExprFor -/
theorem spec_IsExprFor (us : List Ru) (d : List T) (hd : Pg.rep us d) (hw : wl Ru.wt us ≤ 1048576) (e : E) (c : List T) (hc : e.rep c) (hwe : e.wt ≤ 1048576) : FCtr Tryz.prog 38 [.agg (d.map .t), .agg (c.map .t)] (fun r => r = .t (.bool ((decide ((e.sz : Int) ≤ 80) && (decide ((e.dp : Int) ≤ 24) && e.af)) && E.al (fitS us e) e))) := by
  have hc0 := hc
  have hd0 := hd
  obtain ⟨gp, cp, rfl, hp⟩ := hd
  obtain ⟨g, cs, rfl, hcs⟩ := E.rep_cells hc
  refine Ctr.of_vc (rs := [.tmp 4]) (fn := Tryz.f38) mixed Tryz.func38 rfl rfl (by kernel_rfl) (by kernel_rfl) (by simp [Tryz.ntmps38]) (fun h0 => ?_)
  refine vc_seq fun K1 hK1 => ?_
  refine vc_reg ?_
  try simp (disch := omega) only [go_sem, ↓reduceIte, Nat.reduceEqDiff, reduceCtorEq, Nat.reduceAdd, Nat.reduceLeDiff, Nat.reduceMul, Int.reduceNeg, Int.reduceLT, Int.reduceAdd, Int.reduceSub]
  intro g0_0 hg0_0
  intro g0_1 hg0_1
  refine hK1 _ ?_
  refine vc_seq fun K2 hK2 => ?_
  refine vc_reg ?_
  refine vcX_cut 3 fun K3 hK3 => ?_
  try simp (disch := omega) only [go_sem, ↓reduceIte, Nat.reduceEqDiff, reduceCtorEq, Nat.reduceAdd, Nat.reduceLeDiff, Nat.reduceMul, Int.reduceNeg, Int.reduceLT, Int.reduceAdd, Int.reduceSub]
  refine vcX_call _ _ (spec_IsValidExpr e _ hc0 hwe) rfl rfl (by first | rfl | simp [V.pures, V.pure, V.pures_t]) ?_
  rintro r1_1 h1_1 hh1_1 rfl -
  try simp (disch := omega) only [go_sem, ↓reduceIte, Nat.reduceEqDiff, reduceCtorEq, Nat.reduceAdd, Nat.reduceLeDiff, Nat.reduceMul, Int.reduceNeg, Int.reduceLT, Int.reduceAdd, Int.reduceSub]
  refine hK3 _ ?_
  refine vcX_bool (fun hb1_2 => ?_) (fun hb1_2 => ?_)
  · (try simp only [go_sem] at hb1_2)
    try simp (disch := omega) only [go_sem, ↓reduceIte, Nat.reduceEqDiff, reduceCtorEq, Nat.reduceAdd, Nat.reduceLeDiff, Nat.reduceMul, Int.reduceNeg, Int.reduceLT, Int.reduceAdd, Int.reduceSub]
    refine vcX_call _ _ (spec_l5Fits us _ hd0 hw e _ hc0 hwe e _ hc0 hwe) rfl rfl (by first | rfl | simp [V.pures, V.pure, V.pures_t]) ?_
    rintro r1_6 h1_6 hh1_6 rfl -
    try simp (disch := omega) only [go_sem, ↓reduceIte, Nat.reduceEqDiff, reduceCtorEq, Nat.reduceAdd, Nat.reduceLeDiff, Nat.reduceMul, Int.reduceNeg, Int.reduceLT, Int.reduceAdd, Int.reduceSub]
    refine hK2 _ ?_
    refine vc_ret ?_
    refine ⟨_, by first | rfl | (simp only [go_sem, resQ, List.mapM_cons, List.mapM_nil, ↓reduceIte, Nat.reduceEqDiff, Nat.reduceAdd, Nat.reduceLeDiff, reduceCtorEq]; rfl), [], [], .nil, by simp, by simp, fun hi_ h1_ => ⟨?_, rfl, rfl⟩, by simp⟩
    rw [hb1_2]; rfl
  · (try simp only [go_sem] at hb1_2)
    try simp (disch := omega) only [go_sem, ↓reduceIte, Nat.reduceEqDiff, reduceCtorEq, Nat.reduceAdd, Nat.reduceLeDiff, Nat.reduceMul, Int.reduceNeg, Int.reduceLT, Int.reduceAdd, Int.reduceSub]
    refine hK2 _ ?_
    refine vc_ret ?_
    refine ⟨_, by first | rfl | (simp only [go_sem, resQ, List.mapM_cons, List.mapM_nil, ↓reduceIte, Nat.reduceEqDiff, Nat.reduceAdd, Nat.reduceLeDiff, reduceCtorEq]; rfl), [], [], .nil, by simp, by simp, fun hi_ h1_ => ⟨?_, rfl, rfl⟩, by simp⟩
    rw [hb1_2]; rfl
end Go.Proofs.YtldhhppfnhgcdaaGreat
