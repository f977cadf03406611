/- VL, part 11: a region whose order is open, walked in one order. -/
import Derived.Test.YtlooiifgbiedeaaV10
namespace Go.VL
set_option linter.unusedVariables false
set_option linter.unusedSimpArgs false

abbrev Lst := List (Nat × List Nat)
/-- What a quiet operation read that need not stand ahead of operation i is not touched. -/
def ckL (C : List (List Nat)) (L : Lst) (i : Nat) (ts : List Nat) : Prop := ∀ p ∈ L, p.1 ∈ C.getD i [] ∨ ∀ r ∈ p.2, r ∉ ts
theorem ckL_sub {C : List (List Nat)} {L L' : Lst} {i : Nat} {ts : List Nat} (hs : ∀ p ∈ L', p ∈ L) (h : ckL C L i ts) : ckL C L' i ts := fun p hp => h p (hs p hp)

def vcR (P : Program) (ops : Array Oper) (C : List (List Nat)) : List Nat → Lst → (St → Prop) → St → Prop
  | [], _, K, s => K s
  | i :: l, L, K, s => match ops[i]? with
    | none => vcR P ops C l L K s
    | some o => vcOp P ops o (ckL C L i) (vcR P ops C l (if isQuiet o.op then (i, roots s o.op) :: L else L) K) s

theorem vcOp_mono {P : Program} {ops : Array Oper} {o : Oper} {tc tc' : List Nat → Prop} {K K' : St → Prop} {s : St} (ht : ∀ fp, tc fp → tc' fp) (hK : ∀ s, K s → K' s) (h : vcOp P ops o tc K s) : vcOp P ops o tc' K' s := by
  unfold vcOp at h ⊢
  revert h
  generalize gd ops o s = g
  split
  · exact fun h => vcRun_mono ht (fun v σ h' k => hK _ k) h
  · exact fun h => hK _ h
  · exact fun h => h

theorem vcR_L {P : Program} {ops : Array Oper} {C : List (List Nat)} {K : St → Prop} : ∀ (l : List Nat) (L L' : Lst) (s : St), (∀ p ∈ L', p ∈ L) → vcR P ops C l L K s → vcR P ops C l L' K s
  | [], _, _, _, _, h => h
  | i :: l, L, L', s, hs, h => by
    unfold vcR at h ⊢
    cases ho : ops[i]? with
    | none => rw [ho] at h; exact vcR_L l L L' s hs h
    | some o =>
      rw [ho] at h
      simp only at h ⊢
      refine vcOp_mono (fun fp hc => ckL_sub hs hc) (fun s1 h1 => vcR_L l _ _ s1 (fun p hp => ?_) h1) h
      by_cases hq : isQuiet o.op = true
      · rw [if_pos hq] at hp ⊢
        rcases List.mem_cons.1 hp with h2 | h2
        · rw [h2]; exact List.mem_cons_self
        · exact List.mem_cons_of_mem _ (hs p h2)
      · rw [if_neg hq] at hp ⊢
        exact hs p hp

theorem eval_put {s : St} {d : Option Tmp} {v : V} {x : Operand} (h : ∀ t, d = some t → x ≠ .tmp t) : (s.put d v).eval x = s.eval x := by
  cases d with
  | none => rfl
  | some d =>
    cases x with
    | tmp t =>
      have hne : t ≠ d := fun e => h d rfl (e ▸ rfl)
      simp [St.put, St.eval, upd, hne]
    | _ => rfl
theorem put_σ (s : St) (d : Option Tmp) (v : V) : (s.put d v).σ = s.σ := by cases d <;> rfl
theorem put_h (s : St) (d : Option Tmp) (v : V) : (s.put d v).h = s.h := by cases d <;> rfl
theorem eval_env {s : St} {σ : List Ob} {h : Nat} (x : Operand) : (⟨s.env, σ, h⟩ : St).eval x = s.eval x := by cases x <;> rfl
theorem put_comm (s : St) {d d' : Option Tmp} {u v : V} (hne : ∀ t, d = some t → d' ≠ some t) : (s.put d u).put d' v = (s.put d' v).put d u := by
  cases d with
  | none => rfl
  | some d =>
    cases d' with
    | none => rfl
    | some d' =>
      have : d ≠ d' := fun e => hne d rfl (e ▸ rfl)
      simp only [St.put]
      congr 1
      funext t
      simp only [upd]
      by_cases h1 : t = d' <;> by_cases h2 : t = d <;> simp_all

section
variable {P : Program} {ops : Array Oper}

/-- A quiet operation, or one that is passed over, gives a value. -/
def QY (P : Program) (ops : Array Oper) (o : Oper) (s : St) (u : V) : Prop := (gd ops o s = some true ∧ evalQ P s o.op = some u) ∨ (gd ops o s = some false ∧ u = .skip)

theorem gd_put {o : Oper} {s : St} {d : Option Tmp} {v : V} (h : ∀ t, d = some t → t ∉ o.looksAt ops) : gd ops o (s.put d v) = gd ops o s := by
  unfold gd
  cases hg : o.guard with
  | none => rfl
  | some jb =>
    obtain ⟨j, b⟩ := jb
    simp only
    cases ht : (ops[j]?).bind (·.dst) with
    | none => rfl
    | some t =>
      simp only
      cases d with
      | none => rfl
      | some d =>
        have hne : t ≠ d := fun e => h d rfl (by simp [Oper.looksAt, hg, ht, e])
        simp [St.put, upd, hne]
theorem gd_env {o : Oper} {s : St} {σ : List Ob} {h : Nat} : gd ops o ⟨s.env, σ, h⟩ = gd ops o s := rfl

theorem looks_operand {o : Oper} {d : Option Tmp} (h : ∀ t, d = some t → t ∉ o.looksAt ops) : ∀ x ∈ o.op.operands, ∀ t, d = some t → x ≠ .tmp t := fun x hx t ht e => by
  subst e
  exact h t ht (List.mem_append_left _ (List.mem_filterMap.2 ⟨.tmp t, by simpa using hx, rfl⟩))

theorem QY.op {o : Oper} {s : St} {u : V} (hq : isQuiet o.op = true) (h : QY P ops o s u) {tc : List Nat → Prop} {K : St → Prop} (hK : K (s.put o.dst u)) : vcOp P ops o tc K s := by
  unfold vcOp
  rcases h with ⟨h1, h2⟩ | ⟨h1, rfl⟩
  · rw [h1]
    simp only [vcRun, if_pos hq, h2]
    have : (⟨(s.put o.dst u).env, s.σ, s.h⟩ : St) = s.put o.dst u := by cases o.dst <;> rfl
    rw [this]
    exact hK
  · rw [h1]
    exact hK
theorem QY.of_op {o : Oper} {s : St} (hq : isQuiet o.op = true) {tc : List Nat → Prop} {K : St → Prop} (h : vcOp P ops o tc K s) : ∃ u, QY P ops o s u ∧ K (s.put o.dst u) := by
  unfold vcOp at h
  revert h
  cases hg : gd ops o s with
  | none => exact fun h => h.elim
  | some b =>
    cases b with
    | false => exact fun h => ⟨.skip, .inr ⟨hg, rfl⟩, h⟩
    | true =>
      simp only [vcRun, if_pos hq]
      cases he : evalQ P s o.op with
      | none => exact fun h => h.elim
      | some u =>
        intro h
        refine ⟨u, .inl ⟨hg, he⟩, ?_⟩
        have : (⟨(s.put o.dst u).env, s.σ, s.h⟩ : St) = s.put o.dst u := by cases o.dst <;> rfl
        rw [← this]
        exact h

theorem roots_congr {s s' : St} {op : Op} (he : ∀ x ∈ op.operands, s'.eval x = s.eval x) : roots s' op = roots s op := by
  unfold roots
  have : ∀ x ∈ op.operands.toList, (s'.eval x).root = (s.eval x).root := fun x hx => by rw [he x (by simpa using hx)]
  generalize op.operands.toList = l at this
  induction l with
  | nil => rfl
  | cons x l ih => simp only [List.filterMap_cons]; rw [this x (by simp), ih (fun y hy => this y (by simp [hy]))]

variable {w0 : World} {av0 X : Nat → Prop} {N : Nat} {a : Act} {w : World} {s : St} {C : List (List Nat)} {K : St → Prop}

/-- A quiet operation and the next, exchanged. -/
theorem vcR_swap (hi : Inv w0 av0 X N a w s) {y i : Nat} {oy oi : Oper} (hy : ops[y]? = some oy) (hio : ops[i]? = some oi) (hq : isQuiet oy.op = true) (hap : oy.apart ops oi = true) (hC : y ∉ C.getD i []) {l : List Nat} {L : Lst}
    (h : vcR P ops C (y :: i :: l) L K s) : vcR P ops C (i :: y :: l) L K s := by
  obtain ⟨a1, a2, a3⟩ := Oper.apart_spec hap
  unfold vcR at h ⊢
  rw [hy] at h
  rw [hio]
  simp only [if_pos hq] at h ⊢
  obtain ⟨u, hu, h⟩ := QY.of_op hq h
  unfold vcR at h
  rw [hio] at h
  simp only at h
  have ei : ∀ x ∈ oi.op.operands, (s.put oy.dst u).eval x = s.eval x := fun x hx => eval_put (looks_operand a1 x hx)
  have gi : gd ops oi (s.put oy.dst u) = gd ops oi s := gd_put a1
  have hrlt : ∀ r ∈ roots s oy.op, r < s.σ.length := fun r hr => by
    obtain ⟨x, hx, hroot⟩ := List.mem_filterMap.1 hr
    have hv := hi.eval x
    generalize s.eval x = xv at hv hroot
    generalize a.eval x = av at hv
    cases hv with
    | own h1 _ _ _ => simp only [V.root, Option.some.injEq] at hroot; subst hroot; exact (List.getElem?_eq_some_iff.1 h1).1
    | ptr h1 _ _ _ => simp only [V.root, Option.some.injEq] at hroot; subst hroot; exact (List.getElem?_eq_some_iff.1 h1).1
    | map h1 => simp only [V.root, Option.some.injEq] at hroot; subst hroot; exact (List.getElem?_eq_some_iff.1 h1).1
    | t _ => simp [V.root] at hroot
    | nil0 _ => simp [V.root] at hroot
    | fz _ _ _ _ => simp [V.root] at hroot
    | fn _ _ => simp [V.root] at hroot
    | errN => simp [V.root] at hroot
    | errS _ _ => simp [V.root] at hroot
    | agg _ _ => simp [V.root] at hroot
    | tup _ _ => simp [V.root] at hroot
    | undef _ => simp [V.root] at hroot
    | skip => simp [V.root] at hroot
  -- y, behind i: it gives what it gave
  have after : ∀ (v : V) (σ' : List Ob) (h' : Nat) (L' : Lst), (∀ r ∈ roots s oy.op, σ'[r]? = s.σ[r]?) → vcR P ops C l L' K ⟨((s.put oy.dst u).put oi.dst v).env, σ', h'⟩ → (∀ p, p ∈ (y, roots s oy.op) :: L' ↔ p ∈ (y, roots s oy.op) :: L') →
      ∀ L2 : Lst, (∀ p ∈ ((y, roots s oy.op) :: L2), p ∈ L') → vcR P ops C (y :: l) L2 K ⟨(s.put oi.dst v).env, σ', h'⟩ := fun v σ' h' L' hσ hk _ L2 hL => by
    unfold vcR
    rw [hy]
    simp only [if_pos hq]
    have ey : ∀ x ∈ oy.op.operands, (⟨(s.put oi.dst v).env, σ', h'⟩ : St).eval x = s.eval x := fun x hx => by
      rw [eval_env]
      exact eval_put (looks_operand a3 x hx)
    have hQY : QY P ops oy ⟨(s.put oi.dst v).env, σ', h'⟩ u := by
      have hg : gd ops oy (⟨(s.put oi.dst v).env, σ', h'⟩ : St) = gd ops oy s := by rw [gd_env]; exact gd_put a3
      rcases hu with ⟨h1, h2⟩ | ⟨h1, h2⟩
      · exact .inl ⟨by rw [hg]; exact h1, by rw [evalQ_congr ey hσ]; exact h2⟩
      · exact .inr ⟨by rw [hg]; exact h1, h2⟩
    refine hQY.op hq ?_
    have hst : (⟨(s.put oi.dst v).env, σ', h'⟩ : St).put oy.dst u = ⟨((s.put oy.dst u).put oi.dst v).env, σ', h'⟩ := by
      rw [put_comm s a2]
      cases oy.dst <;> rfl
    rw [hst, roots_congr ey]
    exact vcR_L l _ _ _ hL hk
  unfold vcOp at h ⊢
  rw [gi] at h
  revert h
  cases hgi : gd ops oi s with
  | none => exact fun h => h.elim
  | some b =>
    cases b with
    | false =>
      intro h
      have := after .skip s.σ s.h _ (fun _ _ => rfl) (by
        have e : (⟨((s.put oy.dst u).put oi.dst .skip).env, s.σ, s.h⟩ : St) = (s.put oy.dst u).put oi.dst .skip := by cases oy.dst <;> cases oi.dst <;> rfl
        rw [e]
        exact h) (fun _ => Iff.rfl) (if isQuiet oi.op then (i, roots s oi.op) :: L else L) (fun p hp => by
          by_cases hqi : isQuiet oi.op = true
          · rw [if_pos hqi] at hp ⊢
            rw [roots_congr ei]
            simp only [List.mem_cons] at hp ⊢
            rcases hp with h1 | h1 | h1
            · exact .inr (.inl h1)
            · exact .inl h1
            · exact .inr (.inr h1)
          · rw [if_neg hqi] at hp ⊢
            exact hp)
      have e : (⟨(s.put oi.dst .skip).env, s.σ, s.h⟩ : St) = s.put oi.dst .skip := by cases oi.dst <;> rfl
      rw [e] at this
      exact this
    | true =>
      intro h
      simp only at h ⊢
      by_cases hqi : isQuiet oi.op = true
      · rw [if_pos hqi] at h ⊢
        unfold vcRun at h ⊢
        rw [if_pos hqi] at h ⊢
        rw [evalQ_congr ei (fun r _ => by rw [put_σ])] at h
        revert h
        cases evalQ P s oi.op with
        | none => exact fun h => h.elim
        | some v =>
          intro h
          simp only [put_σ, put_h] at h ⊢
          refine after v s.σ s.h _ (fun _ _ => rfl) h (fun _ => Iff.rfl) _ (fun p hp => ?_)
          rw [roots_congr ei]
          simp only [List.mem_cons] at hp ⊢
          rcases hp with h1 | h1 | h1
          · exact .inr (.inl h1)
          · exact .inl h1
          · exact .inr (.inr h1)
      · rw [if_neg hqi] at h ⊢
        have h2 := vcRun_congr ei (put_σ _ _ _) (put_h _ _ _) h
        refine vcRun_mono (fun ts ht => ckL_sub (fun p hp => List.mem_cons_of_mem _ hp) ht) (fun v σ' h' k => ?_) (vcRun_touch (by simpa using hqi) h2)
        obtain ⟨k1, ts, k2, k3⟩ := k
        refine after v σ' h' _ (fun r hr => k3 r (hrlt r hr) ?_) k1 (fun _ => Iff.rfl) _ (fun p hp => hp)
        rcases k2 (y, roots s oy.op) List.mem_cons_self with h3 | h3
        · exact absurd h3 hC
        · exact h3 r hr

/-- An operation is brought to the front, past quiet ones. -/
theorem vcR_front (hX : ∀ b, X b → b < w0.heap.size) (hd : ∀ (j : Nat) (o : Oper) (t : Nat), ops[j]? = some o → o.dst = some t → t < N) {i : Nat} {oi : Oper} (hio : ops[i]? = some oi) : ∀ (l1 l2 : List Nat) (L : Lst) (a : Act) (s : St), Inv w0 av0 X N a w s →
    (∀ y ∈ l1, ∃ oy, ops[y]? = some oy ∧ isQuiet oy.op = true ∧ oy.apart ops oi = true ∧ y ∉ C.getD i []) → vcR P ops C (l1 ++ i :: l2) L K s → vcR P ops C (i :: (l1 ++ l2)) L K s
  | [], l2, L, a, s, hi, _, h => h
  | y :: l1, l2, L, a, s, hi, hl, h => by
    obtain ⟨oy, hy, hq, hap, hC⟩ := hl y (by simp)
    refine vcR_swap hi hy hio hq hap hC ?_
    rw [List.cons_append] at h
    unfold vcR at h ⊢
    rw [hy] at h ⊢
    simp only at h ⊢
    obtain ⟨u, hu, h⟩ := QY.of_op hq h
    refine hu.op hq ?_
    have hput : ∃ x, Inv w0 av0 X N (a.put oy.dst x) w (s.put oy.dst u) := by
      rcases hu with ⟨_, h2⟩ | ⟨_, rfl⟩
      · obtain ⟨val, _, h3⟩ := evalQ_sound hi h2
        exact ⟨val, hi.put (fun t ht => hd y oy t hy ht) h3⟩
      · exact ⟨_, hi.put (fun t ht => hd y oy t hy ht) .skip⟩
    obtain ⟨x, hinv⟩ := hput
    exact vcR_front hX hd hio l1 l2 _ _ _ hinv (fun z hz => hl z (by simp [hz])) h
end
end Go.VL
