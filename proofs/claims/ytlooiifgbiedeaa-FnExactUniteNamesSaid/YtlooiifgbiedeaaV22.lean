/- VL, part 22: terms (a kind, a name, arguments) as trees; how rows stand for them. -/
import Derived.Test.YtlooiifgbiedeaaV21
namespace Go.VL
set_option linter.unusedVariables false
set_option linter.unusedSimpArgs false

inductive E where
  | mk (k : Int) (n : ByteArray) (as : List E)
def E.kind : E → Int | .mk k _ _ => k
def E.name : E → ByteArray | .mk _ n _ => n
def E.args : E → List E | .mk _ _ as => as

theorem E.ind {p : E → Prop} (h : ∀ k n as, (∀ a ∈ as, p a) → p (.mk k n as)) : ∀ e, p e := by
  intro e
  have key : ∀ m (e : E), SizeOf.sizeOf e < m → p e := by
    intro m
    induction m with
    | zero => intro e he; omega
    | succ m ih =>
      intro e he
      obtain ⟨k, n, as⟩ := e
      refine h k n as fun a ha => ih a ?_
      have := List.sizeOf_lt_of_mem ha
      simp at he
      omega
  exact key _ e (Nat.lt_succ_self _)

mutual
def E.rep : E → List T → Prop
  | .mk k n as, c => ∃ g cs, c = [.int .i64 k, .str n, .sl g cs] ∧ E.repL as cs
def E.repL : List E → List (List T) → Prop
  | [], cs => cs = []
  | e :: l, cs => ∃ c r, cs = c :: r ∧ E.rep e c ∧ E.repL l r
end
theorem E.rep_mk {k : Int} {n : ByteArray} {as : List E} {c : List T} (h : (E.mk k n as).rep c) : ∃ g cs, c = [.int .i64 k, .str n, .sl g cs] ∧ E.repL as cs := by unfold E.rep at h; exact h
theorem E.rep_of {k : Int} {n : ByteArray} {as : List E} {g : Nat} {cs : List (List T)} (h : E.repL as cs) : (E.mk k n as).rep [.int .i64 k, .str n, .sl g cs] := by unfold E.rep; exact ⟨g, cs, rfl, h⟩
theorem E.rep_cells {e : E} {c : List T} (h : e.rep c) : ∃ g cs, c = [.int .i64 e.kind, .str e.name, .sl g cs] ∧ E.repL e.args cs := by
  obtain ⟨k, n, as⟩ := e
  exact E.rep_mk h
theorem E.repL_len : ∀ {l : List E} {cs : List (List T)}, E.repL l cs → cs.length = l.length
  | [], cs, h => by unfold E.repL at h; subst h; rfl
  | e :: l, cs, h => by
    unfold E.repL at h
    obtain ⟨c, r, rfl, _, h2⟩ := h
    simp [E.repL_len h2]
theorem E.repL_get : ∀ {l : List E} {cs : List (List T)}, E.repL l cs → ∀ {n : Nat} (h : n < l.length), ∃ c, cs[n]? = some c ∧ l[n].rep c
  | [], cs, h, n, hn => by simp at hn
  | e :: l, cs, h, n, hn => by
    unfold E.repL at h
    obtain ⟨c, r, rfl, h1, h2⟩ := h
    cases n with
    | zero => exact ⟨c, rfl, h1⟩
    | succ n => simpa using E.repL_get h2 (by simpa using hn)
theorem E.repL_append : ∀ {l l' : List E} {cs cs' : List (List T)}, E.repL l cs → E.repL l' cs' → E.repL (l ++ l') (cs ++ cs')
  | [], l', cs, cs', h, h' => by unfold E.repL at h; subst h; exact h'
  | e :: l, l', cs, cs', h, h' => by
    unfold E.repL at h
    obtain ⟨c, r, rfl, h1, h2⟩ := h
    show E.repL (e :: (l ++ l')) (c :: (r ++ cs'))
    unfold E.repL
    exact ⟨c, _, rfl, h1, E.repL_append h2 h'⟩
theorem E.repL_one {e : E} {c : List T} (h : e.rep c) : E.repL [e] [c] := by
  unfold E.repL
  exact ⟨c, [], rfl, h, by unfold E.repL; rfl⟩
theorem E.repL_nil : E.repL [] [] := by unfold E.repL; rfl

mutual
/-- What a term weighs: its names' bytes and its arguments' count. -/
def E.wt : E → Nat
  | .mk _ n as => n.size + E.wtL as
def E.wtL : List E → Nat
  | [] => 0
  | e :: l => 1 + E.wt e + E.wtL l
end
mutual
def E.small : E → Prop
  | .mk k n as => n.size ≤ reachBytes ∧ as.length ≤ reachBytes ∧ (Lit.int .i64 k).wf = true ∧ E.smallL as
def E.smallL : List E → Prop
  | [] => True
  | e :: l => E.small e ∧ E.smallL l
end
theorem E.small_mk {k : Int} {n : ByteArray} {as : List E} : (E.mk k n as).small ↔ n.size ≤ reachBytes ∧ as.length ≤ reachBytes ∧ (Lit.int .i64 k).wf = true ∧ E.smallL as := by rw [E.small]
theorem E.smallL_mem : ∀ {l : List E}, E.smallL l → ∀ e ∈ l, e.small
  | [], _, e, h => by cases h
  | x :: l, h, e, he => by
    rw [E.smallL] at h
    rcases List.mem_cons.1 he with rfl | he
    · exact h.1
    · exact E.smallL_mem h.2 e he
theorem E.smallL_of : ∀ {l : List E}, (∀ e ∈ l, e.small) → E.smallL l
  | [], _ => by rw [E.smallL]; trivial
  | x :: l, h => by rw [E.smallL]; exact ⟨h x List.mem_cons_self, E.smallL_of fun e he => h e (List.mem_cons_of_mem _ he)⟩
theorem E.wtL_len : ∀ l : List E, l.length ≤ E.wtL l
  | [] => Nat.le_refl _
  | e :: l => by rw [E.wtL, List.length_cons]; have := E.wtL_len l; omega
theorem E.wtL_mem : ∀ {l : List E} {e : E}, e ∈ l → e.wt + 1 ≤ E.wtL l
  | [], _, h => by cases h
  | x :: l, e, h => by
    rw [E.wtL]
    rcases List.mem_cons.1 h with rfl | h
    · omega
    · have := E.wtL_mem h; omega
theorem E.wtL_drop {l : List E} {n : Nat} (h : n < l.length) : E.wtL (l.drop n) = 1 + l[n].wt + E.wtL (l.drop (n + 1)) := by rw [drop_get h, E.wtL]

theorem E_of_Ty {P : Program} {t ti tn tl : TypeId} {fs : Array Field} (hu : P.underlying t = some (.struct fs)) (hf : fs.toList.map (·.type) = [ti, tn, tl]) (h1 : P.underlying ti = some (.int .i64)) (h2 : P.underlying tn = some .string) (h3 : P.underlying tl = some (.slice t))
    (hb : 0 < P.bytesOf t) {ts : List T} (h : Ty P t ts) : ∃ e : E, e.rep ts ∧ e.small := by
  have key : ∀ m (ts : List T), SizeOf.sizeOf ts < m → Ty P t ts → ∃ e : E, e.rep ts ∧ e.small := by
    intro m
    induction m with
    | zero => intro ts hs; omega
    | succ m ih =>
      intro ts hs h
      have hF := h.inv_struct hu
      match hfs : fs.toList, hf with
      | [f1, f2, f3], hf =>
        simp only [List.map_cons, List.map_nil, List.cons.injEq, and_true] at hf
        obtain ⟨e1, e2, e3⟩ := hf
        rw [hfs] at hF
        obtain ⟨x, y, rfl, k1, k2⟩ := hF.inv_cons
        obtain ⟨x2, y2, rfl, k3, k4⟩ := k2.inv_cons
        obtain ⟨x3, y3, rfl, k5, k6⟩ := k4.inv_cons
        obtain rfl := k6.inv_nil
        obtain ⟨n, rfl, hn⟩ := k1.inv_int (e1 ▸ h1)
        obtain ⟨s, rfl, hs2⟩ := k3.inv_str (e2 ▸ h2)
        obtain ⟨g, es, rfl, hes, hsz⟩ := k5.inv_sl (e3 ▸ h3)
        have hall : ∀ (es : List (List T)), (∀ x ∈ es, SizeOf.sizeOf x < m) → (∀ x ∈ es, Ty P t x) → ∃ l : List E, E.repL l es ∧ E.smallL l := by
          intro es
          induction es with
          | nil => exact fun _ _ => ⟨[], E.repL_nil, by rw [E.smallL]; trivial⟩
          | cons x es ihes =>
            intro g1 g2
            obtain ⟨e, q1, q2⟩ := ih x (g1 x List.mem_cons_self) (g2 x List.mem_cons_self)
            obtain ⟨l, q3, q4⟩ := ihes (fun y hy => g1 y (List.mem_cons_of_mem _ hy)) (fun y hy => g2 y (List.mem_cons_of_mem _ hy))
            exact ⟨e :: l, by unfold E.repL; exact ⟨x, es, rfl, q1, q3⟩, by rw [E.smallL]; exact ⟨q2, q4⟩⟩
        obtain ⟨l, q1, q2⟩ := hall es (fun x hx => by
          have := List.sizeOf_lt_of_mem hx
          simp at hs
          omega) hes
        refine ⟨.mk n s l, E.rep_of q1, ?_⟩
        rw [E.small_mk]
        exact ⟨hs2, by rw [← E.repL_len q1]; exact Nat.le_trans (Nat.le_mul_of_pos_right _ hb) hsz, hn, q2⟩
  exact key _ ts (Nat.lt_succ_self _) h
theorem Es_of_Ty {P : Program} {t ti tn tl : TypeId} {fs : Array Field} (hu : P.underlying t = some (.struct fs)) (hf : fs.toList.map (·.type) = [ti, tn, tl]) (h1 : P.underlying ti = some (.int .i64)) (h2 : P.underlying tn = some .string) (h3 : P.underlying tl = some (.slice t))
    (hb : 0 < P.bytesOf t) {ts : List T} (h : Ty P tl ts) : ∃ (g : Nat) (cs : List (List T)) (l : List E), ts = [.sl g cs] ∧ E.repL l cs ∧ l.length ≤ reachBytes ∧ E.smallL l := by
  obtain ⟨g, es, rfl, hes, hsz⟩ := h.inv_sl h3
  have hall : ∀ (es : List (List T)), (∀ x ∈ es, Ty P t x) → ∃ l : List E, E.repL l es ∧ E.smallL l := by
    intro es
    induction es with
    | nil => exact fun _ => ⟨[], E.repL_nil, by rw [E.smallL]; trivial⟩
    | cons x es ihes =>
      intro g2
      obtain ⟨e, q1, q2⟩ := E_of_Ty hu hf h1 h2 h3 hb (g2 x List.mem_cons_self)
      obtain ⟨l, q3, q4⟩ := ihes (fun y hy => g2 y (List.mem_cons_of_mem _ hy))
      exact ⟨e :: l, by unfold E.repL; exact ⟨x, es, rfl, q1, q3⟩, by rw [E.smallL]; exact ⟨q2, q4⟩⟩
  obtain ⟨l, q1, q2⟩ := hall es hes
  exact ⟨g, es, l, rfl, q1, by rw [← E.repL_len q1]; exact Nat.le_trans (Nat.le_mul_of_pos_right _ hb) hsz, q2⟩

mutual
def E.eqb : E → E → Bool
  | .mk k n as, .mk k' n' as' => decide (k = k') && decide (n = n') && E.eqbL as as'
def E.eqbL : List E → List E → Bool
  | [], [] => true
  | a :: l, b :: l' => E.eqb a b && E.eqbL l l'
  | _, _ => false
end
mutual
theorem E.eqb_iff : ∀ a b : E, E.eqb a b = true ↔ a = b
  | .mk k n as, .mk k' n' as' => by
    rw [E.eqb]
    simp only [Bool.and_eq_true, decide_eq_true_eq, E.eqbL_iff as as', E.mk.injEq, and_assoc]
theorem E.eqbL_iff : ∀ a b : List E, E.eqbL a b = true ↔ a = b
  | [], [] => by simp [E.eqbL]
  | [], _ :: _ => by simp [E.eqbL]
  | _ :: _, [] => by simp [E.eqbL]
  | a :: l, b :: l' => by
    rw [E.eqbL]
    simp only [Bool.and_eq_true, E.eqb_iff a b, E.eqbL_iff l l', List.cons.injEq]
end
theorem E.eqb_self (a : E) : E.eqb a a = true := (E.eqb_iff a a).2 rfl
theorem E.eqbL_self (a : List E) : E.eqbL a a = true := (E.eqbL_iff a a).2 rfl
theorem E.eqbL_len : ∀ {a b : List E}, a.length ≠ b.length → E.eqbL a b = false
  | [], [], h => by simp at h
  | [], _ :: _, h => rfl
  | _ :: _, [], h => rfl
  | a :: l, b :: l', h => by rw [E.eqbL, E.eqbL_len (by simpa using h), Bool.and_false]
theorem E.eqbL_drop {a b : List E} {n : Nat} (h : n < a.length) (h' : n < b.length) : E.eqbL (a.drop n) (b.drop n) = (E.eqb a[n] b[n] && E.eqbL (a.drop (n + 1)) (b.drop (n + 1))) := by rw [drop_get h, drop_get h', E.eqbL]
end Go.VL
