/- Walks through the code: each function's contract. -/
import Derived.Test.YtljpginlkhmjdaaWB
set_option linter.unusedVariables false
set_option linter.unusedSimpArgs false
set_option maxRecDepth 8000
namespace Go.Proofs.Ytljpginlkhmjdaa
open Go Go.VL

end Go.Proofs.Ytljpginlkhmjdaa
namespace Go.VL
mutual
/-- How many terms a term holds, itself among them. -/
def E.sz : E → Nat
  | .mk _ _ us => 1 + E.szL us
def E.szL : List E → Nat
  | [] => 0
  | e :: l => E.sz e + E.szL l
end
theorem E.szL_drop {l : List E} {n : Nat} (h : n < l.length) : E.szL (l.drop n) = E.sz l[n] + E.szL (l.drop (n + 1)) := by rw [drop_get h, E.szL]
theorem E.sz_wt : ∀ e : E, e.sz ≤ e.wt + 1 := by
  intro e
  induction e using E.ind with
  | h k n us ih =>
    rw [E.sz, E.wt]
    have : ∀ l : List E, (∀ a ∈ l, a.sz ≤ a.wt + 1) → E.szL l ≤ E.wtL l := by
      intro l
      induction l with
      | nil => exact fun _ => Nat.le_refl _
      | cons a l ihl =>
        intro h
        rw [E.szL, E.wtL]
        have h1 := h a List.mem_cons_self
        have h2 := ihl fun b hb => h b (List.mem_cons_of_mem _ hb)
        omega
    have := this us ih
    omega
theorem E.szL_wtL (l : List E) : E.szL l ≤ E.wtL l := by
  have h := E.sz_wt (.mk 0 ⟨#[]⟩ l)
  rw [E.sz, E.wt] at h
  have : (⟨#[]⟩ : ByteArray).size = 0 := rfl
  omega
end Go.VL
namespace Go.Proofs.Ytljpginlkhmjdaa
open Go Go.VL

end Go.Proofs.Ytljpginlkhmjdaa
namespace Go.VL
mutual
/-- How deep a term is. -/
def E.dp : E → Nat
  | .mk _ _ us => 1 + E.dpL us
def E.dpL : List E → Nat
  | [] => 0
  | e :: l => max (E.dp e) (E.dpL l)
end
theorem E.dpL_drop {l : List E} {n : Nat} (h : n < l.length) : E.dpL (l.drop n) = max (E.dp l[n]) (E.dpL (l.drop (n + 1))) := by rw [drop_get h, E.dpL]
theorem E.dp_sz : ∀ e : E, e.dp ≤ e.sz := by
  intro e
  induction e using E.ind with
  | h k n us ih =>
    rw [E.sz, E.dp]
    have : ∀ l : List E, (∀ a ∈ l, a.dp ≤ a.sz) → E.dpL l ≤ E.szL l := by
      intro l
      induction l with
      | nil => exact fun _ => Nat.le_refl _
      | cons a l ihl =>
        intro h
        rw [E.szL, E.dpL]
        have h1 := h a List.mem_cons_self
        have h2 := ihl fun b hb => h b (List.mem_cons_of_mem _ hb)
        omega
    have := this us ih
    omega
theorem E.dpL_wtL (l : List E) : E.dpL l ≤ E.wtL l := by
  have h := E.dp_sz (.mk 0 ⟨#[]⟩ l)
  have h2 := E.szL_wtL l
  rw [E.sz, E.dp] at h
  omega
end Go.VL
namespace Go.Proofs.Ytljpginlkhmjdaa
open Go Go.VL
end Go.Proofs.Ytljpginlkhmjdaa
