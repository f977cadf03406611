/- VL, part 18: rows that are filled, frozen rows, sums. -/
import Derived.Test.YtlooiifgbiedeaaV17
namespace Go.VL
set_option linter.unusedVariables false
set_option linter.unusedSimpArgs false

/-- A row that is filled from the front. -/
theorem fill_get {α : Type} (acc : List α) (k : Nat) (z : α) (hk : 0 < k) : (acc ++ List.replicate k z)[acc.length]? = some z := by
  rw [List.getElem?_append_right (Nat.le_refl _), Nat.sub_self, List.getElem?_replicate]
  simp [hk]
theorem fill_set {α : Type} (acc : List α) (k : Nat) (z v : α) (hk : 0 < k) : (acc ++ List.replicate k z).set acc.length v = (acc ++ [v]) ++ List.replicate (k - 1) z := by
  rw [List.set_append_right _ _ (Nat.le_refl _), Nat.sub_self]
  cases k with
  | zero => omega
  | succ k => simp [List.replicate_succ]
theorem replicate_zero' {α : Type} (z : α) : List.replicate 0 z = [] := rfl

theorem frz_t (σ : List Ob) (bor : List Nat) (n : Nat) (x : T) : frz σ bor n (.t x) = some x := by cases n <;> rfl
theorem mapM_frz (σ : List Ob) (bor : List Nat) (n : Nat) : ∀ l : List T, (l.map V.t).mapM (frz σ bor n) = some l
  | [] => rfl
  | x :: l => by rw [List.map_cons, List.mapM_cons, frz_t, mapM_frz σ bor n l]; rfl
theorem mapM_mapM_frz (σ : List Ob) (bor : List Nat) (n : Nat) : ∀ l : List (List T), (l.map (·.map V.t)).mapM (fun e => e.mapM (frz σ bor n)) = some l
  | [] => rfl
  | x :: l => by rw [List.map_cons, List.mapM_cons, mapM_frz, mapM_mapM_frz σ bor n l]; rfl
theorem frz_row {σ : List Ob} {bor : List Nat} {n r g v sz m len : Nat} {ts : List (List T)} (hr : σ[r]? = some (.row g v sz m (ts.map (·.map V.t)))) (hb : r ∈ bor) (hl : len = ts.length) : frz σ bor (n + 1) (.own r v 0 len) = some (.sl g ts) := by
  unfold frz
  rw [if_pos hb, hr]
  simp only [if_true, List.drop_zero, hl]
  rw [List.take_of_length_le (by simp), mapM_mapM_frz]
/-- A row of one's own, frozen as it is handed out. -/
theorem loc_frz {σ : List Ob} {bor : List Nat} {r g v sz m len : Nat} {es : List (List V)} (ts : List (List T)) (hr : σ[r]? = some (.row g v sz m es)) (he : es = ts.map (·.map V.t)) (hb : r ∈ bor) (hl : len = ts.length) : (V.own r v 0 len).loc σ [] bor = .t (.sl g ts) := by
  subst he
  simp only [V.loc, idx, frz_row hr hb hl]

theorem gc_env (s : St) (keep bor : List Nat) (t : Nat) : (s.gc keep bor).env t = (s.env t).loc s.σ keep bor := rfl
theorem gc_σ (s : St) (keep bor : List Nat) : (s.gc keep bor).σ = locObs s.σ keep bor := rfl
theorem max_cast (a b : Nat) : max (a : Int) (b : Int) = ((max a b : Nat) : Int) := by omega
theorem min_cast (a b : Nat) : min (a : Int) (b : Int) = ((min a b : Nat) : Int) := by omega
def sumB : List ByteArray → Nat
  | [] => 0
  | x :: l => x.size + sumB l
end Go.VL
