/- Walks through the code: each function's contract. -/
import Derived.Test.YtldhhppfnhgcdaaGreatWCQ
set_option linter.unusedVariables false
set_option linter.unusedSimpArgs false
set_option maxRecDepth 8000
namespace Go.Proofs.YtldhhppfnhgcdaaGreat
open Go Go.VL

end Go.Proofs.YtldhhppfnhgcdaaGreat
namespace Go.VL
/-- A generalization. -/
structure Gn where
  tm : E
  fs : List B
  sn : List B
def Gn.rep (x : Gn) (c : List T) : Prop := ∃ (ce : List T) (g1 g2 : Nat) (c1 c2 : List (List T)), c = ce ++ [.sl g1 c1, .sl g2 c2] ∧ x.tm.rep ce ∧ Rl B.rep x.fs c1 ∧ Rl B.rep x.sn c2
def Gn.wt (x : Gn) : Nat := x.tm.wt + wl B.wt x.fs + wl B.wt x.sn
def Gn.small (x : Gn) : Prop := x.tm.small ∧ (x.fs.length ≤ reachBytes ∧ ∀ b ∈ x.fs, b.small) ∧ (x.sn.length ≤ reachBytes ∧ ∀ b ∈ x.sn, b.small)
def Gn.eqb (a b : Gn) : Bool := E.eqb a.tm b.tm && (eql B.eqb a.fs b.fs && eql B.eqb a.sn b.sn)
theorem Gn.eqb_self (a : Gn) : Gn.eqb a a = true := by rw [Gn.eqb, E.eqb_self, eql_self B.eqb_self, eql_self B.eqb_self]; rfl
theorem Gn.cells {x : Gn} {c : List T} (h : x.rep c) : ∃ (k : Int) (n : ByteArray) (g : Nat) (cs : List (List T)) (g1 g2 : Nat) (c1 c2 : List (List T)), c = [.int .i64 k, .str n, .sl g cs, .sl g1 c1, .sl g2 c2] ∧ x.tm.rep [.int .i64 k, .str n, .sl g cs] ∧ Rl B.rep x.fs c1 ∧ Rl B.rep x.sn c2 := by
  obtain ⟨ce, g1, g2, c1, c2, rfl, h1, h2, h3⟩ := h
  obtain ⟨g, cs, rfl, _⟩ := E.rep_cells h1
  exact ⟨_, _, g, cs, g1, g2, c1, c2, rfl, h1, h2, h3⟩
theorem three_of {l : List Field} {a b c : TypeId} (h : l.map (·.type) = [a, b, c]) : ∃ f1 f2 f3 : Field, l = [f1, f2, f3] ∧ f1.type = a ∧ f2.type = b ∧ f3.type = c := by
  rcases l with _ | ⟨f1, _ | ⟨f2, _ | ⟨f3, _ | ⟨f4, l⟩⟩⟩⟩
  · simp at h
  · simp at h
  · simp at h
  · simp only [List.map_cons, List.map_nil, List.cons.injEq, and_true] at h
    exact ⟨f1, f2, f3, rfl, h.1, h.2.1, h.2.2⟩
  · simp at h
theorem Gn_of_Ty {P : Program} {tg tbl tb tn t ti tl : TypeId} {fg fb fs : Array Field} (hg0 : P.underlying tg = some (.struct fg)) (hfg : fg.toList.map (·.type) = [t, tbl, tbl]) (hbl : P.underlying tbl = some (.slice tb)) (hbb : 0 < P.bytesOf tb) (hb0 : P.underlying tb = some (.struct fb)) (hfb : fb.toList.map (·.type) = [tn, t]) (hu : P.underlying t = some (.struct fs)) (hf : fs.toList.map (·.type) = [ti, tn, tl]) (h1 : P.underlying ti = some (.int .i64)) (h2 : P.underlying tn = some .string) (h3 : P.underlying tl = some (.slice t))
    (hb : 0 < P.bytesOf t) {ts : List T} (h : Ty P tg ts) : ∃ x : Gn, x.rep ts ∧ x.small := by
  have hF := h.inv_struct hg0
  obtain ⟨f1, f2, f3, hfs, e1, e2, e3⟩ := three_of hfg
  rw [hfs] at hF
  obtain ⟨x, y, rfl, k1, k2⟩ := hF.inv_cons
  obtain ⟨x2, y2, rfl, k3, k4⟩ := k2.inv_cons
  obtain ⟨x3, y3, rfl, k5, k6⟩ := k4.inv_cons
  obtain rfl := k6.inv_nil
  rw [e1] at k1
  rw [e2] at k3
  rw [e3] at k5
  obtain ⟨v, r1, r2⟩ := E_of_Ty hu hf h1 h2 h3 hb k1
  obtain ⟨g1, c1, l1, rfl, q1, q2, q3⟩ := Bs_of_Ty hbl hbb hb0 hfb hu hf h1 h2 h3 hb k3
  obtain ⟨g2, c2, l2, rfl, q4, q5, q6⟩ := Bs_of_Ty hbl hbb hb0 hfb hu hf h1 h2 h3 hb k5
  exact ⟨⟨v, l1, l2⟩, ⟨x, g1, g2, c1, c2, by simp, r1, q1, q4⟩, r2, ⟨q2, q3⟩, q5, q6⟩
end Go.VL
namespace Go.Proofs.YtldhhppfnhgcdaaGreat
open Go Go.VL
end Go.Proofs.YtldhhppfnhgcdaaGreat
