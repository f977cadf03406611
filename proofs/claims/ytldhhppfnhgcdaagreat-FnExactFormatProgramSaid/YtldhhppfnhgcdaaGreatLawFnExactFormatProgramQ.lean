/- The law FnExactFormatProgram answers true at every argument that its parameters allow, and leaves them as they were. It holds with no condition beyond the row's own. -/
import Derived.Test.YtldhhppfnhgcdaaGreatRows
import Derived.Test.YtldhhppfnhgcdaaGreatWB8Q
import Derived.WalkKit
import Derived.ProofKit
import Derived.OpenShut
import Derived.ChangeOld
import Derived.Below
import Derived.SizedLaws
import Derived.Carry
namespace Go.Proofs.YtldhhppfnhgcdaaGreat.fnExactFormatProgramRow
open Go Go.VL Go.ChangeShapes Go.WideShapes Go.ChangeAt Go.RowKit
set_option linter.unusedVariables false
theorem own : ownKnob Tryz.prog.godebug = none := by kernel_rfl
theorem laidOut : laidOutB Tryz.prog = true := by kernel_rfl
theorem closed : closedB Tryz.prog [24, 22, 49, 9, 36, 47, 3, 45] = true := by kernel_rfl
set_option maxRecDepth 100000 in
theorem lifted (os : Os) (started : os.Started) (H : Type) (enc : TypeId × Value → H) :
    ReturnsInHanded {} Tryz.checked os 3 .any (Rows.fnExactFormatProgramSpec.pre6 enc Tryz.prog Tryz.f3 Rows.fnExactFormatProgramRow.domain false) (Rows.fnExactFormatProgramSpec.post enc Tryz.prog Tryz.f3 false true false false) := by
  refine returnsInHanded_of_change_sized (C := Tryz.checked) own started (by kernel_rfl) Tryz.func3
    (ChangeSpec.witness6 (enc := enc) (C := Tryz.checked) false ⟨#[], #[.agg #[.slice none 0 0]], []⟩ 8 (by kernel_rfl) (by kernel_rfl) (by kernel_rfl) (by kernel_rfl)) ?_
  intro W base args ds gs before hval0 hW hcnd hsz0 _
  have hsz : (DataW.weightsEach Tryz.prog (Tryz.f3.params.toList ++ Rows.fnExactFormatProgramSpec.plain.varTypes Tryz.prog) (ds ++ gs)).all (· ≤ reachBytes) = true := hsz0
  have hval : ∀ (j : Nat) t v, Tryz.f3.params[j]? = some t → args[j]? = some v → Value.okWide Tryz.prog W .any base t v := hval0
  have hW' := hW
  obtain ⟨p, q, hA0, hV, rfl, hfz, hnd⟩ := hW
  have hA : DataW.TrodAll enc Tryz.prog W 0 (fun _ => true) true Tryz.f3.params.toList args.toList ds p := hA0
  rw [Tryz.params3] at hA hval hsz
  obtain ⟨v0, vs0, d0, ds0, p0, q0, hargs0, rfl, rfl, h0, r0⟩ := trodAll_cons hA
  obtain ⟨rfl, rfl, rfl⟩ := trodAll_nil r0
  obtain rfl : args = #[v0] := by cases args; simp_all
  obtain ⟨rfl, rfl⟩ := trodVars_none hV
  obtain ⟨c0_, ty0, hv0⟩ := VR_of_Trod closed (by simp) (hval 0 24 v0 rfl rfl) h0 (fun m hm => by simpa using List.all_eq_true.1 hsz m (DataW.weights_mem_each (j := 0) rfl rfl m hm))
  obtain ⟨x0, rx0, lx0, sx0⟩ := Pg_of_Ty Tryz.underlying24 rfl Tryz.underlying22 (by rw [show Program.bytesOf Tryz.prog 49 = 128 by kernel_rfl]; decide) Tryz.underlying49 rfl Tryz.underlying36 (by rw [show Program.bytesOf Tryz.prog 9 = 16 by kernel_rfl]; decide) Tryz.underlying47 rfl Tryz.underlying3 Tryz.underlying9 Tryz.underlying45 (by rw [show Program.bytesOf Tryz.prog 47 = 48 by kernel_rfl]; decide) ty0
  rw [vOf_struct Tryz.underlying24] at hv0
  have reach := reach47
  have hlt : ∀ x ∈ p0, x.block < W.heap.size := fun x hx => by simpa using hW'.lt x (by simpa using hx)
  refine (law_calls (laws_FnExactFormatProgram x0 c0_ rx0 lx0 sx0) (VRs.cons hv0 (VRs.nil W))).mono fun e W' ⟨he, bel⟩ => ?_
  subst he
  exact ⟨_, rfl, _, _, _, [], _, [], hW', trodAll_mk1 (shut_bool Tryz.underlying4 _), (trodAll_cons_mk (Below.trod laidOut (by kernel_rfl) (of_decide_eq_true (by kernel_rfl)) h0 bel (fun x hx => hlt x (by simp [hx]))) trodAll_mk0), rfl, bel.frame _, fun h => by cases h⟩
theorem over : Rows.fnExactFormatProgramRow.holds Tryz.pinned (OpenSpec.ofChange Rows.fnExactFormatProgramSpec) :=
  OpenClaim.holds_of_wide 3 Tryz.f3 rfl rfl rfl rfl rfl rfl rfl ⟨rfl, rfl, rfl, rfl, rfl⟩ rfl rfl rfl rfl rfl (by kernel_rfl) Tryz.func3 (by kernel_rfl)
    (of_decide_eq_true (by kernel_rfl)) (by unfold Func.isWrapper; first | (rw [if_pos (by decide +kernel)]; kernel_rfl) | (rw [if_neg (by decide +kernel)]; exact ⟨rfl, rfl⟩))
    (fun os started H enc _ => lifted os started H enc)
end Go.Proofs.YtldhhppfnhgcdaaGreat.fnExactFormatProgramRow
namespace Go.Proofs.YtldhhppfnhgcdaaGreat
/-- The row, under a short name, for the claim. -/
theorem fnExactFormatProgram_holds : Rows.FnExactFormatProgramSaid := fnExactFormatProgramRow.over
#print axioms fnExactFormatProgram_holds
end Go.Proofs.YtldhhppfnhgcdaaGreat
