/- The row of the law ParityNames: for every input the law returns true. No condition. (The machine for closed calls says so, and the machine is sound.) -/
import Derived.Test.YtcfclmmmfigjgafRows
import Derived.Test.YtcfclmmmfigjgafRunM
import Derived.WalkKit
import Derived.ProofKit
import Derived.OpenShut
import Derived.ShutString
import Derived.ChangeOld
import Derived.Below
import Derived.SizedLaws
namespace Go.Proofs.Ytcfclmmmfigjgaf.parityNames
open Go.ChangeShapes Go.WideShapes Go.ChangeAt
open Go.RowKit
set_option linter.unusedVariables false
theorem own : ownKnob Try.prog.godebug = none := by kernel_rfl
theorem says : Run.saysTrueB Try.prog (Run.baseOf Try.prog 14 100000) 3 100000 = true := by kernel_rfl
set_option maxRecDepth 100000 in
theorem lifted (os : Os) (started : os.Started) (H : Type) (enc : TypeId × Value → H) :
    ReturnsInHanded {} Try.checked os 3 .any (Rows.parityNamesSpec.pre6 enc Try.prog Try.f3 Rows.parityNamesRow.domain false) (Rows.parityNamesSpec.post enc Try.prog Try.f3 false true false false) := by
  refine returnsInHanded_of_change_sized (C := Try.checked) own started (by kernel_rfl) Try.func3
    (ChangeSpec.witness6 (enc := enc) (C := Try.checked) false ⟨#[], #[], []⟩ 3 (by kernel_rfl) (by kernel_rfl) (by kernel_rfl) (by kernel_rfl)) ?_
  intro W base args ds gs before hval0 hW hcnd hsz0 _
  have hW' := hW
  obtain ⟨p, q, hA0, hV, rfl, hfz, hnd⟩ := hW
  have hA : DataW.TrodAll enc Try.prog W 0 (fun _ => true) true Try.f3.params.toList args.toList ds p := hA0
  rw [Try.params3] at hA
  obtain ⟨rfl, rfl, rfl⟩ := trodAll_none hA
  obtain ⟨rfl, rfl⟩ := trodVars_none hV
  refine (Run.says_trueB (Run.base_ok 14 100000) says W).mono fun e W' ⟨he, bel⟩ => ?_
  subst he
  exact ⟨_, rfl, _, _, _, [], _, [], hW', trodAll_mk1 (shut_bool Try.underlying4 _), trodAll_mk0, rfl, bel.frame _, fun h => by cases h⟩
theorem over : Rows.parityNamesRow.holds Try.pinned (OpenSpec.ofChange Rows.parityNamesSpec) :=
  OpenClaim.holds_of_wide 3 Try.f3 rfl rfl rfl rfl rfl rfl rfl ⟨rfl, rfl, rfl, rfl, rfl⟩ rfl rfl rfl rfl rfl (by kernel_rfl) Try.func3 (by kernel_rfl)
    (of_decide_eq_true (by kernel_rfl)) (by unfold Func.isWrapper; first | (rw [if_pos (by decide +kernel)]; kernel_rfl) | (rw [if_neg (by decide +kernel)]; exact ⟨rfl, rfl⟩))
    (fun os started H enc _ => lifted os started H enc)
theorem proved : Rows.ParityNamesSaid := over
#print axioms proved
end Go.Proofs.Ytcfclmmmfigjgaf.parityNames
namespace Go.Proofs.Ytcfclmmmfigjgaf
/-- The row, under a short name, for the claim. -/
theorem parityNames_holds : Rows.ParityNamesSaid := parityNames.proved
end Go.Proofs.Ytcfclmmmfigjgaf
