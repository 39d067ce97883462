/- The plain statement of the law ParityField. -/
import Derived.Test.YtdfbokcboomklaaQ2
import Derived.Test.YtdfbokcboomklaaQT
import Derived.Test.YtdfbokcboomklaaParT
namespace Go.Proofs.Ytdfbokcboomklaa.Pure
open Go.RowKit Go.Proofs.YtdfbokcboomklaaW.PrintWords Go.Proofs.YtdfbokcboomklaaW.PrintLast Go.Proofs.YtdfbokcboomklaaW.PrintMore Go.Proofs.Ytdfbokcboomklaa.Open Go.Proofs.Ytdfbokcboomklaa.Q Go.Proofs.Ytdfbokcboomklaa.Aid
theorem ParityField : ∀ (a0 : Int) (a1 : Int), (Lit.int .u8 a0).wf = true → (Lit.int .u8 a1).wf = true → ∃ k, fringelaw45_ParityField.f k a0 a1 = some true := by
  intro a0 a1 h0 h1
  obtain ⟨p0, q0⟩ := wf8 h0
  obtain ⟨p1, q1⟩ := wf8 h1
  obtain ⟨a, rfl⟩ := Int.eq_ofNat_of_zero_le p0
  obtain ⟨b, rfl⟩ := Int.eq_ofNat_of_zero_le p1
  refine Ev.rounds ?_
  simp only [fringelaw45_ParityField.f]
  have hmul : parity_Mul.f (a : Int) (b : Int) = some ((parity_mulN a b : Nat) : Int) := by unfold parity_Mul.f; rw [if_pos ⟨p0, q0, p1, q1⟩]; simp
  by_cases ha : a = 0
  · subst ha
    have hi : parity_Inv.f ((0 : Nat) : Int) = some (0, 18) := by unfold parity_Inv.f; rw [if_pos (by simp)]
    simp only [hi, hmul, Option.bind_some]
    refine Ev.bind (g := fun k => fringeref45_Inv.f k ((0 : Nat) : Int)) (a := (0, 18)) (by simp only [fringeref45_Inv.f]; exact Ev.iteT (by simp) (Ev.now _)) ?_
    refine Ev.bind (ref_Mul (by omega) (by omega)) ?_
    exact Ev.iteT rfl (Ev.iteT rfl (Ev.some_of rfl))
  · have hi : parity_Inv.f (a : Int) = some (((parity_invN a : Nat) : Int), 0) := by unfold parity_Inv.f; rw [if_neg (by omega), if_pos ⟨p0, q0⟩]; simp
    simp only [hi, hmul, Option.bind_some]
    refine Ev.bind (g := fun k => fringeref45_Inv.f k (a : Int)) (a := (((parity_invN a : Nat) : Int), 0)) (by simp only [fringeref45_Inv.f]; exact Ev.iteF (by omega) (Ev.bind (ref_inverse (by omega) ha) (Ev.now _))) ?_
    refine Ev.bind (ref_Mul (by omega) (by omega)) ?_
    exact Ev.iteT rfl (Ev.iteT rfl (Ev.some_of rfl))
end Go.Proofs.Ytdfbokcboomklaa.Pure
