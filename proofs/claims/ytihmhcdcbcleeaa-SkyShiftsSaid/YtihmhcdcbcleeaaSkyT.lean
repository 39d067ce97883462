/- What the function Turned of the sky comes to. -/
import Derived.Test.YtihmhcdcbcleeaaQ20
import Derived.Test.YtihmhcdcbcleeaaSkyB
namespace Go.Proofs.Ytihmhcdcbcleeaa.Pure
open Go.RowKit Go.Proofs.YtihmhcdcbcleeaaW.PrintWords Go.Proofs.YtihmhcdcbcleeaaW.PrintLast Go.Proofs.YtihmhcdcbcleeaaW.PrintMore Go.Proofs.Ytihmhcdcbcleeaa.Open Go.Proofs.Ytihmhcdcbcleeaa.Q Go.Proofs.Ytihmhcdcbcleeaa.Aid
theorem sky_Turned_ev (p : List S41) (l : List S33) (x y : Int) (hp : ∀ s ∈ p, R2 s) : Ev (fun k => sky_Turned.f k p l x y) (TurnS p l x y) := by
  unfold TurnS
  simp only [sky_Turned.f]
  refine Ev.bind (sky_both_ev p l hp) ?_
  by_cases h : bth p l = 0
  · obtain ⟨h1, _, h2, h3, h4⟩ := bth_ok h
    rw [if_pos h]
    refine Ev.iteT h ?_
    by_cases hc : -8 ≤ x ∧ x ≤ 8 ∧ -8 ≤ y ∧ y ≤ 8
    · rw [if_pos hc]
      exact Ev.iteF (by omega) (Ev.iteF (by omega) (Ev.iteF (by omega) (Ev.iteF (by omega) (Ev.bind (sky_turned_ev p l h1 h2 h3 h4 x y (by omega) (by omega)) (Ev.now _)))))
    · rw [if_neg hc]
      exact Ev.ite (fun _ => Ev.now _) (fun c1 => Ev.ite (fun _ => Ev.now _) (fun c2 => Ev.ite (fun _ => Ev.now _) (fun c3 => Ev.ite (fun _ => Ev.now _) (fun c4 => absurd (show -8 ≤ x ∧ x ≤ 8 ∧ -8 ≤ y ∧ y ≤ 8 by omega) hc))))
  · rw [if_neg h]; exact Ev.iteF h (Ev.now _)
end Go.Proofs.Ytihmhcdcbcleeaa.Pure
