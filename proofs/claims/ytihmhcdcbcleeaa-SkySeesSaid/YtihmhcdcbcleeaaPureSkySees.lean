/- The plain statement of the law SkySees. -/
import Derived.Test.YtihmhcdcbcleeaaQ25
import Derived.Test.YtihmhcdcbcleeaaSkyC
namespace Go.Proofs.Ytihmhcdcbcleeaa.Pure
open Go.RowKit Go.Proofs.YtihmhcdcbcleeaaW.PrintWords Go.Proofs.YtihmhcdcbcleeaaW.PrintLast Go.Proofs.YtihmhcdcbcleeaaW.PrintMore Go.Proofs.Ytihmhcdcbcleeaa.Open Go.Proofs.Ytihmhcdcbcleeaa.Q Go.Proofs.Ytihmhcdcbcleeaa.Aid
theorem SkySees : ∀ (l0 : List (S41)) (l1 : List (S33)) (a2 : Int) (a3 : Int) (a4 : Int), GL41 l0 → GL33 l1 → (Lit.int .i64 a2).wf = true → (Lit.int .i64 a3).wf = true → (Lit.int .i64 a4).wf = true → ∃ k, fringelaw41_SkySees.f k l0 l1 a2 a3 a4 = some true := by
  intro p l x y n hp _ _ _ _
  refine Ev.rounds ?_
  have hR := GL41_R2 hp
  simp only [fringelaw41_SkySees.f, Great_eq, Option.bind_some]
  refine Ev.ite (fun _ => Ev.now _) (fun _ => ?_)
  refine Ev.bind (sky_See_ev p l hR) (Ev.bind (ref_See_ev p l) (Ev.bind (sky_Turned_ev p l x y hR) (Ev.bind (ref_Turned_ev p l x y) (Ev.bind (sky_Dirty_ev p l n hR) (Ev.bind (ref_Dirty_ev p l n) ?_)))))
  refine Ev.bind (sky_Check_ev l) (Ev.bind (ref_Check_ev l) (Ev.iteT (by simp) (Ev.bind (sky_Places_ev p hR) (Ev.bind (ref_Places_ev p) (Ev.iteT (by simp) ?_)))))
  refine Ev.bind (same_vis _ (SeeS_le p l)) (Ev.iteT (by simp) (Ev.iteT (by simp) (Ev.bind (same_vis _ (TurnS_le p l x y)) (Ev.iteT (by simp) (Ev.iteT (by simp) ?_)))))
  exact Ev.bind (same_img _ (DirtyS_le p l n).1 (DirtyS_le p l n).2) (Ev.iteT (by simp) (Ev.some_of (by simp)))
end Go.Proofs.Ytihmhcdcbcleeaa.Pure
