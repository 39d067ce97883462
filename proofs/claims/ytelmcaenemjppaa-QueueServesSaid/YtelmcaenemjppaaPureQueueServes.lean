/- The plain statement of the law QueueServes. -/
import Derived.Test.YtelmcaenemjppaaQ14
import Derived.Test.YtelmcaenemjppaaQT
import Derived.Test.YtelmcaenemjppaaQueC
namespace Go.Proofs.Ytelmcaenemjppaa.Pure
open Go.RowKit Go.Proofs.YtelmcaenemjppaaW.PrintWords Go.Proofs.YtelmcaenemjppaaW.PrintLast Go.Proofs.YtelmcaenemjppaaW.PrintMore Go.Proofs.Ytelmcaenemjppaa.Open Go.Proofs.Ytelmcaenemjppaa.Q Go.Proofs.Ytelmcaenemjppaa.Aid
theorem serves_j (n : Int) (l : List S42) (num den : Int) (hg : greatQ l = false) : ∀ b, Ev (fun k => fringelaw42_QueueServes.j0 k n b l num den) true := by
  intro b
  obtain ⟨hn, _⟩ := great_NB hg
  refine Ev.step (fun k => by simp only [fringelaw42_QueueServes.j0]; rfl) ?_
  refine Ev.ite (fun _ => Ev.now _) (fun _ => ?_)
  refine Ev.bind (impl_Next l num den hn) (Ev.bind (ref_Next l num den) (Ev.bind (impl_Serve l num den n hn) (Ev.bind (ref_Serve l num den n) ?_)))
  have h1 := NextS_len l num den
  have h2 := ServeS_len l num den n
  refine Ev.bind (same_refl _ _ _ (by omega)) (Ev.iteT rfl (Ev.iteT rfl (Ev.iteT rfl (Ev.bind (same_refl _ _ _ (by omega)) (Ev.iteT rfl (Ev.bind (ints_refl _ (by omega)) (Ev.iteT rfl ?_)))))))
  exact Ev.some_of (by simp)
theorem serves_true (n : Int) (l : List S42) (num den : Int) : Ev (fun k => fringelaw42_QueueServes.j0 k n true l num den) true := by
  refine Ev.step (fun k => by simp only [fringelaw42_QueueServes.j0]; rfl) ?_
  exact Ev.iteT (by simp) (Ev.now _)
theorem QueueServes : ∀ (x0 : S24) (a1 : Int), G24 x0 → (Lit.int .i64 a1).wf = true → ∃ k, fringelaw42_QueueServes.f k x0.f0 x0.f1 x0.f2 a1 = some true := by
  intro x a1 hx _
  have hl : x.f0.length ≤ 9223372036854775806 := by have := hx.1.1; omega
  refine Ev.rounds ?_
  simp only [fringelaw42_QueueServes.f]
  refine Ev.bind (Great_ev x.f0 x.f1 x.f2 hl) ?_
  by_cases hg : greatQ x.f0 = true
  · exact Ev.iteT hg (serves_true _ _ _ _)
  · exact Ev.iteF hg (Ev.ite (fun _ => serves_j _ _ _ _ (Bool.eq_false_iff.mpr hg) _) (fun _ => serves_j _ _ _ _ (Bool.eq_false_iff.mpr hg) _))
end Go.Proofs.Ytelmcaenemjppaa.Pure
