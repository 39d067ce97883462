/- The reference's products, on the plain side. -/
import Derived.Test.YtnlaklkneaaakaaGainA
import Derived.Test.YtnlaklkneaaakaaQ13
namespace Go.Proofs.Ytnlaklkneaaakaa.Pure
open Go.RowKit Go.Proofs.YtnlaklkneaaakaaW.PrintWords Go.Proofs.YtnlaklkneaaakaaW.PrintLast Go.Proofs.YtnlaklkneaaakaaW.PrintMore Go.Proofs.Ytnlaklkneaaakaa.Open Go.Proofs.Ytnlaklkneaaakaa.Q Go.Proofs.Ytnlaklkneaaakaa.Aid
theorem rBoth_ev (a b c a' b' c' : Int) : Ev (fun k => fringeref25_Both.f k a b c a' b' c') (if cxOk a b c ∧ cxOk a' b' c' then 0 else 8) := by
  simp only [fringeref25_Both.f]
  refine Ev.bind (rCheck_ev a b c) ?_
  by_cases h : cxOk a b c = true
  · rw [if_pos h]
    refine Ev.iteT rfl (Ev.bind (rCheck_ev a' b' c') ?_)
    by_cases h' : cxOk a' b' c' = true
    · rw [if_pos h']; exact Ev.iteT rfl (Ev.some_of (by simp [h, h']))
    · rw [if_neg h']; exact Ev.iteF (by omega) (Ev.some_of (by simp [h']))
  · rw [if_neg h]; exact Ev.iteF (by omega) (Ev.some_of (by simp [h]))
theorem made_ev {a b c : Int} (ha : a.natAbs ≤ 9223372036854775807) (hb : b.natAbs ≤ 9223372036854775807) (hc : c.natAbs ≤ 9223372036854775807) (h1 : 1 ≤ c) : Ev (fun k => fringeref25_made.f k a b c) (redS a b c) := by
  simp only [fringeref25_made.f]
  have hp := gc_pos (a := a) (b := b) h1
  refine Ev.iteF (by omega) (rgcd3_ev ha hb hc (Ev.iteF (by omega) (Ev.iteF (by unfold gc at hp; omega) ?_)))
  rw [show ((Nat.gcd (Nat.gcd a.natAbs b.natAbs) c.natAbs : Nat) : Int) = ((gc a b c : Nat) : Int) from rfl, tdiv_bd _ ha, tdiv_bd _ hb, tdiv_bd _ hc]
  refine Ev.bind (rCheck_ev _ _ _) ?_
  unfold redS
  split
  · exact Ev.iteT rfl (Ev.now _)
  · exact Ev.iteF (by omega) (Ev.now _)
theorem rMul_ev (a b c a' b' c' : Int) : Ev (fun k => fringeref25_Mul.f k a b c a' b' c') (mulS a b c a' b' c') := by
  simp only [fringeref25_Mul.f]
  refine Ev.bind (rBoth_ev a b c a' b' c') ?_
  unfold mulS
  by_cases h : cxOk a b c = true ∧ cxOk a' b' c' = true
  · rw [if_pos h, if_pos h]
    obtain ⟨e1, e2, e3, e4, e5, e6, e7⟩ := mul_args h.1 h.2
    rw [e1, e2, e3]
    exact Ev.iteT rfl (Ev.bind (made_ev e4 e5 e6 e7) (Ev.now _))
  · rw [if_neg h, if_neg h]; exact Ev.iteF (by omega) (Ev.now _)
end Go.Proofs.Ytnlaklkneaaakaa.Pure
