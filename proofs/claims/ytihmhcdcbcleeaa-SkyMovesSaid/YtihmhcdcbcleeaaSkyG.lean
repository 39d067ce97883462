/- What the reference's shift of lamps comes to. -/
import Derived.Test.YtihmhcdcbcleeaaQ9
import Derived.Test.YtihmhcdcbcleeaaSkyF
namespace Go.Proofs.Ytihmhcdcbcleeaa.Pure
open Go.RowKit Go.Proofs.YtihmhcdcbcleeaaW.PrintWords Go.Proofs.YtihmhcdcbcleeaaW.PrintLast Go.Proofs.YtihmhcdcbcleeaaW.PrintMore Go.Proofs.Ytihmhcdcbcleeaa.Open Go.Proofs.Ytihmhcdcbcleeaa.Q Go.Proofs.Ytihmhcdcbcleeaa.Aid
theorem refShift_l0 (l : List S33) (hl : l.length ≤ 16) (hg : ∀ s ∈ l, lampOk s = true) (x y : Int) : ∀ d i : Nat, l.length = i + d → ∀ A : List S33, A.length = i →
    Ev (fun k => fringeref41_Shift.l0 k l x y A i) (if ((l.drop i).map (shL x y)).all inL then (A ++ (l.drop i).map (shL x y), 0) else ([], 16))
  | 0, i, h, A, hA => by
    refine Ev.step (fun k => by simp only [fringeref41_Shift.l0]; rfl) ?_
    refine Ev.iteF (by omega) ?_
    rw [List.drop_eq_nil_of_le (by omega)]
    exact Ev.some_of (by simp)
  | d + 1, i, h, A, hA => by
    refine Ev.step (fun k => by simp only [fringeref41_Shift.l0]; rfl) ?_
    refine Ev.iteT (by omega) (Ev.iteT (by omega) ?_)
    have hm := ok33 (hg _ (mem_getD l z33 i (by omega)))
    have e1 : rd_T33 l (i : Int) = l.getD i z33 := rfl
    rw [drop_get l z33 i (by omega), e1]
    generalize l.getD i z33 = s at hm ⊢
    rw [wr (x := -s.f0) (by omega) (by omega), wr (x := -s.f1) (by omega) (by omega), wr (x := 7 - s.f0) (by omega) (by omega), wr (x := 7 - s.f1) (by omega) (by omega)]
    simp only [in_eq, Option.bind_some]
    have ih := refShift_l0 l hl hg x y d (i + 1) (by omega) (A ++ [shL x y s]) (by rw [List.length_append, List.length_singleton, hA])
    rw [List.append_assoc, List.singleton_append] at ih
    rw [List.map_cons, List.all_cons]
    by_cases c1 : 0 ≤ s.f0 + x ∧ s.f0 + x < 8
    · by_cases c2 : 0 ≤ s.f1 + y ∧ s.f1 + y < 8
      · have e4 : inL (shL x y s) = true := inL_sh.2 ⟨c1, c2⟩
        rw [e4, Bool.true_and, wr1 i (by omega), wr (x := s.f0 + x) (by omega) (by omega), wr (x := s.f1 + y) (by omega) (by omega)]
        exact Ev.iteT (by rw [decide_eq_true_eq]; omega) (Ev.iteT (by rw [decide_eq_true_eq]; omega) (Ev.iteT (by omega) ih))
      · have e4 : inL (shL x y s) = false := Bool.eq_false_iff.2 (fun hh => by have := inL_sh.1 hh; omega)
        rw [e4, Bool.false_and]
        exact Ev.iteT (by rw [decide_eq_true_eq]; omega) (Ev.iteF (by rw [decide_eq_true_eq]; omega) (Ev.now _))
    · have e4 : inL (shL x y s) = false := Bool.eq_false_iff.2 (fun hh => by have := inL_sh.1 hh; omega)
      rw [e4, Bool.false_and]
      exact Ev.iteF (by rw [decide_eq_true_eq]; omega) (Ev.now _)
theorem ref_Shift_ev (l : List S33) (x y : Int) : Ev (fun k => fringeref41_Shift.f k l x y) (ShiftS l x y) := by
  unfold ShiftS
  simp only [fringeref41_Shift.f]
  refine Ev.bind (ref_Check_ev l) ?_
  by_cases h : chk l = 0
  · rw [if_pos h]
    obtain ⟨h1, h2⟩ := chk_ok h
    have := refShift_l0 l h1 h2 x y l.length 0 (by omega) [] rfl
    rw [List.drop_zero, List.nil_append] at this
    exact Ev.iteT h this
  · rw [if_neg h]; exact Ev.iteF h (Ev.now _)
end Go.Proofs.Ytihmhcdcbcleeaa.Pure
