/- The plain statement of the law SkyMoves. -/
import Derived.Test.YtihmhcdcbcleeaaQ11
import Derived.Test.YtihmhcdcbcleeaaSkyF
import Derived.Test.YtihmhcdcbcleeaaSkyG
import Derived.Test.YtihmhcdcbcleeaaSkyI
namespace Go.Proofs.Ytihmhcdcbcleeaa.Pure
open Go.RowKit Go.Proofs.YtihmhcdcbcleeaaW.PrintWords Go.Proofs.YtihmhcdcbcleeaaW.PrintLast Go.Proofs.YtihmhcdcbcleeaaW.PrintMore Go.Proofs.Ytihmhcdcbcleeaa.Open Go.Proofs.Ytihmhcdcbcleeaa.Q Go.Proofs.Ytihmhcdcbcleeaa.Aid
theorem ShiftS_le (l : List S33) (x y : Int) : (ShiftS l x y).1.length ≤ 100000 := by
  unfold ShiftS
  split
  · split
    · rename_i h _
      have := (chk_ok h).1
      simp only [List.length_map]
      omega
    · simp
  · simp
theorem mv_l1 (l was : List S33) (h : Ev (fun k => fringeref41_Same.f k l was) true) : ∀ d i : Nat, ∀ a : List S33, a.length = i + d → a.length ≤ 100000 → Ev (fun k => fringelaw41_SkyMoves.l1 k l was a i) true
  | 0, i, a, hi, _ => by
    refine Ev.step (fun k => by simp only [fringelaw41_SkyMoves.l1]; rfl) ?_
    exact Ev.iteF (by omega) (Ev.bind h (Ev.now _))
  | d + 1, i, a, hi, hl => by
    refine Ev.step (fun k => by simp only [fringelaw41_SkyMoves.l1]; rfl) ?_
    refine Ev.iteT (by omega) (Ev.iteT (by omega) ?_)
    rw [wr1 i (by omega)]
    exact mv_l1 l was h d (i + 1) _ (by rw [List.length_set]; omega) (by rw [List.length_set]; omega)
theorem mv_l0 (l was a : List S33) (ha : a.length ≤ 100000) (h : Ev (fun k => fringeref41_Same.f k l was) true) : ∀ d i : Nat, ∀ c : List S33, c.length = i + d → c.length ≤ 100000 → Ev (fun k => fringelaw41_SkyMoves.l0 k l was a c i) true
  | 0, i, c, hi, _ => by
    refine Ev.step (fun k => by simp only [fringelaw41_SkyMoves.l0]; rfl) ?_
    exact Ev.iteF (by omega) (mv_l1 l was h a.length 0 a (by omega) ha)
  | d + 1, i, c, hi, hl => by
    refine Ev.step (fun k => by simp only [fringelaw41_SkyMoves.l0]; rfl) ?_
    refine Ev.iteT (by omega) (Ev.iteT (by omega) ?_)
    rw [wr1 i (by omega)]
    exact mv_l0 l was a ha h d (i + 1) _ (by rw [List.length_set]; omega) (by rw [List.length_set]; omega)
theorem SkyMoves : ∀ (l0 : List (S33)) (a1 : Int) (a2 : Int), GL33 l0 → (Lit.int .i64 a1).wf = true → (Lit.int .i64 a2).wf = true → ∃ k, fringelaw41_SkyMoves.f k l0 a1 a2 = some true := by
  intro l x y hl _ _
  refine Ev.rounds ?_
  simp only [fringelaw41_SkyMoves.f, Great_eq, Option.bind_some]
  refine Ev.ite (fun _ => Ev.now _) (fun c => ?_)
  rw [decide_eq_true_eq] at c
  have hl2 : l.length ≤ 40 := by omega
  simp only [List.nil_append]
  refine Ev.iteT (by simp; omega) (Ev.bind (sky_Merge_ev l) (Ev.bind (ref_Merge_ev l) (Ev.bind (sky_Shift_ev l x y) (Ev.bind (ref_Shift_ev l x y) (Ev.bind (same_ev _ (MergeS_le l)) (Ev.iteT rfl (Ev.iteT rfl (Ev.bind (same_ev _ (ShiftS_le l x y)) (Ev.iteT rfl ?_)))))))))
  have e : ((ShiftS l x y).2 != (ShiftS l x y).2) = false := by simp
  rw [e]
  refine Ev.step (fun k => by simp only [fringelaw41_SkyMoves.j0]; rfl) ?_
  exact Ev.iteF (by simp) (mv_l0 l l _ (MergeS_le l) (same_ev l (by omega)) (ShiftS l x y).1.length 0 _ (by omega) (ShiftS_le l x y))
end Go.Proofs.Ytihmhcdcbcleeaa.Pure
