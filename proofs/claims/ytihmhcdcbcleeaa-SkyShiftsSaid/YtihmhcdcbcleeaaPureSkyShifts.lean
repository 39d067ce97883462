/- The plain statement of the law SkyShifts. -/
import Derived.Test.YtihmhcdcbcleeaaQ26
import Derived.Test.YtihmhcdcbcleeaaSkyT
import Derived.Test.YtihmhcdcbcleeaaSkyE
import Derived.Test.YtihmhcdcbcleeaaSkyF
namespace Go.Proofs.Ytihmhcdcbcleeaa.Pure
open Go.RowKit Go.Proofs.YtihmhcdcbcleeaaW.PrintWords Go.Proofs.YtihmhcdcbcleeaaW.PrintLast Go.Proofs.YtihmhcdcbcleeaaW.PrintMore Go.Proofs.Ytihmhcdcbcleeaa.Open Go.Proofs.Ytihmhcdcbcleeaa.Q Go.Proofs.Ytihmhcdcbcleeaa.Aid
theorem rd47_vis (p : List S41) (l : List S33) (x y : Int) (i : Nat) (h : i < (allOf 0 p).length) : rd_T47 (visOf p l x y) (i : Int) = visB l x y ((allOf 0 p).getD i z85) := by
  show ((allOf 0 p).map (visB l x y)).getD i z47 = _
  rw [List.getD_eq_getElem?_getD, List.getD_eq_getElem?_getD, List.getElem?_map, List.getElem?_eq_getElem h]
  rfl
theorem vis_len (p : List S41) (l : List S33) (x y : Int) : (visOf p l x y).length = (allOf 0 p).length := by unfold visOf; rw [List.length_map]
theorem shifts_end (p : List S41) (l : List S33) (x y : Int) (h : bth p l = 0) (hx : -8 ≤ x ∧ x ≤ 8) (hy : -8 ≤ y ∧ y ≤ 8) (n : Int) (hn : ¬ n < ((visOf p l 0 0).length : Int)) :
    Ev (fun k => fringelaw41_SkyShifts.l0 k p l x y true (visOf p l 0 0) (visOf p l x y) n) true := by
  have hc := bth_chk h
  have hp := bth_plc h
  have hR := R2_ok (bth_ok h).2.2.1
  refine Ev.step (fun k => by simp only [fringelaw41_SkyShifts.l0]; rfl) ?_
  refine Ev.iteF hn (Ev.bind (sky_Shift_ev l x y) ?_)
  by_cases ha : (l.map (shL x y)).all inL = true
  · have e : ShiftS l x y = (l.map (shL x y), 0) := by unfold ShiftS; rw [if_pos hc, if_pos ha]
    have hc2 := shift_chk hc ha
    rw [e, wr (x := -x) (by omega) (by omega), wr (x := -y) (by omega) (by omega)]
    refine Ev.iteT (by simp) (Ev.bind (sky_See_ev p (l.map (shL x y)) hR) (Ev.bind (sky_Shift_ev (l.map (shL x y)) (-x) (-y)) ?_))
    have e2 : ShiftS (l.map (shL x y)) (-x) (-y) = (l, 0) := by unfold ShiftS; rw [if_pos hc2, shift_back, if_pos (lamps_in hc)]
    rw [SeeS_ok (plc_chk hp hc2), e2, visOf_shift]
    refine Ev.iteT (by simp) (Ev.iteT (by simp) (Ev.bind (same_vis _ (visOf_le x y h)) (Ev.iteT (by simp) (Ev.iteT (by simp) (Ev.bind (same_ev l (by have := (chk_ok hc).1; omega)) (Ev.now _))))))
  · have e : ShiftS l x y = ([], 16) := by unfold ShiftS; rw [if_pos hc, if_neg ha]
    rw [e]
    exact Ev.iteF (by simp) (Ev.iteT (by simp) (Ev.some_of (by simp)))
theorem shifts_l0 (p : List S41) (l : List S33) (x y : Int) (h : bth p l = 0) (hx : -8 ≤ x ∧ x ≤ 8) (hy : -8 ≤ y ∧ y ≤ 8) : ∀ d i : Nat, (allOf 0 p).length = i + d →
    Ev (fun k => fringelaw41_SkyShifts.l0 k p l x y true (visOf p l 0 0) (visOf p l x y) i) true
  | 0, i, hi => shifts_end p l x y h hx hy i (by rw [vis_len]; omega)
  | d + 1, i, hi => by
    obtain ⟨h1, _, h2, h3, h4⟩ := bth_ok h
    have hle := allOf_le h1 0
    have hm := mem_getD (allOf 0 p) z85 i (by omega)
    have hb := allOf_ok 0 p h2 _ hm
    have hat := allOf_at p p.length 0 (by omega) _ (by rw [List.drop_zero]; exact hm)
    rw [Nat.zero_add] at hb
    have e1 := rd47_vis p l 0 0 i (by omega)
    have e2 := rd47_vis p l x y i (by omega)
    have l1 := vis_len p l 0 0
    have l2 := vis_len p l x y
    refine Ev.step (fun k => by simp only [fringelaw41_SkyShifts.l0]; rfl) ?_
    rw [e1]
    generalize (allOf 0 p).getD i z85 = b at hb hat e1 e2
    obtain ⟨b0, b1, b2, b3, b4⟩ := hb
    refine Ev.iteT (by omega) (Ev.iteT (by omega) (Ev.iteF (by show ¬ (b.f0 < 0); omega) (Ev.iteF (by show ¬ (b.f0 ≥ _); omega) (Ev.iteF (by show ¬ (b.f1 < 0); omega) ?_))))
    refine Ev.step (fun k => by simp only [fringelaw41_SkyShifts.j3]; rfl) ?_
    rw [e1, e2]
    have q1 : (visB l 0 0 b).f0 = b.f0 := rfl
    have q2 : (visB l 0 0 b).f1 = b.f1 := rfl
    have hq1 := mul_bd (a := x) (b := b.f2) (A := 8) (B := 200) (by omega) (by omega)
    have hq2 := mul_bd (a := y) (b := b.f3) (A := 8) (B := 200) (by omega) (by omega)
    rw [q1, q2, ← hat.1, ← hat.2, wr (x := b.f2) (by omega) (by omega), wr (x := b.f3) (by omega) (by omega), wr (x := x * b.f2) (by omega) (by omega), wr (x := y * b.f3) (by omega) (by omega), wr (x := x * b.f2 + y * b.f3) (by omega) (by omega), tmod4]
    refine Ev.iteF (by simp; omega) (Ev.iteT (by omega) (Ev.iteT (by omega) (Ev.iteT (by omega) (Ev.iteT (by omega) (Ev.iteT (by omega) (Ev.iteT (by omega) ?_))))))
    have hs := sm_bd b.f2 b.f3 0 0 l h4
    have ht : rot ((x * b.f2 + y * b.f3) % 4) (sm b.f2 b.f3 l 0 0) = sm b.f2 b.f3 l x y := by
      rw [rot_mod (q' := b.f2 * x + b.f3 * y) (by rw [Int.mul_comm x, Int.mul_comm y]; omega), sm_turn]
    have hturn := cxTurn_ev ((x * b.f2 + y * b.f3) % 4) (cxOk_one (a := (sm b.f2 b.f3 l 0 0).1) (b := (sm b.f2 b.f3 l 0 0).2) (by omega) (by omega))
    rw [show ((sm b.f2 b.f3 l 0 0).1, (sm b.f2 b.f3 l 0 0).2) = sm b.f2 b.f3 l 0 0 from rfl, ht] at hturn
    refine Ev.bind hturn ?_
    refine Ev.iteT (by simp) (Ev.iteT (by omega) (Ev.iteF (by simp [visB]) (Ev.iteT rfl (Ev.iteT rfl ?_))))
    rw [wr1 i (by omega)]
    exact shifts_l0 p l x y h hx hy d (i + 1) (by omega)
theorem SkyShifts : ∀ (l0 : List (S41)) (l1 : List (S33)) (a2 : Int) (a3 : Int), GL41 l0 → GL33 l1 → (Lit.int .i64 a2).wf = true → (Lit.int .i64 a3).wf = true → ∃ k, fringelaw41_SkyShifts.f k l0 l1 a2 a3 = some true := by
  intro p l x y hp _ _ _
  refine Ev.rounds ?_
  have hR := GL41_R2 hp
  have hj : Ev (fun k => fringelaw41_SkyShifts.j0 k p l x y true true) true := by
    refine Ev.step (fun k => by simp only [fringelaw41_SkyShifts.j0]; rfl) ?_
    exact Ev.iteT (by simp) (Ev.now _)
  simp only [fringelaw41_SkyShifts.f]
  refine Ev.bind alive_ev (Ev.bind (valid_ev p l) (Ev.ite (fun h => ?_) (fun _ => hj)))
  rw [decide_eq_true_eq] at h
  refine Ev.ite (fun _ => hj) (fun c1 => Ev.ite (fun _ => hj) (fun c2 => Ev.ite (fun _ => hj) (fun c3 => Ev.ite (fun _ => hj) (fun c4 => ?_))))
  refine Ev.step (fun k => by simp only [fringelaw41_SkyShifts.j0]; rfl) ?_
  refine Ev.iteF (by simp) (Ev.bind (sky_See_ev p l hR) (Ev.bind (sky_Turned_ev p l x y hR) ?_))
  rw [SeeS_ok h, TurnS_ok h (by omega)]
  refine Ev.iteT (by simp) (Ev.iteT (by simp) ?_)
  refine Ev.step (fun k => by simp only [fringelaw41_SkyShifts.j1]; rfl) ?_
  refine Ev.iteF (by simp [vis_len]) ?_
  exact shifts_l0 p l x y h (by omega) (by omega) (allOf 0 p).length 0 (by omega)
end Go.Proofs.Ytihmhcdcbcleeaa.Pure
