-- Written by qprint.py (a program of this session) over the program of the kit that prints contracts. Not trusted: Lean checks it.
import Derived.Test.YtihmhcdcbcleeaaQ0
import Derived.Test.YtihmhcdcbcleeaaQ2
import Derived.Test.YtihmhcdcbcleeaaQ6
import Derived.Test.YtihmhcdcbcleeaaQ9
import Derived.Test.YtihmhcdcbcleeaaQ12
import Derived.Test.YtihmhcdcbcleeaaQ13
import Derived.Test.YtihmhcdcbcleeaaQ20
import Derived.Test.YtihmhcdcbcleeaaQ22
namespace Go.Proofs.Ytihmhcdcbcleeaa.Q
open Go.RowKit Go.Proofs.YtihmhcdcbcleeaaW.PrintWords Go.Proofs.YtihmhcdcbcleeaaW.PrintLast Go.Proofs.YtihmhcdcbcleeaaW.PrintMore
attribute [local go_sem] max2_int min2_int max_two min_two max_three min_three max_four min_four   -- for this text's walks alone
set_option linter.unusedVariables false
set_option linter.unusedSimpArgs false

attribute [local go_sem high] eqA45
/-! ### fringelaw41_SkyShifts: function 9 -/
mutual
def fringelaw41_SkyShifts.j0 : Nat → List (S41) → List (S33) → Int → Int → Bool → Bool → Option (Bool)
 | 0, _, _, _, _, _, _ => none
 | k + 1, x0, x1, x2, x3, x9, x48 => if x48 = true then (some x9) else ((sky_See.f k x0 x1).bind fun bt603 => ((sky_Turned.f k x0 x1 x2 x3).bind fun bt607 => (if bt603.2 = 0 then (if bt607.2 = 0 then (fringelaw41_SkyShifts.j1 k x0 x1 x2 x3 x9 bt603.1 bt607.1 ((bt603.1.length : Int) != (bt607.1.length : Int))) else (fringelaw41_SkyShifts.j1 k x0 x1 x2 x3 x9 bt603.1 bt607.1 true)) else (fringelaw41_SkyShifts.j1 k x0 x1 x2 x3 x9 bt603.1 bt607.1 true))))
def fringelaw41_SkyShifts.j1 : Nat → List (S41) → List (S33) → Int → Int → Bool → List (S47) → List (S47) → Bool → Option (Bool)
 | 0, _, _, _, _, _, _, _, _ => none
 | k + 1, x0, x1, x2, x3, x9, x10, x12, x76 => if x76 = true then (some false) else (fringelaw41_SkyShifts.l0 k x0 x1 x2 x3 x9 x10 x12 0)
def fringelaw41_SkyShifts.l0 : Nat → List (S41) → List (S33) → Int → Int → Bool → List (S47) → List (S47) → Int → Option (Bool)
 | 0, _, _, _, _, _, _, _, _ => none
 | k + 1, x0, x1, x2, x3, x9, x10, x12, x14 => if x14 < (x10.length : Int) then (if 0 ≤ x14 then (if ((rd_T47 x10 x14).f0) < 0 then (fringelaw41_SkyShifts.j3 k x0 x1 x2 x3 x9 x10 x12 x14 true) else (if ((rd_T47 x10 x14).f0) ≥ (x0.length : Int) then (fringelaw41_SkyShifts.j3 k x0 x1 x2 x3 x9 x10 x12 x14 true) else (if ((rd_T47 x10 x14).f1) < 0 then (fringelaw41_SkyShifts.j3 k x0 x1 x2 x3 x9 x10 x12 x14 true) else (fringelaw41_SkyShifts.j3 k x0 x1 x2 x3 x9 x10 x12 x14 (decide (((rd_T47 x10 x14).f1) ≥ (x0.length : Int))))))) else (none)) else ((sky_Shift.f k x1 x2 x3).bind fun bt634 => (if bt634.2 = 0 then ((sky_See.f k x0 bt634.1).bind fun bt638 => ((sky_Shift.f k bt634.1 (wrap64 (-x2)) (wrap64 (-x3))).bind fun bt642 => (if x9 = true then (if bt638.2 = 0 then ((fringeref41_SameVis.f k bt638.1 x12).bind fun t646 => (if t646 = true then (if bt642.2 = 0 then ((fringeref41_Same.f k bt642.1 x1).bind fun t647 => (some t647)) else (some false)) else (some false))) else (some false)) else (some false)))) else (if x9 = true then (some (bt634.2 == 16)) else (some false))))
def fringelaw41_SkyShifts.j3 : Nat → List (S41) → List (S33) → Int → Int → Bool → List (S47) → List (S47) → Int → Bool → Option (Bool)
 | 0, _, _, _, _, _, _, _, _, _ => none
 | k + 1, x0, x1, x2, x3, x9, x10, x12, x14, x116 => if x116 = true then (some false) else (if 0 ≤ x14 then (if x14 < (x10.length : Int) then (if 0 ≤ ((rd_T47 x10 x14).f1) then (if ((rd_T47 x10 x14).f1) < (x0.length : Int) then (if 0 ≤ ((rd_T47 x10 x14).f0) then (if ((rd_T47 x10 x14).f0) < (x0.length : Int) then ((cx_Turn.f k ((rd_T47 x10 x14).f2.f0) ((rd_T47 x10 x14).f2.f1) ((rd_T47 x10 x14).f2.f2) (Int.tmod (wrap64 ((Int.tmod (wrap64 ((wrap64 (x2 * (wrap64 (((rd_T41 x0 ((rd_T47 x10 x14).f1)).f0) - ((rd_T41 x0 ((rd_T47 x10 x14).f0)).f0))))) + (wrap64 (x3 * (wrap64 (((rd_T41 x0 ((rd_T47 x10 x14).f1)).f1) - ((rd_T41 x0 ((rd_T47 x10 x14).f0)).f1))))))) 4) + 4)) 4)).bind fun bt624 => (if bt624.2.2.2 = 0 then (if x14 < (x12.length : Int) then (if (!(((rd_T47 x12 x14).f2.f0) == bt624.1) || (!(((rd_T47 x12 x14).f2.f1) == bt624.2.1) || (!(((rd_T47 x12 x14).f2.f2) == bt624.2.2.1)))) = true then (some false) else (if ((rd_T47 x12 x14).f0) = ((rd_T47 x10 x14).f0) then (if ((rd_T47 x12 x14).f1) = ((rd_T47 x10 x14).f1) then (fringelaw41_SkyShifts.l0 k x0 x1 x2 x3 x9 x10 x12 (wrap64 (x14 + 1))) else (some false)) else (some false))) else (none)) else (some false))) else (none)) else (none)) else (none)) else (none)) else (none)) else (none))
end
def fringelaw41_SkyShifts.f (k : Nat) (l0 : List (S41)) (l1 : List (S33)) (a2 : Int) (a3 : Int) : Option (Bool) := (fringelaw41_alive.f k).bind fun t601 => ((fringelaw41_valid.f k l0 l1).bind fun t602 => (if t602 = true then (if a2 < (-8) then (fringelaw41_SkyShifts.j0 k l0 l1 a2 a3 t601 true) else (if a2 > 8 then (fringelaw41_SkyShifts.j0 k l0 l1 a2 a3 t601 true) else (if a3 < (-8) then (fringelaw41_SkyShifts.j0 k l0 l1 a2 a3 t601 true) else (if a3 > 8 then (fringelaw41_SkyShifts.j0 k l0 l1 a2 a3 t601 true) else (fringelaw41_SkyShifts.j0 k l0 l1 a2 a3 t601 (!t601)))))) else (fringelaw41_SkyShifts.j0 k l0 l1 a2 a3 t601 true)))
theorem fringelaw41_SkyShifts.mono_l : ∀ k, (∀ y0 y1 y2 y3 y4 y5, LeO (fringelaw41_SkyShifts.j0 k y0 y1 y2 y3 y4 y5) (fringelaw41_SkyShifts.j0 (k + 1) y0 y1 y2 y3 y4 y5)) ∧ (∀ y0 y1 y2 y3 y4 y5 y6 y7, LeO (fringelaw41_SkyShifts.j1 k y0 y1 y2 y3 y4 y5 y6 y7) (fringelaw41_SkyShifts.j1 (k + 1) y0 y1 y2 y3 y4 y5 y6 y7)) ∧ (∀ y0 y1 y2 y3 y4 y5 y6 y7, LeO (fringelaw41_SkyShifts.l0 k y0 y1 y2 y3 y4 y5 y6 y7) (fringelaw41_SkyShifts.l0 (k + 1) y0 y1 y2 y3 y4 y5 y6 y7)) ∧ (∀ y0 y1 y2 y3 y4 y5 y6 y7 y8, LeO (fringelaw41_SkyShifts.j3 k y0 y1 y2 y3 y4 y5 y6 y7 y8) (fringelaw41_SkyShifts.j3 (k + 1) y0 y1 y2 y3 y4 y5 y6 y7 y8))
 | 0 => ⟨fun _ _ _ _ _ _ r h => by simp [fringelaw41_SkyShifts.j0] at h, fun _ _ _ _ _ _ _ _ r h => by simp [fringelaw41_SkyShifts.j1] at h, fun _ _ _ _ _ _ _ _ r h => by simp [fringelaw41_SkyShifts.l0] at h, fun _ _ _ _ _ _ _ _ _ r h => by simp [fringelaw41_SkyShifts.j3] at h⟩
 | k + 1 => by
  obtain ⟨ih0, ih1, ih2, ih3⟩ := fringelaw41_SkyShifts.mono_l k
  refine ⟨?_, ?_, ?_, ?_⟩
  ·intro y0 y1 y2 y3 y4 y5
   unfold fringelaw41_SkyShifts.j0
   repeat' first
   | (with_reducible exact ih0 _ _ _ _ _ _)
   | (with_reducible exact ih1 _ _ _ _ _ _ _ _)
   | (with_reducible exact ih2 _ _ _ _ _ _ _ _)
   | (with_reducible exact ih3 _ _ _ _ _ _ _ _ _)
   | (with_reducible exact cx_Turn.mono _ _ _ _ _)
   | (with_reducible exact fringelaw41_alive.mono _)
   | (with_reducible exact fringelaw41_valid.mono _ _ _)
   | (with_reducible exact fringeref41_Same.mono _ _ _)
   | (with_reducible exact fringeref41_SameVis.mono _ _ _)
   | (with_reducible exact sky_See.mono _ _ _)
   | (with_reducible exact sky_Shift.mono _ _ _ _)
   | (with_reducible exact sky_Turned.mono _ _ _ _ _)
   | (with_reducible exact LeO.refl _)
   | (with_reducible exact LeO.none _)
   | (with_reducible refine LeO.ite ?_ ?_)
   | (with_reducible refine LeO.bind ?_ (fun _ => ?_))
   | exact ih0 _ _ _ _ _ _
   | exact ih1 _ _ _ _ _ _ _ _
   | exact ih2 _ _ _ _ _ _ _ _
   | exact ih3 _ _ _ _ _ _ _ _ _
   | exact cx_Turn.mono _ _ _ _ _
   | exact fringelaw41_alive.mono _
   | exact fringelaw41_valid.mono _ _ _
   | exact fringeref41_Same.mono _ _ _
   | exact fringeref41_SameVis.mono _ _ _
   | exact sky_See.mono _ _ _
   | exact sky_Shift.mono _ _ _ _
   | exact sky_Turned.mono _ _ _ _ _
   | exact LeO.none _
   | refine LeO.ite ?_ ?_
   | refine LeO.bind ?_ (fun _ => ?_)
  ·intro y0 y1 y2 y3 y4 y5 y6 y7
   unfold fringelaw41_SkyShifts.j1
   repeat' first
   | (with_reducible exact ih0 _ _ _ _ _ _)
   | (with_reducible exact ih1 _ _ _ _ _ _ _ _)
   | (with_reducible exact ih2 _ _ _ _ _ _ _ _)
   | (with_reducible exact ih3 _ _ _ _ _ _ _ _ _)
   | (with_reducible exact cx_Turn.mono _ _ _ _ _)
   | (with_reducible exact fringelaw41_alive.mono _)
   | (with_reducible exact fringelaw41_valid.mono _ _ _)
   | (with_reducible exact fringeref41_Same.mono _ _ _)
   | (with_reducible exact fringeref41_SameVis.mono _ _ _)
   | (with_reducible exact sky_See.mono _ _ _)
   | (with_reducible exact sky_Shift.mono _ _ _ _)
   | (with_reducible exact sky_Turned.mono _ _ _ _ _)
   | (with_reducible exact LeO.refl _)
   | (with_reducible exact LeO.none _)
   | (with_reducible refine LeO.ite ?_ ?_)
   | (with_reducible refine LeO.bind ?_ (fun _ => ?_))
   | exact ih0 _ _ _ _ _ _
   | exact ih1 _ _ _ _ _ _ _ _
   | exact ih2 _ _ _ _ _ _ _ _
   | exact ih3 _ _ _ _ _ _ _ _ _
   | exact cx_Turn.mono _ _ _ _ _
   | exact fringelaw41_alive.mono _
   | exact fringelaw41_valid.mono _ _ _
   | exact fringeref41_Same.mono _ _ _
   | exact fringeref41_SameVis.mono _ _ _
   | exact sky_See.mono _ _ _
   | exact sky_Shift.mono _ _ _ _
   | exact sky_Turned.mono _ _ _ _ _
   | exact LeO.none _
   | refine LeO.ite ?_ ?_
   | refine LeO.bind ?_ (fun _ => ?_)
  ·intro y0 y1 y2 y3 y4 y5 y6 y7
   unfold fringelaw41_SkyShifts.l0
   repeat' first
   | (with_reducible exact ih0 _ _ _ _ _ _)
   | (with_reducible exact ih1 _ _ _ _ _ _ _ _)
   | (with_reducible exact ih2 _ _ _ _ _ _ _ _)
   | (with_reducible exact ih3 _ _ _ _ _ _ _ _ _)
   | (with_reducible exact cx_Turn.mono _ _ _ _ _)
   | (with_reducible exact fringelaw41_alive.mono _)
   | (with_reducible exact fringelaw41_valid.mono _ _ _)
   | (with_reducible exact fringeref41_Same.mono _ _ _)
   | (with_reducible exact fringeref41_SameVis.mono _ _ _)
   | (with_reducible exact sky_See.mono _ _ _)
   | (with_reducible exact sky_Shift.mono _ _ _ _)
   | (with_reducible exact sky_Turned.mono _ _ _ _ _)
   | (with_reducible exact LeO.refl _)
   | (with_reducible exact LeO.none _)
   | (with_reducible refine LeO.ite ?_ ?_)
   | (with_reducible refine LeO.bind ?_ (fun _ => ?_))
   | exact ih0 _ _ _ _ _ _
   | exact ih1 _ _ _ _ _ _ _ _
   | exact ih2 _ _ _ _ _ _ _ _
   | exact ih3 _ _ _ _ _ _ _ _ _
   | exact cx_Turn.mono _ _ _ _ _
   | exact fringelaw41_alive.mono _
   | exact fringelaw41_valid.mono _ _ _
   | exact fringeref41_Same.mono _ _ _
   | exact fringeref41_SameVis.mono _ _ _
   | exact sky_See.mono _ _ _
   | exact sky_Shift.mono _ _ _ _
   | exact sky_Turned.mono _ _ _ _ _
   | exact LeO.none _
   | refine LeO.ite ?_ ?_
   | refine LeO.bind ?_ (fun _ => ?_)
  ·intro y0 y1 y2 y3 y4 y5 y6 y7 y8
   unfold fringelaw41_SkyShifts.j3
   repeat' first
   | (with_reducible exact ih0 _ _ _ _ _ _)
   | (with_reducible exact ih1 _ _ _ _ _ _ _ _)
   | (with_reducible exact ih2 _ _ _ _ _ _ _ _)
   | (with_reducible exact ih3 _ _ _ _ _ _ _ _ _)
   | (with_reducible exact cx_Turn.mono _ _ _ _ _)
   | (with_reducible exact fringelaw41_alive.mono _)
   | (with_reducible exact fringelaw41_valid.mono _ _ _)
   | (with_reducible exact fringeref41_Same.mono _ _ _)
   | (with_reducible exact fringeref41_SameVis.mono _ _ _)
   | (with_reducible exact sky_See.mono _ _ _)
   | (with_reducible exact sky_Shift.mono _ _ _ _)
   | (with_reducible exact sky_Turned.mono _ _ _ _ _)
   | (with_reducible exact LeO.refl _)
   | (with_reducible exact LeO.none _)
   | (with_reducible refine LeO.ite ?_ ?_)
   | (with_reducible refine LeO.bind ?_ (fun _ => ?_))
   | exact ih0 _ _ _ _ _ _
   | exact ih1 _ _ _ _ _ _ _ _
   | exact ih2 _ _ _ _ _ _ _ _
   | exact ih3 _ _ _ _ _ _ _ _ _
   | exact cx_Turn.mono _ _ _ _ _
   | exact fringelaw41_alive.mono _
   | exact fringelaw41_valid.mono _ _ _
   | exact fringeref41_Same.mono _ _ _
   | exact fringeref41_SameVis.mono _ _ _
   | exact sky_See.mono _ _ _
   | exact sky_Shift.mono _ _ _ _
   | exact sky_Turned.mono _ _ _ _ _
   | exact LeO.none _
   | refine LeO.ite ?_ ?_
   | refine LeO.bind ?_ (fun _ => ?_)
theorem fringelaw41_SkyShifts.mono : ∀ a0 a1 a2 a3 k, LeO (fringelaw41_SkyShifts.f k a0 a1 a2 a3) (fringelaw41_SkyShifts.f (k + 1) a0 a1 a2 a3) := by
 intro a0 a1 a2 a3 k
 obtain ⟨ih0, ih1, ih2, ih3⟩ := fringelaw41_SkyShifts.mono_l k
 unfold fringelaw41_SkyShifts.f
 repeat' first
   | (with_reducible exact ih0 _ _ _ _ _ _)
   | (with_reducible exact ih1 _ _ _ _ _ _ _ _)
   | (with_reducible exact ih2 _ _ _ _ _ _ _ _)
   | (with_reducible exact ih3 _ _ _ _ _ _ _ _ _)
   | (with_reducible exact cx_Turn.mono _ _ _ _ _)
   | (with_reducible exact fringelaw41_alive.mono _)
   | (with_reducible exact fringelaw41_valid.mono _ _ _)
   | (with_reducible exact fringeref41_Same.mono _ _ _)
   | (with_reducible exact fringeref41_SameVis.mono _ _ _)
   | (with_reducible exact sky_See.mono _ _ _)
   | (with_reducible exact sky_Shift.mono _ _ _ _)
   | (with_reducible exact sky_Turned.mono _ _ _ _ _)
   | (with_reducible exact LeO.refl _)
   | (with_reducible exact LeO.none _)
   | (with_reducible refine LeO.ite ?_ ?_)
   | (with_reducible refine LeO.bind ?_ (fun _ => ?_))
   | exact ih0 _ _ _ _ _ _
   | exact ih1 _ _ _ _ _ _ _ _
   | exact ih2 _ _ _ _ _ _ _ _
   | exact ih3 _ _ _ _ _ _ _ _ _
   | exact cx_Turn.mono _ _ _ _ _
   | exact fringelaw41_alive.mono _
   | exact fringelaw41_valid.mono _ _ _
   | exact fringeref41_Same.mono _ _ _
   | exact fringeref41_SameVis.mono _ _ _
   | exact sky_See.mono _ _ _
   | exact sky_Shift.mono _ _ _ _
   | exact sky_Turned.mono _ _ _ _ _
   | exact LeO.none _
   | refine LeO.ite ?_ ?_
   | refine LeO.bind ?_ (fun _ => ?_)
set_option maxHeartbeats 8000000 in
set_option maxRecDepth 100000 in
theorem fringelaw41_SkyShifts.calls (k : Nat) (A0 : Option Addr) (c0 : Nat) (l0 : List (S41)) (A1 : Option Addr) (c1 : Nat) (l1 : List (S33)) (a2 : Int) (a3 : Int) (w : World) (hr0 : Kd.C k41 w A0 l0.length l0) (hc0 : l0.length ≤ c0) (hr1 : Kd.C k33 w A1 l1.length l1) (hc1 : l1.length ≤ c1) (h : fringelaw41_SkyShifts.f k l0 l1 a2 a3 = some true) :
  Calls Try.prog 9 #[.slice A0 l0.length c0, .slice A1 l1.length c1, .int .i64 a2, .int .i64 a3] w fun e w' => e = .returned (.bool true) ∧ Below w.heap.size w w' := by
 have hu45 := Try.underlying45
 have HR0 := Aside0.mk hr0
 have HC0 := Aside0.mk hc0
 clear hr0 hc0
 have HR1 := Aside0.mk hr1
 have HC1 := Aside0.mk hc1
 clear hr1 hc1
 have HB := Aside0.mk (Below.refl w.heap.size w)
 have H : ((fringelaw41_alive.f k).bind fun t601 => ((fringelaw41_valid.f k l0 l1).bind fun t602 => (if t602 = true then (if a2 < (-8) then (fringelaw41_SkyShifts.j0 k l0 l1 a2 a3 t601 true) else (if a2 > 8 then (fringelaw41_SkyShifts.j0 k l0 l1 a2 a3 t601 true) else (if a3 < (-8) then (fringelaw41_SkyShifts.j0 k l0 l1 a2 a3 t601 true) else (if a3 > 8 then (fringelaw41_SkyShifts.j0 k l0 l1 a2 a3 t601 true) else (fringelaw41_SkyShifts.j0 k l0 l1 a2 a3 t601 (!t601)))))) else (fringelaw41_SkyShifts.j0 k l0 l1 a2 a3 t601 true)))) = some true := h
 clear h
 replace H := Option.bind_eq_some_iff.mp H
 obtain ⟨t601, A50, H⟩ := H
 replace H : ((fringelaw41_valid.f k l0 l1).bind fun t602 => (if t602 = true then (if a2 < (-8) then (fringelaw41_SkyShifts.j0 k l0 l1 a2 a3 t601 true) else (if a2 > 8 then (fringelaw41_SkyShifts.j0 k l0 l1 a2 a3 t601 true) else (if a3 < (-8) then (fringelaw41_SkyShifts.j0 k l0 l1 a2 a3 t601 true) else (if a3 > 8 then (fringelaw41_SkyShifts.j0 k l0 l1 a2 a3 t601 true) else (fringelaw41_SkyShifts.j0 k l0 l1 a2 a3 t601 (!t601)))))) else (fringelaw41_SkyShifts.j0 k l0 l1 a2 a3 t601 true))) = some true := H
 have A5 := Aside0.mk A50
 clear A50
 have HC6 := Aside0.mk H
 clear H
 go_enter Try.func9, Try.ntmps9
 go_upto_region 2 with (first | (go_at_call 16; (with_reducible refine (fringelaw41_alive.calls k  t601 _ A5.out).mono ?_); rintro e w7 ⟨rfl, hb⟩; have n0_ := Aside0.mk (below_step (by repeat (first | (with_reducible first | exact HB.out | apply below_alloc | apply pw_below_drewN | apply below_drew1) | exact HB.out)) hb); clear HB; have HB := n0_; clear n0_; (try clear hb); (try clear hb2); (try clear hk); (try clear hi)))
 repeat (go_quiet (fail); go_upto_region 2 with (first | (go_at_call 16; (with_reducible refine (fringelaw41_alive.calls k  t601 _ A5.out).mono ?_); rintro e w7 ⟨rfl, hb⟩; have n0_ := Aside0.mk (below_step (by repeat (first | (with_reducible first | exact HB.out | apply below_alloc | apply pw_below_drewN | apply below_drew1) | exact HB.out)) hb); clear HB; have HB := n0_; clear n0_; (try clear hb); (try clear hb2); (try clear hk); (try clear hi))))
 (try simp only [Act.put, List.setIfInBounds_toArray, List.set_cons_zero, List.set_cons_succ])
 go_cut [48] (fun v48 wc => ∃ (kq : Nat) (x48_5 : Bool), v48 = .bool x48_5 ∧ Aside0 (fringelaw41_SkyShifts.j0 kq l0 l1 a2 a3 t601 x48_5 = some true) ∧ Aside0 (kq ≤ k) ∧ Aside0 (Below w.heap.size w wc))
 case first =>
  as_aux_lemma =>
  have H := HC6.out
  clear HC6
  replace H := Option.bind_eq_some_iff.mp H
  obtain ⟨t602, A80, H⟩ := H
  replace H : (if t602 = true then (if a2 < (-8) then (fringelaw41_SkyShifts.j0 k l0 l1 a2 a3 t601 true) else (if a2 > 8 then (fringelaw41_SkyShifts.j0 k l0 l1 a2 a3 t601 true) else (if a3 < (-8) then (fringelaw41_SkyShifts.j0 k l0 l1 a2 a3 t601 true) else (if a3 > 8 then (fringelaw41_SkyShifts.j0 k l0 l1 a2 a3 t601 true) else (fringelaw41_SkyShifts.j0 k l0 l1 a2 a3 t601 (!t601)))))) else (fringelaw41_SkyShifts.j0 k l0 l1 a2 a3 t601 true)) = some true := H
  have A8 := Aside0.mk A80
  clear A80
  by_cases c9 : t602 = true
  ·as_aux_lemma =>
   subst c9
   have H1 : (if a2 < (-8) then (fringelaw41_SkyShifts.j0 k l0 l1 a2 a3 t601 true) else (if a2 > 8 then (fringelaw41_SkyShifts.j0 k l0 l1 a2 a3 t601 true) else (if a3 < (-8) then (fringelaw41_SkyShifts.j0 k l0 l1 a2 a3 t601 true) else (if a3 > 8 then (fringelaw41_SkyShifts.j0 k l0 l1 a2 a3 t601 true) else (fringelaw41_SkyShifts.j0 k l0 l1 a2 a3 t601 (!t601)))))) = some true := by first | (with_reducible rfl) | (rw [if_pos rfl] at H; exact H)
   clear H
   have H := H1
   clear H1
   by_cases c10 : a2 < (-8)
   ·as_aux_lemma =>
    rw [if_pos c10] at H
    have c10b0 : decide (a2 < (-8)) = true := decide_eq_true c10
    clear c10
    (first | rw [c10b0] | (simp only [i64_w, i32_w]; rw [c10b0]) | skip)
    have H' := Aside0.mk H
    clear H
    go_wp2_with (first |  (go_at_call 17; (with_reducible refine (fringelaw41_valid.calls k _ _ l0 _ _ l1 true _ ?side1 ?side2 ?side3 ?side4 A8.out).mono ?_); (case side1 => repeat (first | exact (Kd.C_below HR0.out HB.out) | (with_reducible refine Kd.C_alloc ?_ _) | (with_reducible refine Kd.C_drewN ?_ _) | (with_reducible refine Kd.C_drew ?_))); (case side2 => exact HC0.out); (case side3 => repeat (first | exact (Kd.C_below HR1.out HB.out) | (with_reducible refine Kd.C_alloc ?_ _) | (with_reducible refine Kd.C_drewN ?_ _) | (with_reducible refine Kd.C_drew ?_))); (case side4 => exact HC1.out); rintro e w' ⟨rfl, ⟨nd, rfl⟩⟩; (try first | exact ⟨rfl, _, World.drewN_drewN _ _ _⟩ | exact ⟨rfl, _, Eq.trans (World.drewN_drewN _ _ _) (congrArg (World.drewN _) (Nat.add_assoc _ _ _))⟩)) | go_values | go_skip | go_guarded | go_step | go_upon | go_back | (simp only [Int.not_lt, Int.not_le] at *; go_simp) | (go_values <;> (try go_simp)) | (go_ite <;> go_prune <;> (try go_simp)) | (split <;> (first | (rename_i hx; exact (hx _ rfl).elim) | go_prune)) | go_quiet (fail))
    go_meet
    case rel => exact ⟨_, (true), (by first | rfl | (simp; done) | (simp [*]; done)), H', ⟨by first | omega | exact Nat.le_refl _⟩, ⟨by repeat (first | (with_reducible first | exact HB.out | apply below_alloc | apply pw_below_drewN | apply below_drew1) | exact HB.out)⟩⟩
   ·as_aux_lemma =>
    rw [if_neg c10] at H
    have c10b0 : decide (a2 < (-8)) = false := decide_eq_false c10
    clear c10
    (first | rw [c10b0] | (simp only [i64_w, i32_w]; rw [c10b0]) | skip)
    by_cases c11 : a2 > 8
    ·as_aux_lemma =>
     rw [if_pos c11] at H
     have c11b0 : decide (8 < a2) = true := decide_eq_true c11
     clear c11
     have H' := Aside0.mk H
     clear H
     go_wp2_with (first |  (go_at_call 17; (with_reducible refine (fringelaw41_valid.calls k _ _ l0 _ _ l1 true _ ?side1 ?side2 ?side3 ?side4 A8.out).mono ?_); (case side1 => repeat (first | exact (Kd.C_below HR0.out HB.out) | (with_reducible refine Kd.C_alloc ?_ _) | (with_reducible refine Kd.C_drewN ?_ _) | (with_reducible refine Kd.C_drew ?_))); (case side2 => exact HC0.out); (case side3 => repeat (first | exact (Kd.C_below HR1.out HB.out) | (with_reducible refine Kd.C_alloc ?_ _) | (with_reducible refine Kd.C_drewN ?_ _) | (with_reducible refine Kd.C_drew ?_))); (case side4 => exact HC1.out); rintro e w' ⟨rfl, ⟨nd, rfl⟩⟩; (try first | exact ⟨rfl, _, World.drewN_drewN _ _ _⟩ | exact ⟨rfl, _, Eq.trans (World.drewN_drewN _ _ _) (congrArg (World.drewN _) (Nat.add_assoc _ _ _))⟩)) | go_values | go_skip | go_guarded | go_step | go_upon | go_back | (simp only [Int.not_lt, Int.not_le] at *; go_simp) | (go_values <;> (try go_simp)) | (go_ite <;> go_prune <;> (try go_simp)) | (split <;> (first | (rename_i hx; exact (hx _ rfl).elim) | go_prune)) | go_quiet (fail))
     go_meet
     case rel => exact ⟨_, (true), (by first | rfl | (simp; done) | (simp [*]; done)), H', ⟨by first | omega | exact Nat.le_refl _⟩, ⟨by repeat (first | (with_reducible first | exact HB.out | apply below_alloc | apply pw_below_drewN | apply below_drew1) | exact HB.out)⟩⟩
    ·as_aux_lemma =>
     rw [if_neg c11] at H
     have c11b0 : decide (8 < a2) = false := decide_eq_false c11
     clear c11
     by_cases c12 : a3 < (-8)
     ·as_aux_lemma =>
      rw [if_pos c12] at H
      have c12b0 : decide (a3 < (-8)) = true := decide_eq_true c12
      clear c12
      have H' := Aside0.mk H
      clear H
      go_wp2_with (first |  (go_at_call 17; (with_reducible refine (fringelaw41_valid.calls k _ _ l0 _ _ l1 true _ ?side1 ?side2 ?side3 ?side4 A8.out).mono ?_); (case side1 => repeat (first | exact (Kd.C_below HR0.out HB.out) | (with_reducible refine Kd.C_alloc ?_ _) | (with_reducible refine Kd.C_drewN ?_ _) | (with_reducible refine Kd.C_drew ?_))); (case side2 => exact HC0.out); (case side3 => repeat (first | exact (Kd.C_below HR1.out HB.out) | (with_reducible refine Kd.C_alloc ?_ _) | (with_reducible refine Kd.C_drewN ?_ _) | (with_reducible refine Kd.C_drew ?_))); (case side4 => exact HC1.out); rintro e w' ⟨rfl, ⟨nd, rfl⟩⟩; (try first | exact ⟨rfl, _, World.drewN_drewN _ _ _⟩ | exact ⟨rfl, _, Eq.trans (World.drewN_drewN _ _ _) (congrArg (World.drewN _) (Nat.add_assoc _ _ _))⟩)) | go_values | go_skip | go_guarded | go_step | go_upon | go_back | (simp only [Int.not_lt, Int.not_le] at *; go_simp) | (go_values <;> (try go_simp)) | (go_ite <;> go_prune <;> (try go_simp)) | (split <;> (first | (rename_i hx; exact (hx _ rfl).elim) | go_prune)) | go_quiet (fail))
      go_meet
      case rel => exact ⟨_, (true), (by first | rfl | (simp; done) | (simp [*]; done)), H', ⟨by first | omega | exact Nat.le_refl _⟩, ⟨by repeat (first | (with_reducible first | exact HB.out | apply below_alloc | apply pw_below_drewN | apply below_drew1) | exact HB.out)⟩⟩
     ·as_aux_lemma =>
      rw [if_neg c12] at H
      have c12b0 : decide (a3 < (-8)) = false := decide_eq_false c12
      clear c12
      by_cases c13 : a3 > 8
      ·as_aux_lemma =>
       rw [if_pos c13] at H
       have c13b0 : decide (8 < a3) = true := decide_eq_true c13
       clear c13
       have H' := Aside0.mk H
       clear H
       go_wp2_with (first |  (go_at_call 17; (with_reducible refine (fringelaw41_valid.calls k _ _ l0 _ _ l1 true _ ?side1 ?side2 ?side3 ?side4 A8.out).mono ?_); (case side1 => repeat (first | exact (Kd.C_below HR0.out HB.out) | (with_reducible refine Kd.C_alloc ?_ _) | (with_reducible refine Kd.C_drewN ?_ _) | (with_reducible refine Kd.C_drew ?_))); (case side2 => exact HC0.out); (case side3 => repeat (first | exact (Kd.C_below HR1.out HB.out) | (with_reducible refine Kd.C_alloc ?_ _) | (with_reducible refine Kd.C_drewN ?_ _) | (with_reducible refine Kd.C_drew ?_))); (case side4 => exact HC1.out); rintro e w' ⟨rfl, ⟨nd, rfl⟩⟩; (try first | exact ⟨rfl, _, World.drewN_drewN _ _ _⟩ | exact ⟨rfl, _, Eq.trans (World.drewN_drewN _ _ _) (congrArg (World.drewN _) (Nat.add_assoc _ _ _))⟩)) | go_values | go_skip | go_guarded | go_step | go_upon | go_back | (simp only [Int.not_lt, Int.not_le] at *; go_simp) | (go_values <;> (try go_simp)) | (go_ite <;> go_prune <;> (try go_simp)) | (split <;> (first | (rename_i hx; exact (hx _ rfl).elim) | go_prune)) | go_quiet (fail))
       go_meet
       case rel => exact ⟨_, (true), (by first | rfl | (simp; done) | (simp [*]; done)), H', ⟨by first | omega | exact Nat.le_refl _⟩, ⟨by repeat (first | (with_reducible first | exact HB.out | apply below_alloc | apply pw_below_drewN | apply below_drew1) | exact HB.out)⟩⟩
      ·as_aux_lemma =>
       rw [if_neg c13] at H
       have c13b0 : decide (8 < a3) = false := decide_eq_false c13
       clear c13
       have H' := Aside0.mk H
       clear H
       go_wp2_with (first |  (go_at_call 17; (with_reducible refine (fringelaw41_valid.calls k _ _ l0 _ _ l1 true _ ?side1 ?side2 ?side3 ?side4 A8.out).mono ?_); (case side1 => repeat (first | exact (Kd.C_below HR0.out HB.out) | (with_reducible refine Kd.C_alloc ?_ _) | (with_reducible refine Kd.C_drewN ?_ _) | (with_reducible refine Kd.C_drew ?_))); (case side2 => exact HC0.out); (case side3 => repeat (first | exact (Kd.C_below HR1.out HB.out) | (with_reducible refine Kd.C_alloc ?_ _) | (with_reducible refine Kd.C_drewN ?_ _) | (with_reducible refine Kd.C_drew ?_))); (case side4 => exact HC1.out); rintro e w' ⟨rfl, ⟨nd, rfl⟩⟩; (try first | exact ⟨rfl, _, World.drewN_drewN _ _ _⟩ | exact ⟨rfl, _, Eq.trans (World.drewN_drewN _ _ _) (congrArg (World.drewN _) (Nat.add_assoc _ _ _))⟩)) | go_values | go_skip | go_guarded | go_step | go_upon | go_back | (simp only [Int.not_lt, Int.not_le] at *; go_simp) | (go_values <;> (try go_simp)) | (go_ite <;> go_prune <;> (try go_simp)) | (split <;> (first | (rename_i hx; exact (hx _ rfl).elim) | go_prune)) | go_quiet (fail))
       go_meet
       case rel => exact ⟨_, (!t601), (by first | rfl | (simp; done) | (simp [*]; done)), H', ⟨by first | omega | exact Nat.le_refl _⟩, ⟨by repeat (first | (with_reducible first | exact HB.out | apply below_alloc | apply pw_below_drewN | apply below_drew1) | exact HB.out)⟩⟩
  ·as_aux_lemma =>
   replace c9 := Bool.eq_false_iff.mpr c9
   subst c9
   have H1 : (fringelaw41_SkyShifts.j0 k l0 l1 a2 a3 t601 true) = some true := by first | (with_reducible rfl) | (rw [if_neg (show ¬ (false = true) by decide)] at H; exact H)
   clear H
   have H := H1
   clear H1
   have H' := Aside0.mk H
   clear H
   go_wp2_with (first |  (go_at_call 17; (with_reducible refine (fringelaw41_valid.calls k _ _ l0 _ _ l1 false _ ?side1 ?side2 ?side3 ?side4 A8.out).mono ?_); (case side1 => repeat (first | exact (Kd.C_below HR0.out HB.out) | (with_reducible refine Kd.C_alloc ?_ _) | (with_reducible refine Kd.C_drewN ?_ _) | (with_reducible refine Kd.C_drew ?_))); (case side2 => exact HC0.out); (case side3 => repeat (first | exact (Kd.C_below HR1.out HB.out) | (with_reducible refine Kd.C_alloc ?_ _) | (with_reducible refine Kd.C_drewN ?_ _) | (with_reducible refine Kd.C_drew ?_))); (case side4 => exact HC1.out); rintro e w' ⟨rfl, ⟨nd, rfl⟩⟩; (try first | exact ⟨rfl, _, World.drewN_drewN _ _ _⟩ | exact ⟨rfl, _, Eq.trans (World.drewN_drewN _ _ _) (congrArg (World.drewN _) (Nat.add_assoc _ _ _))⟩)) | go_values | go_skip | go_guarded | go_step | go_upon | go_back | (simp only [Int.not_lt, Int.not_le] at *; go_simp) | (go_values <;> (try go_simp)) | (go_ite <;> go_prune <;> (try go_simp)) | (split <;> (first | (rename_i hx; exact (hx _ rfl).elim) | go_prune)) | go_quiet (fail))
   go_meet
   case rel => exact ⟨_, (true), (by first | rfl | (simp; done) | (simp [*]; done)), H', ⟨by first | omega | exact Nat.le_refl _⟩, ⟨by repeat (first | (with_reducible first | exact HB.out | apply below_alloc | apply pw_below_drewN | apply below_drew1) | exact HB.out)⟩⟩
 case rest =>
  as_aux_lemma =>
  clear HC6
  try clear c1
  try clear p2
  try clear c9
  try clear c10
  try clear c10b0
  try clear c11
  try clear c11b0
  try clear c12
  try clear c12b0
  try clear c13
  try clear c13b0
  obtain ⟨kq, x48_5, rfl, HA, HJ5, HB⟩ := hcut
  cases kq with
  | zero => exact absurd HA.out (by simp [fringelaw41_SkyShifts.j0])
  | succ kj5 =>
   have H := HA.out
   clear HA
   simp only [fringelaw41_SkyShifts.j0] at H
   by_cases c14 : x48_5 = true
   ·as_aux_lemma =>
    subst c14
    have H1 : (some t601) = some true := by first | (with_reducible rfl) | (rw [if_pos rfl] at H; exact H)
    clear H
    have H := H1
    clear H1
    have hend := Aside0.mk (Option.some.inj H)
    clear H
    go_wp2
    repeat (go_quiet (fail); try go_wp2)
    go_ret
    exact ⟨by first | rfl | (rw [hend.out]; done) | (simp only [hend.out]; done) | (simp [*]; first | exact hend.out | exact eq_of_beq hend.out | exact of_decide_eq_true hend.out) | (have h_ := hend.out; simp_all; done) | (simp [*, errW_none, errW_some] <;> rfl), by repeat (first | (with_reducible first | exact HB.out | apply below_alloc | apply pw_below_drewN | apply below_drew1) | exact HB.out)⟩
   ·as_aux_lemma =>
    replace c14 := Bool.eq_false_iff.mpr c14
    subst c14
    have H1 : ((sky_See.f kj5 l0 l1).bind fun bt603 => ((sky_Turned.f kj5 l0 l1 a2 a3).bind fun bt607 => (if bt603.2 = 0 then (if bt607.2 = 0 then (fringelaw41_SkyShifts.j1 kj5 l0 l1 a2 a3 t601 bt603.1 bt607.1 ((bt603.1.length : Int) != (bt607.1.length : Int))) else (fringelaw41_SkyShifts.j1 kj5 l0 l1 a2 a3 t601 bt603.1 bt607.1 true)) else (fringelaw41_SkyShifts.j1 kj5 l0 l1 a2 a3 t601 bt603.1 bt607.1 true)))) = some true := by first | (with_reducible rfl) | (rw [if_neg (show ¬ (false = true) by decide)] at H; exact H)
    clear H
    have H := H1
    clear H1
    replace H := Option.bind_eq_some_iff.mp H
    obtain ⟨⟨t603, t604⟩, A150, H⟩ := H
    replace H : ((sky_Turned.f kj5 l0 l1 a2 a3).bind fun bt607 => (if t604 = 0 then (if bt607.2 = 0 then (fringelaw41_SkyShifts.j1 kj5 l0 l1 a2 a3 t601 t603 bt607.1 ((t603.length : Int) != (bt607.1.length : Int))) else (fringelaw41_SkyShifts.j1 kj5 l0 l1 a2 a3 t601 t603 bt607.1 true)) else (fringelaw41_SkyShifts.j1 kj5 l0 l1 a2 a3 t601 t603 bt607.1 true))) = some true := H
    have A15 := Aside0.mk A150
    clear A150
    replace H := Option.bind_eq_some_iff.mp H
    obtain ⟨⟨t607, t608⟩, A160, H⟩ := H
    replace H : (if t604 = 0 then (if t608 = 0 then (fringelaw41_SkyShifts.j1 kj5 l0 l1 a2 a3 t601 t603 t607 ((t603.length : Int) != (t607.length : Int))) else (fringelaw41_SkyShifts.j1 kj5 l0 l1 a2 a3 t601 t603 t607 true)) else (fringelaw41_SkyShifts.j1 kj5 l0 l1 a2 a3 t601 t603 t607 true)) = some true := H
    have A16 := Aside0.mk A160
    clear A160
    have HC17 := Aside0.mk H
    clear H
    go_upto_region 6 with (first | (go_at_call 18; (with_reducible refine (sky_See.calls kj5 _ _ l0 _ _ l1 t603 t604 _ ?side1 ?side2 ?side3 ?side4 A15.out).mono ?_); (case side1 => repeat (first | exact (Kd.C_below HR0.out HB.out) | (with_reducible refine Kd.C_alloc ?_ _) | (with_reducible refine Kd.C_drewN ?_ _) | (with_reducible refine Kd.C_drew ?_))); (case side2 => exact HC0.out); (case side3 => repeat (first | exact (Kd.C_below HR1.out HB.out) | (with_reducible refine Kd.C_alloc ?_ _) | (with_reducible refine Kd.C_drewN ?_ _) | (with_reducible refine Kd.C_drew ?_))); (case side4 => exact HC1.out); rintro e w18 ⟨v605, rfl, ho0, hb⟩; have n0_ := Aside0.mk (Kd.R_lower ho0 (below_size (by repeat (first | (with_reducible first | exact HB.out | apply below_alloc | apply pw_below_drewN | apply below_drew1) | exact HB.out)))); have n1_ := Aside0.mk (below_step (by repeat (first | (with_reducible first | exact HB.out | apply below_alloc | apply pw_below_drewN | apply below_drew1) | exact HB.out)) hb); clear HB; have HO606 := n0_; have HB := n1_; clear n0_ n1_; (try clear hb); (try clear hb2); (try clear hk); (try clear hi); (try clear ho0)) | (go_at_call 24; (with_reducible refine (sky_Turned.calls kj5 _ _ l0 _ _ l1 a2 a3 t607 t608 _ ?side1 ?side2 ?side3 ?side4 A16.out).mono ?_); (case side1 => repeat (first | exact (Kd.C_below HR0.out HB.out) | (with_reducible refine Kd.C_alloc ?_ _) | (with_reducible refine Kd.C_drewN ?_ _) | (with_reducible refine Kd.C_drew ?_))); (case side2 => exact HC0.out); (case side3 => repeat (first | exact (Kd.C_below HR1.out HB.out) | (with_reducible refine Kd.C_alloc ?_ _) | (with_reducible refine Kd.C_drewN ?_ _) | (with_reducible refine Kd.C_drew ?_))); (case side4 => exact HC1.out); rintro e w19 ⟨v609, rfl, ho0, hb⟩; have n0_ := Aside0.mk (Kd.R_elder' (by (with_reducible repeat (first | apply Kd.R_alloc | apply Kd.R_drewN | apply Kd.R_drew)); exact HO606.out) (Kd.R_base ho0) hb); have n1_ := Aside0.mk (Kd.R_lower (Kd.R_new' ho0 (Kd.R_lt (by (with_reducible repeat (first | apply Kd.R_alloc | apply Kd.R_drewN | apply Kd.R_drew)); exact HO606.out))) (below_size (by repeat (first | (with_reducible first | exact HB.out | apply below_alloc | apply pw_below_drewN | apply below_drew1) | exact HB.out)))); have n2_ := Aside0.mk (below_step (by repeat (first | (with_reducible first | exact HB.out | apply below_alloc | apply pw_below_drewN | apply below_drew1) | exact HB.out)) hb); clear HO606; clear HB; have HO606 := n0_; have HO610 := n1_; have HB := n2_; clear n0_ n1_ n2_; (try clear hb); (try clear hb2); (try clear hk); (try clear hi); (try clear ho0)))
    repeat (go_quiet (fail); go_upto_region 6 with (first | (go_at_call 18; (with_reducible refine (sky_See.calls kj5 _ _ l0 _ _ l1 t603 t604 _ ?side1 ?side2 ?side3 ?side4 A15.out).mono ?_); (case side1 => repeat (first | exact (Kd.C_below HR0.out HB.out) | (with_reducible refine Kd.C_alloc ?_ _) | (with_reducible refine Kd.C_drewN ?_ _) | (with_reducible refine Kd.C_drew ?_))); (case side2 => exact HC0.out); (case side3 => repeat (first | exact (Kd.C_below HR1.out HB.out) | (with_reducible refine Kd.C_alloc ?_ _) | (with_reducible refine Kd.C_drewN ?_ _) | (with_reducible refine Kd.C_drew ?_))); (case side4 => exact HC1.out); rintro e w18 ⟨v605, rfl, ho0, hb⟩; have n0_ := Aside0.mk (Kd.R_lower ho0 (below_size (by repeat (first | (with_reducible first | exact HB.out | apply below_alloc | apply pw_below_drewN | apply below_drew1) | exact HB.out)))); have n1_ := Aside0.mk (below_step (by repeat (first | (with_reducible first | exact HB.out | apply below_alloc | apply pw_below_drewN | apply below_drew1) | exact HB.out)) hb); clear HB; have HO606 := n0_; have HB := n1_; clear n0_ n1_; (try clear hb); (try clear hb2); (try clear hk); (try clear hi); (try clear ho0)) | (go_at_call 24; (with_reducible refine (sky_Turned.calls kj5 _ _ l0 _ _ l1 a2 a3 t607 t608 _ ?side1 ?side2 ?side3 ?side4 A16.out).mono ?_); (case side1 => repeat (first | exact (Kd.C_below HR0.out HB.out) | (with_reducible refine Kd.C_alloc ?_ _) | (with_reducible refine Kd.C_drewN ?_ _) | (with_reducible refine Kd.C_drew ?_))); (case side2 => exact HC0.out); (case side3 => repeat (first | exact (Kd.C_below HR1.out HB.out) | (with_reducible refine Kd.C_alloc ?_ _) | (with_reducible refine Kd.C_drewN ?_ _) | (with_reducible refine Kd.C_drew ?_))); (case side4 => exact HC1.out); rintro e w19 ⟨v609, rfl, ho0, hb⟩; have n0_ := Aside0.mk (Kd.R_elder' (by (with_reducible repeat (first | apply Kd.R_alloc | apply Kd.R_drewN | apply Kd.R_drew)); exact HO606.out) (Kd.R_base ho0) hb); have n1_ := Aside0.mk (Kd.R_lower (Kd.R_new' ho0 (Kd.R_lt (by (with_reducible repeat (first | apply Kd.R_alloc | apply Kd.R_drewN | apply Kd.R_drew)); exact HO606.out))) (below_size (by repeat (first | (with_reducible first | exact HB.out | apply below_alloc | apply pw_below_drewN | apply below_drew1) | exact HB.out)))); have n2_ := Aside0.mk (below_step (by repeat (first | (with_reducible first | exact HB.out | apply below_alloc | apply pw_below_drewN | apply below_drew1) | exact HB.out)) hb); clear HO606; clear HB; have HO606 := n0_; have HO610 := n1_; have HB := n2_; clear n0_ n1_ n2_; (try clear hb); (try clear hb2); (try clear hk); (try clear hi); (try clear ho0))))
    (try simp only [Act.put, List.setIfInBounds_toArray, List.set_cons_zero, List.set_cons_succ])
    go_cut [76] (fun v76 wc => ∃ (kq : Nat) (x76_16 : Bool), v76 = .bool x76_16 ∧ Aside0 (fringelaw41_SkyShifts.j1 kq l0 l1 a2 a3 t601 t603 t607 x76_16 = some true) ∧ Aside0 (kq ≤ kj5) ∧ Aside0 (Kd.R k47 47 wc w.heap.size (fun k_ => some k_ ≠ (v609 : Value).ownBlock) v605 t603) ∧ Aside0 (Kd.R k47 47 wc w.heap.size (fun k_ => some k_ ≠ (v605 : Value).ownBlock) v609 t607) ∧ Aside0 (Below w.heap.size w wc))
    case first =>
     as_aux_lemma =>
     have H := HC17.out
     clear HC17
     by_cases c20 : t604 = 0
     ·as_aux_lemma =>
      rw [if_pos c20] at H
      have c20b0 : (t604 == 0) = true := beq_iff_eq.mpr c20
      have c20b1 : (t604 != 0) = false := bne_eq_false_iff_eq.mpr c20
      clear c20
      (first | rw [c20b0] | (simp only [i64_w, i32_w]; rw [c20b0]) | skip)
      by_cases c21 : t608 = 0
      ·as_aux_lemma =>
       rw [if_pos c21] at H
       have c21b0 : (t608 == 0) = true := beq_iff_eq.mpr c21
       have c21b1 : (t608 != 0) = false := bne_eq_false_iff_eq.mpr c21
       clear c21
       have H' := Aside0.mk H
       clear H
       obtain ⟨Ao22, co22, eo22⟩ := Kd.R_slice HO606.out
       subst eo22
       obtain ⟨Ao23, co23, eo23⟩ := Kd.R_slice HO610.out
       subst eo23
       go_wp2
       repeat (go_quiet (fail); try go_wp2)
       go_meet
       case rel => exact ⟨_, (((t603.length : Int) != (t607.length : Int))), (by first | rfl | (simp; done) | (simp [*]; done)), H', ⟨by have := HJ5.out; first | omega | exact Nat.le_refl _⟩, ⟨by (with_reducible repeat (first | apply Kd.R_alloc | apply Kd.R_drewN | apply Kd.R_drew)); exact Kd.R_mono HO606.out (fun _ hk => hk.2)⟩, ⟨by (with_reducible repeat (first | apply Kd.R_alloc | apply Kd.R_drewN | apply Kd.R_drew)); exact Kd.R_mono HO610.out (fun _ hk => hk.2)⟩, ⟨by repeat (first | (with_reducible first | exact HB.out | apply below_alloc | apply pw_below_drewN | apply below_drew1) | exact HB.out)⟩⟩
      ·as_aux_lemma =>
       rw [if_neg c21] at H
       have c21b0 : (t608 == 0) = false := beq_eq_false_iff_ne.mpr c21
       have c21b1 : (t608 != 0) = true := bne_iff_ne.mpr c21
       have H' := Aside0.mk H
       clear H
       go_wp2
       repeat (go_quiet (fail); try go_wp2)
       go_meet
       case rel => exact ⟨_, (true), (by first | rfl | (simp; done) | (simp [*]; done)), H', ⟨by have := HJ5.out; first | omega | exact Nat.le_refl _⟩, ⟨by (with_reducible repeat (first | apply Kd.R_alloc | apply Kd.R_drewN | apply Kd.R_drew)); exact Kd.R_mono HO606.out (fun _ hk => hk.2)⟩, ⟨by (with_reducible repeat (first | apply Kd.R_alloc | apply Kd.R_drewN | apply Kd.R_drew)); exact Kd.R_mono HO610.out (fun _ hk => hk.2)⟩, ⟨by repeat (first | (with_reducible first | exact HB.out | apply below_alloc | apply pw_below_drewN | apply below_drew1) | exact HB.out)⟩⟩
     ·as_aux_lemma =>
      rw [if_neg c20] at H
      have c20b0 : (t604 == 0) = false := beq_eq_false_iff_ne.mpr c20
      have c20b1 : (t604 != 0) = true := bne_iff_ne.mpr c20
      (first | rw [c20b0] | (simp only [i64_w, i32_w]; rw [c20b0]) | skip)
      have H' := Aside0.mk H
      clear H
      go_wp2
      repeat (go_quiet (fail); try go_wp2)
      go_meet
      case rel => exact ⟨_, (true), (by first | rfl | (simp; done) | (simp [*]; done)), H', ⟨by have := HJ5.out; first | omega | exact Nat.le_refl _⟩, ⟨by (with_reducible repeat (first | apply Kd.R_alloc | apply Kd.R_drewN | apply Kd.R_drew)); exact Kd.R_mono HO606.out (fun _ hk => hk.2)⟩, ⟨by (with_reducible repeat (first | apply Kd.R_alloc | apply Kd.R_drewN | apply Kd.R_drew)); exact Kd.R_mono HO610.out (fun _ hk => hk.2)⟩, ⟨by repeat (first | (with_reducible first | exact HB.out | apply below_alloc | apply pw_below_drewN | apply below_drew1) | exact HB.out)⟩⟩
    case rest =>
     as_aux_lemma =>
     clear HC17
     try clear c1
     try clear c2
     try clear p2
     try clear c9
     try clear c10
     try clear c10b0
     try clear c11
     try clear c11b0
     try clear c12
     try clear c12b0
     try clear c13
     try clear c13b0
     try clear c14
     try clear c20
     try clear c20b0
     try clear c20b1
     try clear c21
     try clear c21b0
     try clear c21b1
     try clear p2
     obtain ⟨kq, x76_16, rfl, HA, HJ16, HO_10, HO_12, HB⟩ := hcut
     cases kq with
     | zero => exact absurd HA.out (by simp [fringelaw41_SkyShifts.j1])
     | succ kj16 =>
      have H := HA.out
      clear HA
      simp only [fringelaw41_SkyShifts.j1] at H
      by_cases c24 : x76_16 = true
      ·as_aux_lemma =>
       subst c24
       have H1 : (some false) = some true := by first | (with_reducible rfl) | (rw [if_pos rfl] at H; exact H)
       clear H
       have H := H1
       clear H1
       exact absurd H (by simp)
      ·as_aux_lemma =>
       replace c24 := Bool.eq_false_iff.mpr c24
       subst c24
       have H1 : (fringelaw41_SkyShifts.l0 kj16 l0 l1 a2 a3 t601 t603 t607 0) = some true := by first | (with_reducible rfl) | (rw [if_neg (show ¬ (false = true) by decide)] at H; exact H)
       clear H
       have H := H1
       clear H1
       have H' := Aside0.mk H
       clear H
       go_wp2
       repeat (go_quiet (fail); try go_wp2)
       go_loopg [14] kj16 (fun kq v14 w' => ∃ (x14_3 : Int), v14 = .int .i64 x14_3 ∧ Aside0 (fringelaw41_SkyShifts.l0 kq l0 l1 a2 a3 t601 t603 t607 x14_3 = some true) ∧ Aside0 (kq ≤ kj16) ∧ Aside0 (Kd.R k47 47 w' w.heap.size (fun k_ => some k_ ≠ (v609 : Value).ownBlock) v605 t603) ∧ Aside0 (Kd.R k47 47 w' w.heap.size (fun k_ => some k_ ≠ (v605 : Value).ownBlock) v609 t607) ∧ Aside0 (Below w.heap.size w w'))
       case atStart => exact ⟨(0), (by first | rfl | (simp; done) | (simp [*]; done)), H', ⟨Nat.le_refl _⟩, ⟨by (with_reducible repeat (first | apply Kd.R_alloc | apply Kd.R_drewN | apply Kd.R_drew)); exact HO_10.out⟩, ⟨by (with_reducible repeat (first | apply Kd.R_alloc | apply Kd.R_drewN | apply Kd.R_drew)); exact HO_12.out⟩, ⟨by repeat (first | (with_reducible first | exact HB.out | apply below_alloc | apply pw_below_drewN | apply below_drew1) | exact HB.out)⟩⟩
       case round =>
        as_aux_lemma =>
        clear H'
        try clear c1
        try clear c2
        try clear p2
        try clear c9
        try clear c10
        try clear c10b0
        try clear c11
        try clear c11b0
        try clear c12
        try clear c12b0
        try clear c13
        try clear c13b0
        try clear c14
        try clear c20
        try clear c20b0
        try clear c20b1
        try clear c21
        try clear c21b0
        try clear c21b1
        try clear c24
        try clear p2
        obtain ⟨x14_3, rfl, HA, HK3, HO_10, HO_12, HB⟩ := hrel
        cases gk with
        | zero => exact absurd HA.out (by simp [fringelaw41_SkyShifts.l0])
        | succ k3 =>
         have H := HA.out
         clear HA
         simp only [fringelaw41_SkyShifts.l0] at H
         by_cases c25 : x14_3 < (t603.length : Int)
         ·as_aux_lemma =>
          rw [if_pos c25] at H
          have c25b0 : decide (x14_3 < (t603.length : Int)) = true := decide_eq_true c25
          clear c25
          have HC26 := Aside0.mk H
          clear H
          obtain ⟨Ao27, co27, eo27⟩ := Kd.R_slice HO_10.out
          subst eo27
          go_upto_region 11 with (fail)
          repeat (go_quiet (fail); go_upto_region 11 with (fail))
          go_cut [116] (fun v116 wc => ∃ (kq : Nat) (x116_25 : Bool), v116 = .bool x116_25 ∧ Aside0 (fringelaw41_SkyShifts.j3 kq l0 l1 a2 a3 t601 t603 t607 x14_3 x116_25 = some true) ∧ Aside0 (kq ≤ k3) ∧ Aside0 (Kd.R k47 47 wc w.heap.size (fun k_ => some k_ ≠ (v609 : Value).ownBlock) (.slice Ao27 t603.length co27) t603) ∧ Aside0 (Kd.R k47 47 wc w.heap.size (fun k_ => some k_ ≠ ((.slice Ao27 t603.length co27) : Value).ownBlock) v609 t607) ∧ Aside0 (Below w.heap.size w wc))
          case first =>
           as_aux_lemma =>
           have H := HC26.out
           clear HC26
           by_cases c28 : 0 ≤ x14_3
           ·as_aux_lemma =>
            rw [if_pos c28] at H
            have c28b0 : decide (0 ≤ x14_3) = true := decide_eq_true c28
            clear c28
            (first | rw [c28b0] | (simp only [i64_w, i32_w]; rw [c28b0]) | skip)
            by_cases c29 : ((rd_T47 t603 x14_3).f0) < 0
            ·as_aux_lemma =>
             rw [if_pos c29] at H
             have c29b0 : decide (((rd_T47 t603 x14_3).f0) < 0) = true := decide_eq_true c29
             clear c29
             have H' := Aside0.mk H
             clear H
             have p611 : 0 ≤ (x14_3 : Int) := of_decide_eq_true (by first | (with_reducible assumption) | assumption)
             have q611 : x14_3 < (t603.length : Int) := of_decide_eq_true (by first | (with_reducible assumption) | assumption)
             obtain ⟨ad611, e611, hx611_0, hx611_1, hx611_2, hx611_3, hx611_4, hx611_5⟩ := at_T47 (Kd.R_reads' HO_10.out).2.2 x14_3 p611 q611
             cases e611
             replace p611 := eq_true p611
             replace q611 := eq_true q611
             go_wp2
             repeat (go_quiet (fail); try go_wp2)
             go_meet
             case rel => exact ⟨_, (true), (by first | rfl | (simp; done) | (simp [*]; done)), H', ⟨by have := HJ5.out; have := HJ16.out; have := HK3.out; first | omega | exact Nat.le_refl _⟩, ⟨by (with_reducible repeat (first | apply Kd.R_alloc | apply Kd.R_drewN | apply Kd.R_drew)); exact HO_10.out⟩, ⟨by (with_reducible repeat (first | apply Kd.R_alloc | apply Kd.R_drewN | apply Kd.R_drew)); exact HO_12.out⟩, ⟨by repeat (first | (with_reducible first | exact HB.out | apply below_alloc | apply pw_below_drewN | apply below_drew1) | exact HB.out)⟩⟩
            ·as_aux_lemma =>
             rw [if_neg c29] at H
             have c29b0 : decide (((rd_T47 t603 x14_3).f0) < 0) = false := decide_eq_false c29
             clear c29
             by_cases c30 : ((rd_T47 t603 x14_3).f0) ≥ (l0.length : Int)
             ·as_aux_lemma =>
              rw [if_pos c30] at H
              have c30b0 : decide ((l0.length : Int) ≤ ((rd_T47 t603 x14_3).f0)) = true := decide_eq_true c30
              clear c30
              have H' := Aside0.mk H
              clear H
              have p611 : 0 ≤ (x14_3 : Int) := of_decide_eq_true (by first | (with_reducible assumption) | assumption)
              have q611 : x14_3 < (t603.length : Int) := of_decide_eq_true (by first | (with_reducible assumption) | assumption)
              obtain ⟨ad611, e611, hx611_0, hx611_1, hx611_2, hx611_3, hx611_4, hx611_5⟩ := at_T47 (Kd.R_reads' HO_10.out).2.2 x14_3 p611 q611
              cases e611
              replace p611 := eq_true p611
              replace q611 := eq_true q611
              have p612 : 0 ≤ (x14_3 : Int) := of_decide_eq_true (by first | (with_reducible assumption) | assumption)
              have q612 : x14_3 < (t603.length : Int) := of_decide_eq_true (by first | (with_reducible assumption) | assumption)
              obtain ⟨ad612, e612, hx612_0, hx612_1, hx612_2, hx612_3, hx612_4, hx612_5⟩ := at_T47 (Kd.R_reads' HO_10.out).2.2 x14_3 p612 q612
              obtain rfl : ad611 = ad612 := (by injection e612)
              replace p612 := eq_true p612
              replace q612 := eq_true q612
              go_wp2
              repeat (go_quiet (fail); try go_wp2)
              go_meet
              case rel => exact ⟨_, (true), (by first | rfl | (simp; done) | (simp [*]; done)), H', ⟨by have := HJ5.out; have := HJ16.out; have := HK3.out; first | omega | exact Nat.le_refl _⟩, ⟨by (with_reducible repeat (first | apply Kd.R_alloc | apply Kd.R_drewN | apply Kd.R_drew)); exact HO_10.out⟩, ⟨by (with_reducible repeat (first | apply Kd.R_alloc | apply Kd.R_drewN | apply Kd.R_drew)); exact HO_12.out⟩, ⟨by repeat (first | (with_reducible first | exact HB.out | apply below_alloc | apply pw_below_drewN | apply below_drew1) | exact HB.out)⟩⟩
             ·as_aux_lemma =>
              rw [if_neg c30] at H
              have c30b0 : decide ((l0.length : Int) ≤ ((rd_T47 t603 x14_3).f0)) = false := decide_eq_false c30
              clear c30
              by_cases c31 : ((rd_T47 t603 x14_3).f1) < 0
              ·as_aux_lemma =>
               rw [if_pos c31] at H
               have c31b0 : decide (((rd_T47 t603 x14_3).f1) < 0) = true := decide_eq_true c31
               clear c31
               have H' := Aside0.mk H
               clear H
               have p611 : 0 ≤ (x14_3 : Int) := of_decide_eq_true (by first | (with_reducible assumption) | assumption)
               have q611 : x14_3 < (t603.length : Int) := of_decide_eq_true (by first | (with_reducible assumption) | assumption)
               obtain ⟨ad611, e611, hx611_0, hx611_1, hx611_2, hx611_3, hx611_4, hx611_5⟩ := at_T47 (Kd.R_reads' HO_10.out).2.2 x14_3 p611 q611
               cases e611
               replace p611 := eq_true p611
               replace q611 := eq_true q611
               have p612 : 0 ≤ (x14_3 : Int) := of_decide_eq_true (by first | (with_reducible assumption) | assumption)
               have q612 : x14_3 < (t603.length : Int) := of_decide_eq_true (by first | (with_reducible assumption) | assumption)
               obtain ⟨ad612, e612, hx612_0, hx612_1, hx612_2, hx612_3, hx612_4, hx612_5⟩ := at_T47 (Kd.R_reads' HO_10.out).2.2 x14_3 p612 q612
               obtain rfl : ad611 = ad612 := (by injection e612)
               replace p612 := eq_true p612
               replace q612 := eq_true q612
               have p613 : 0 ≤ (x14_3 : Int) := of_decide_eq_true (by first | (with_reducible assumption) | assumption)
               have q613 : x14_3 < (t603.length : Int) := of_decide_eq_true (by first | (with_reducible assumption) | assumption)
               obtain ⟨ad613, e613, hx613_0, hx613_1, hx613_2, hx613_3, hx613_4, hx613_5⟩ := at_T47 (Kd.R_reads' HO_10.out).2.2 x14_3 p613 q613
               obtain rfl : ad611 = ad613 := (by injection e613)
               replace p613 := eq_true p613
               replace q613 := eq_true q613
               go_wp2
               repeat (go_quiet (fail); try go_wp2)
               go_meet
               case rel => exact ⟨_, (true), (by first | rfl | (simp; done) | (simp [*]; done)), H', ⟨by have := HJ5.out; have := HJ16.out; have := HK3.out; first | omega | exact Nat.le_refl _⟩, ⟨by (with_reducible repeat (first | apply Kd.R_alloc | apply Kd.R_drewN | apply Kd.R_drew)); exact HO_10.out⟩, ⟨by (with_reducible repeat (first | apply Kd.R_alloc | apply Kd.R_drewN | apply Kd.R_drew)); exact HO_12.out⟩, ⟨by repeat (first | (with_reducible first | exact HB.out | apply below_alloc | apply pw_below_drewN | apply below_drew1) | exact HB.out)⟩⟩
              ·as_aux_lemma =>
               rw [if_neg c31] at H
               have c31b0 : decide (((rd_T47 t603 x14_3).f1) < 0) = false := decide_eq_false c31
               clear c31
               have H' := Aside0.mk H
               clear H
               have p611 : 0 ≤ (x14_3 : Int) := of_decide_eq_true (by first | (with_reducible assumption) | assumption)
               have q611 : x14_3 < (t603.length : Int) := of_decide_eq_true (by first | (with_reducible assumption) | assumption)
               obtain ⟨ad611, e611, hx611_0, hx611_1, hx611_2, hx611_3, hx611_4, hx611_5⟩ := at_T47 (Kd.R_reads' HO_10.out).2.2 x14_3 p611 q611
               cases e611
               replace p611 := eq_true p611
               replace q611 := eq_true q611
               have p612 : 0 ≤ (x14_3 : Int) := of_decide_eq_true (by first | (with_reducible assumption) | assumption)
               have q612 : x14_3 < (t603.length : Int) := of_decide_eq_true (by first | (with_reducible assumption) | assumption)
               obtain ⟨ad612, e612, hx612_0, hx612_1, hx612_2, hx612_3, hx612_4, hx612_5⟩ := at_T47 (Kd.R_reads' HO_10.out).2.2 x14_3 p612 q612
               obtain rfl : ad611 = ad612 := (by injection e612)
               replace p612 := eq_true p612
               replace q612 := eq_true q612
               have p613 : 0 ≤ (x14_3 : Int) := of_decide_eq_true (by first | (with_reducible assumption) | assumption)
               have q613 : x14_3 < (t603.length : Int) := of_decide_eq_true (by first | (with_reducible assumption) | assumption)
               obtain ⟨ad613, e613, hx613_0, hx613_1, hx613_2, hx613_3, hx613_4, hx613_5⟩ := at_T47 (Kd.R_reads' HO_10.out).2.2 x14_3 p613 q613
               obtain rfl : ad611 = ad613 := (by injection e613)
               replace p613 := eq_true p613
               replace q613 := eq_true q613
               have p614 : 0 ≤ (x14_3 : Int) := of_decide_eq_true (by first | (with_reducible assumption) | assumption)
               have q614 : x14_3 < (t603.length : Int) := of_decide_eq_true (by first | (with_reducible assumption) | assumption)
               obtain ⟨ad614, e614, hx614_0, hx614_1, hx614_2, hx614_3, hx614_4, hx614_5⟩ := at_T47 (Kd.R_reads' HO_10.out).2.2 x14_3 p614 q614
               obtain rfl : ad611 = ad614 := (by injection e614)
               replace p614 := eq_true p614
               replace q614 := eq_true q614
               go_wp2
               repeat (go_quiet (fail); try go_wp2)
               go_meet
               case rel => exact ⟨_, (decide (((rd_T47 t603 x14_3).f1) ≥ (l0.length : Int))), (by first | rfl | (simp; done) | (simp [*]; done)), H', ⟨by have := HJ5.out; have := HJ16.out; have := HK3.out; first | omega | exact Nat.le_refl _⟩, ⟨by (with_reducible repeat (first | apply Kd.R_alloc | apply Kd.R_drewN | apply Kd.R_drew)); exact HO_10.out⟩, ⟨by (with_reducible repeat (first | apply Kd.R_alloc | apply Kd.R_drewN | apply Kd.R_drew)); exact HO_12.out⟩, ⟨by repeat (first | (with_reducible first | exact HB.out | apply below_alloc | apply pw_below_drewN | apply below_drew1) | exact HB.out)⟩⟩
           ·as_aux_lemma =>
            rw [if_neg c28] at H
            exact absurd H (by simp)
          case rest =>
           as_aux_lemma =>
           clear HC26
           try clear c1
           try clear c2
           try clear p2
           try clear c3
           try clear p6
           try clear q6
           try clear hx6
           try clear c9
           try clear c10
           try clear c10b0
           try clear c11
           try clear c11b0
           try clear c12
           try clear c12b0
           try clear c13
           try clear c13b0
           try clear c14
           try clear c20
           try clear c20b0
           try clear c20b1
           try clear c21
           try clear c21b0
           try clear c21b1
           try clear c24
           try clear c25
           try clear c25b0
           try clear c28
           try clear c28b0
           try clear c29
           try clear c29b0
           try clear c30
           try clear c30b0
           try clear c31
           try clear c31b0
           try clear hx611_0
           try clear hx611_1
           try clear hx611_2
           try clear hx611_3
           try clear hx611_4
           try clear hx611_5
           try clear hx612_0
           try clear hx612_1
           try clear hx612_2
           try clear hx612_3
           try clear hx612_4
           try clear hx612_5
           try clear hx613_0
           try clear hx613_1
           try clear hx613_2
           try clear hx613_3
           try clear hx613_4
           try clear hx613_5
           try clear hx614_0
           try clear hx614_1
           try clear hx614_2
           try clear hx614_3
           try clear hx614_4
           try clear hx614_5
           try clear p2
           try clear p611
           try clear p612
           try clear p613
           try clear p614
           try clear q611
           try clear q612
           try clear q613
           try clear q614
           obtain ⟨kq, x116_25, rfl, HA, HJ25, HO_10, HO_12, HB⟩ := hcut
           cases kq with
           | zero => exact absurd HA.out (by simp [fringelaw41_SkyShifts.j3])
           | succ kj25 =>
            have H := HA.out
            clear HA
            simp only [fringelaw41_SkyShifts.j3] at H
            by_cases c32 : x116_25 = true
            ·as_aux_lemma =>
             subst c32
             have H1 : (some false) = some true := by first | (with_reducible rfl) | (rw [if_pos rfl] at H; exact H)
             clear H
             have H := H1
             clear H1
             exact absurd H (by simp)
            ·as_aux_lemma =>
             replace c32 := Bool.eq_false_iff.mpr c32
             subst c32
             have H1 : (if 0 ≤ x14_3 then (if x14_3 < (t603.length : Int) then (if 0 ≤ ((rd_T47 t603 x14_3).f1) then (if ((rd_T47 t603 x14_3).f1) < (l0.length : Int) then (if 0 ≤ ((rd_T47 t603 x14_3).f0) then (if ((rd_T47 t603 x14_3).f0) < (l0.length : Int) then ((cx_Turn.f kj25 ((rd_T47 t603 x14_3).f2.f0) ((rd_T47 t603 x14_3).f2.f1) ((rd_T47 t603 x14_3).f2.f2) (Int.tmod (wrap64 ((Int.tmod (wrap64 ((wrap64 (a2 * (wrap64 (((rd_T41 l0 ((rd_T47 t603 x14_3).f1)).f0) - ((rd_T41 l0 ((rd_T47 t603 x14_3).f0)).f0))))) + (wrap64 (a3 * (wrap64 (((rd_T41 l0 ((rd_T47 t603 x14_3).f1)).f1) - ((rd_T41 l0 ((rd_T47 t603 x14_3).f0)).f1))))))) 4) + 4)) 4)).bind fun bt624 => (if bt624.2.2.2 = 0 then (if x14_3 < (t607.length : Int) then (if (!(((rd_T47 t607 x14_3).f2.f0) == bt624.1) || (!(((rd_T47 t607 x14_3).f2.f1) == bt624.2.1) || (!(((rd_T47 t607 x14_3).f2.f2) == bt624.2.2.1)))) = true then (some false) else (if ((rd_T47 t607 x14_3).f0) = ((rd_T47 t603 x14_3).f0) then (if ((rd_T47 t607 x14_3).f1) = ((rd_T47 t603 x14_3).f1) then (fringelaw41_SkyShifts.l0 kj25 l0 l1 a2 a3 t601 t603 t607 (wrap64 (x14_3 + 1))) else (some false)) else (some false))) else (none)) else (some false))) else (none)) else (none)) else (none)) else (none)) else (none)) else (none)) = some true := by first | (with_reducible rfl) | (rw [if_neg (show ¬ (false = true) by decide)] at H; exact H)
             clear H
             have H := H1
             clear H1
             by_cases c33 : 0 ≤ x14_3
             ·as_aux_lemma =>
              rw [if_pos c33] at H
              have c33b0 : decide (0 ≤ x14_3) = true := decide_eq_true c33
              clear c33
              by_cases c34 : x14_3 < (t603.length : Int)
              ·as_aux_lemma =>
               rw [if_pos c34] at H
               have c34b0 : decide (x14_3 < (t603.length : Int)) = true := decide_eq_true c34
               clear c34
               by_cases c35 : 0 ≤ ((rd_T47 t603 x14_3).f1)
               ·as_aux_lemma =>
                rw [if_pos c35] at H
                have c35b0 : decide (0 ≤ ((rd_T47 t603 x14_3).f1)) = true := decide_eq_true c35
                clear c35
                by_cases c36 : ((rd_T47 t603 x14_3).f1) < (l0.length : Int)
                ·as_aux_lemma =>
                 rw [if_pos c36] at H
                 have c36b0 : decide (((rd_T47 t603 x14_3).f1) < (l0.length : Int)) = true := decide_eq_true c36
                 clear c36
                 by_cases c37 : 0 ≤ ((rd_T47 t603 x14_3).f0)
                 ·as_aux_lemma =>
                  rw [if_pos c37] at H
                  have c37b0 : decide (0 ≤ ((rd_T47 t603 x14_3).f0)) = true := decide_eq_true c37
                  clear c37
                  by_cases c38 : ((rd_T47 t603 x14_3).f0) < (l0.length : Int)
                  ·as_aux_lemma =>
                   rw [if_pos c38] at H
                   have c38b0 : decide (((rd_T47 t603 x14_3).f0) < (l0.length : Int)) = true := decide_eq_true c38
                   clear c38
                   replace H := Option.bind_eq_some_iff.mp H
                   obtain ⟨⟨t624, t625, t626, t627⟩, A390, H⟩ := H
                   replace H : (if t627 = 0 then (if x14_3 < (t607.length : Int) then (if (!(((rd_T47 t607 x14_3).f2.f0) == t624) || (!(((rd_T47 t607 x14_3).f2.f1) == t625) || (!(((rd_T47 t607 x14_3).f2.f2) == t626)))) = true then (some false) else (if ((rd_T47 t607 x14_3).f0) = ((rd_T47 t603 x14_3).f0) then (if ((rd_T47 t607 x14_3).f1) = ((rd_T47 t603 x14_3).f1) then (fringelaw41_SkyShifts.l0 kj25 l0 l1 a2 a3 t601 t603 t607 (wrap64 (x14_3 + 1))) else (some false)) else (some false))) else (none)) else (some false)) = some true := H
                   have A39 := Aside0.mk A390
                   clear A390
                   by_cases c40 : t627 = 0
                   ·as_aux_lemma =>
                    rw [if_pos c40] at H
                    have c40b0 : (t627 == 0) = true := beq_iff_eq.mpr c40
                    have c40b1 : (t627 != 0) = false := bne_eq_false_iff_eq.mpr c40
                    clear c40
                    by_cases c41 : x14_3 < (t607.length : Int)
                    ·as_aux_lemma =>
                     rw [if_pos c41] at H
                     have c41b0 : decide (x14_3 < (t607.length : Int)) = true := decide_eq_true c41
                     clear c41
                     by_cases c42 : (!(((rd_T47 t607 x14_3).f2.f0) == t624) || (!(((rd_T47 t607 x14_3).f2.f1) == t625) || (!(((rd_T47 t607 x14_3).f2.f2) == t626)))) = true
                     ·as_aux_lemma =>
                      rw [if_pos c42] at H
                      have c42b0 : (!(((rd_T47 t607 x14_3).f2.f0) == t624) || (!(((rd_T47 t607 x14_3).f2.f1) == t625) || (!(((rd_T47 t607 x14_3).f2.f2) == t626)))) = true := c42
                      clear c42
                      exact absurd H (by simp)
                     ·as_aux_lemma =>
                      rw [if_neg c42] at H
                      have c42b0 : (!(((rd_T47 t607 x14_3).f2.f0) == t624) || (!(((rd_T47 t607 x14_3).f2.f1) == t625) || (!(((rd_T47 t607 x14_3).f2.f2) == t626)))) = false := by simpa using c42
                      clear c42
                      by_cases c43 : ((rd_T47 t607 x14_3).f0) = ((rd_T47 t603 x14_3).f0)
                      ·as_aux_lemma =>
                       rw [if_pos c43] at H
                       have c43b0 : (((rd_T47 t607 x14_3).f0) == ((rd_T47 t603 x14_3).f0)) = true := beq_iff_eq.mpr c43
                       have c43b1 : (((rd_T47 t607 x14_3).f0) != ((rd_T47 t603 x14_3).f0)) = false := bne_eq_false_iff_eq.mpr c43
                       clear c43
                       by_cases c44 : ((rd_T47 t607 x14_3).f1) = ((rd_T47 t603 x14_3).f1)
                       ·as_aux_lemma =>
                        rw [if_pos c44] at H
                        have c44b0 : (((rd_T47 t607 x14_3).f1) == ((rd_T47 t603 x14_3).f1)) = true := beq_iff_eq.mpr c44
                        have c44b1 : (((rd_T47 t607 x14_3).f1) != ((rd_T47 t603 x14_3).f1)) = false := bne_eq_false_iff_eq.mpr c44
                        clear c44
                        have H' := Aside0.mk H
                        clear H
                        have p615 : 0 ≤ (x14_3 : Int) := of_decide_eq_true (by first | (with_reducible assumption) | assumption)
                        have q615 : x14_3 < (t603.length : Int) := of_decide_eq_true (by first | (with_reducible assumption) | assumption)
                        obtain ⟨ad615, e615, hx615_0, hx615_1, hx615_2, hx615_3, hx615_4, hx615_5⟩ := at_T47 (Kd.R_reads' HO_10.out).2.2 x14_3 p615 q615
                        cases e615
                        replace p615 := eq_true p615
                        replace q615 := eq_true q615
                        have p616 : 0 ≤ (((rd_T47 t603 x14_3).f1) : Int) := of_decide_eq_true (by first | (with_reducible assumption) | assumption)
                        have q616 : ((rd_T47 t603 x14_3).f1) < (l0.length : Int) := of_decide_eq_true (by first | (with_reducible assumption) | assumption)
                        obtain ⟨ad616, e616, hx616_0, hx616_1⟩ := at_T41 HR0.out ((rd_T47 t603 x14_3).f1) p616 q616
                        cases e616
                        replace hx616_0 := (HB.out.cell (World.block_lt_of_cell? w _ hx616_0)).trans hx616_0
                        replace hx616_1 := (HB.out.cell (World.block_lt_of_cell? w _ hx616_1)).trans hx616_1
                        replace p616 := eq_true p616
                        replace q616 := eq_true q616
                        have p617 : 0 ≤ (x14_3 : Int) := of_decide_eq_true (by first | (with_reducible assumption) | assumption)
                        have q617 : x14_3 < (t603.length : Int) := of_decide_eq_true (by first | (with_reducible assumption) | assumption)
                        obtain ⟨ad617, e617, hx617_0, hx617_1, hx617_2, hx617_3, hx617_4, hx617_5⟩ := at_T47 (Kd.R_reads' HO_10.out).2.2 x14_3 p617 q617
                        obtain rfl : ad615 = ad617 := (by injection e617)
                        replace p617 := eq_true p617
                        replace q617 := eq_true q617
                        have p618 : 0 ≤ (((rd_T47 t603 x14_3).f0) : Int) := of_decide_eq_true (by first | (with_reducible assumption) | assumption)
                        have q618 : ((rd_T47 t603 x14_3).f0) < (l0.length : Int) := of_decide_eq_true (by first | (with_reducible assumption) | assumption)
                        obtain ⟨ad618, e618, hx618_0, hx618_1⟩ := at_T41 HR0.out ((rd_T47 t603 x14_3).f0) p618 q618
                        obtain rfl : ad616 = ad618 := (by injection e618)
                        replace hx618_0 := (HB.out.cell (World.block_lt_of_cell? w _ hx618_0)).trans hx618_0
                        replace hx618_1 := (HB.out.cell (World.block_lt_of_cell? w _ hx618_1)).trans hx618_1
                        replace p618 := eq_true p618
                        replace q618 := eq_true q618
                        have p619 : 0 ≤ (x14_3 : Int) := of_decide_eq_true (by first | (with_reducible assumption) | assumption)
                        have q619 : x14_3 < (t603.length : Int) := of_decide_eq_true (by first | (with_reducible assumption) | assumption)
                        obtain ⟨ad619, e619, hx619_0, hx619_1, hx619_2, hx619_3, hx619_4, hx619_5⟩ := at_T47 (Kd.R_reads' HO_10.out).2.2 x14_3 p619 q619
                        obtain rfl : ad615 = ad619 := (by injection e619)
                        replace p619 := eq_true p619
                        replace q619 := eq_true q619
                        have p620 : 0 ≤ (((rd_T47 t603 x14_3).f1) : Int) := of_decide_eq_true (by first | (with_reducible assumption) | assumption)
                        have q620 : ((rd_T47 t603 x14_3).f1) < (l0.length : Int) := of_decide_eq_true (by first | (with_reducible assumption) | assumption)
                        obtain ⟨ad620, e620, hx620_0, hx620_1⟩ := at_T41 HR0.out ((rd_T47 t603 x14_3).f1) p620 q620
                        obtain rfl : ad616 = ad620 := (by injection e620)
                        replace hx620_0 := (HB.out.cell (World.block_lt_of_cell? w _ hx620_0)).trans hx620_0
                        replace hx620_1 := (HB.out.cell (World.block_lt_of_cell? w _ hx620_1)).trans hx620_1
                        replace p620 := eq_true p620
                        replace q620 := eq_true q620
                        have p621 : 0 ≤ (x14_3 : Int) := of_decide_eq_true (by first | (with_reducible assumption) | assumption)
                        have q621 : x14_3 < (t603.length : Int) := of_decide_eq_true (by first | (with_reducible assumption) | assumption)
                        obtain ⟨ad621, e621, hx621_0, hx621_1, hx621_2, hx621_3, hx621_4, hx621_5⟩ := at_T47 (Kd.R_reads' HO_10.out).2.2 x14_3 p621 q621
                        obtain rfl : ad615 = ad621 := (by injection e621)
                        replace p621 := eq_true p621
                        replace q621 := eq_true q621
                        have p622 : 0 ≤ (((rd_T47 t603 x14_3).f0) : Int) := of_decide_eq_true (by first | (with_reducible assumption) | assumption)
                        have q622 : ((rd_T47 t603 x14_3).f0) < (l0.length : Int) := of_decide_eq_true (by first | (with_reducible assumption) | assumption)
                        obtain ⟨ad622, e622, hx622_0, hx622_1⟩ := at_T41 HR0.out ((rd_T47 t603 x14_3).f0) p622 q622
                        obtain rfl : ad616 = ad622 := (by injection e622)
                        replace hx622_0 := (HB.out.cell (World.block_lt_of_cell? w _ hx622_0)).trans hx622_0
                        replace hx622_1 := (HB.out.cell (World.block_lt_of_cell? w _ hx622_1)).trans hx622_1
                        replace p622 := eq_true p622
                        replace q622 := eq_true q622
                        have p623 : 0 ≤ (x14_3 : Int) := of_decide_eq_true (by first | (with_reducible assumption) | assumption)
                        have q623 : x14_3 < (t603.length : Int) := of_decide_eq_true (by first | (with_reducible assumption) | assumption)
                        obtain ⟨ad623, e623, hx623_0, hx623_1, hx623_2, hx623_3, hx623_4, hx623_5⟩ := at_T47 (Kd.R_reads' HO_10.out).2.2 x14_3 p623 q623
                        obtain rfl : ad615 = ad623 := (by injection e623)
                        replace p623 := eq_true p623
                        replace q623 := eq_true q623
                        go_wp2_with (first |  (go_at_call 34; (with_reducible refine (cx_Turn.calls kj25 ((rd_T47 t603 x14_3).f2.f0) ((rd_T47 t603 x14_3).f2.f1) ((rd_T47 t603 x14_3).f2.f2) (Int.tmod (wrap64 ((Int.tmod (wrap64 ((wrap64 (a2 * (wrap64 (((rd_T41 l0 ((rd_T47 t603 x14_3).f1)).f0) - ((rd_T41 l0 ((rd_T47 t603 x14_3).f0)).f0))))) + (wrap64 (a3 * (wrap64 (((rd_T41 l0 ((rd_T47 t603 x14_3).f1)).f1) - ((rd_T41 l0 ((rd_T47 t603 x14_3).f0)).f1))))))) 4) + 4)) 4) t624 t625 t626 t627 _ A39.out).mono ?_); rintro e w45 ⟨rfl, hb⟩; have n0_ := Aside0.mk (Kd.R_below (by (with_reducible repeat (first | apply Kd.R_alloc | apply Kd.R_drewN | apply Kd.R_drew)); exact HO_10.out) hb); have n1_ := Aside0.mk (Kd.R_below (by (with_reducible repeat (first | apply Kd.R_alloc | apply Kd.R_drewN | apply Kd.R_drew)); exact HO_12.out) hb); have n2_ := Aside0.mk (below_step (by repeat (first | (with_reducible first | exact HB.out | apply below_alloc | apply pw_below_drewN | apply below_drew1) | exact HB.out)) hb); clear HO_10; clear HO_12; clear HB; have HO_10 := n0_; have HO_12 := n1_; have HB := n2_; clear n0_ n1_ n2_; (try clear hb); (try clear hb2); (try clear hk); (try clear hi)) | ((with_reducible refine gate_dst (N := 16) rfl ?_); (try (refine gate_guard (by rfl) ?_; dsimp only)); refine box_event ?hg (N := 16) ?hd (cs := #[.int .i64 0, .int .i64 0, .int .i64 0]) (t := 45) ?hr ?_; (case hd => rfl); (case hg => rfl); (case hr => first | (go_simp; done) | (go_simp; rfl)); intro gb628 hg w46 hbox hb; have n0_ := Aside0.mk (Kd.R_below (by (with_reducible repeat (first | apply Kd.R_alloc | apply Kd.R_drewN | apply Kd.R_drew)); exact HO_10.out) hb); have n1_ := Aside0.mk (Kd.R_below (by (with_reducible repeat (first | apply Kd.R_alloc | apply Kd.R_drewN | apply Kd.R_drew)); exact HO_12.out) hb); have n2_ := Aside0.mk (below_step (by repeat (first | (with_reducible first | exact HB.out | apply below_alloc | apply pw_below_drewN | apply below_drew1) | exact HB.out)) hb); have n3_ := Aside0.mk (hbox); have n4_ := Aside0.mk ((by rw [hg]; exact (below_size (by repeat (first | (with_reducible first | exact HB.out | apply below_alloc | apply pw_below_drewN | apply below_drew1) | exact HB.out))) : w.heap.size ≤ gb628)); have n5_ := Aside0.mk ((by rw [hg]; exact (below_size (by repeat (first | (with_reducible first | exact HB.out | apply below_alloc | apply pw_below_drewN | apply below_drew1) | exact HB.out))) : w.heap.size ≤ gb628)); clear HO_10; clear HO_12; clear HB; have HO_10 := n0_; have HO_12 := n1_; have HB := n2_; have BK628 := n3_; have GW628 := n4_; have GE628 := n5_; clear n0_ n1_ n2_ n3_ n4_ n5_; clear hb hbox hg; have hcz47_0 : w46.cell? ⟨gb628, 0, none⟩ = some (.int .i64 0) := (blk_cell BK628.out 0).trans rfl; have hcz47_1 : w46.cell? ⟨gb628, 1, none⟩ = some (.int .i64 0) := (blk_cell BK628.out 1).trans rfl; have hcz47_2 : w46.cell? ⟨gb628, 2, none⟩ = some (.int .i64 0) := (blk_cell BK628.out 2).trans rfl; have hfz47_0 := blk_frozen BK628.out 0; have hfz47_1 := blk_frozen BK628.out 1; have hfz47_2 := blk_frozen BK628.out 2; obtain ⟨Ao48, co48, eo48⟩ := Kd.R_slice HO_12.out; subst eo48; have p629 : 0 ≤ (x14_3 : Int) := of_decide_eq_true (by first | (with_reducible assumption) | assumption); have q629 : x14_3 < (t607.length : Int) := of_decide_eq_true (by first | (with_reducible assumption) | assumption); obtain ⟨ad629, e629, hx629_0, hx629_1, hx629_2, hx629_3, hx629_4, hx629_5⟩ := at_T47 (Kd.R_reads' HO_12.out).2.2 x14_3 p629 q629; cases e629; have hn629_0 : ad629.block ≠ gb628 := Kd.own_blk (Kd.R_ne HO_12.out BK628.out (by decide)); have hn629_1 : ad629.block ≠ gb628 := Kd.own_blk (Kd.R_ne HO_12.out BK628.out (by decide)); have hn629_2 : ad629.block ≠ gb628 := Kd.own_blk (Kd.R_ne HO_12.out BK628.out (by decide)); replace hx629_0 := (cell_far (p := ⟨gb628, 0, none⟩) (by first | (rw [add_block]; exact hn629_0) | (show (Addr.add _ _).block ≠ _; rw [add_block]; exact hn629_0) | exact hn629_0) (.int .i64 t624)).trans hx629_0; replace hx629_1 := (cell_far (p := ⟨gb628, 0, none⟩) (by first | (rw [add_block]; exact hn629_0) | (show (Addr.add _ _).block ≠ _; rw [add_block]; exact hn629_0) | exact hn629_0) (.int .i64 t624)).trans hx629_1; replace hx629_2 := (cell_far (p := ⟨gb628, 0, none⟩) (by first | (rw [add_block]; exact hn629_0) | (show (Addr.add _ _).block ≠ _; rw [add_block]; exact hn629_0) | exact hn629_0) (.int .i64 t624)).trans hx629_2; replace hx629_3 := (cell_far (p := ⟨gb628, 0, none⟩) (by first | (rw [add_block]; exact hn629_0) | (show (Addr.add _ _).block ≠ _; rw [add_block]; exact hn629_0) | exact hn629_0) (.int .i64 t624)).trans hx629_3; replace hx629_4 := (cell_far (p := ⟨gb628, 0, none⟩) (by first | (rw [add_block]; exact hn629_0) | (show (Addr.add _ _).block ≠ _; rw [add_block]; exact hn629_0) | exact hn629_0) (.int .i64 t624)).trans hx629_4; replace hx629_5 := (cell_far (p := ⟨gb628, 0, none⟩) (by first | (rw [add_block]; exact hn629_0) | (show (Addr.add _ _).block ≠ _; rw [add_block]; exact hn629_0) | exact hn629_0) (.int .i64 t624)).trans hx629_5; replace hx629_0 := (cell_far (p := ⟨gb628, 1, none⟩) (by first | (rw [add_block]; exact hn629_1) | (show (Addr.add _ _).block ≠ _; rw [add_block]; exact hn629_1) | exact hn629_1) (.int .i64 t625)).trans hx629_0; replace hx629_1 := (cell_far (p := ⟨gb628, 1, none⟩) (by first | (rw [add_block]; exact hn629_1) | (show (Addr.add _ _).block ≠ _; rw [add_block]; exact hn629_1) | exact hn629_1) (.int .i64 t625)).trans hx629_1; replace hx629_2 := (cell_far (p := ⟨gb628, 1, none⟩) (by first | (rw [add_block]; exact hn629_1) | (show (Addr.add _ _).block ≠ _; rw [add_block]; exact hn629_1) | exact hn629_1) (.int .i64 t625)).trans hx629_2; replace hx629_3 := (cell_far (p := ⟨gb628, 1, none⟩) (by first | (rw [add_block]; exact hn629_1) | (show (Addr.add _ _).block ≠ _; rw [add_block]; exact hn629_1) | exact hn629_1) (.int .i64 t625)).trans hx629_3; replace hx629_4 := (cell_far (p := ⟨gb628, 1, none⟩) (by first | (rw [add_block]; exact hn629_1) | (show (Addr.add _ _).block ≠ _; rw [add_block]; exact hn629_1) | exact hn629_1) (.int .i64 t625)).trans hx629_4; replace hx629_5 := (cell_far (p := ⟨gb628, 1, none⟩) (by first | (rw [add_block]; exact hn629_1) | (show (Addr.add _ _).block ≠ _; rw [add_block]; exact hn629_1) | exact hn629_1) (.int .i64 t625)).trans hx629_5; replace hx629_0 := (cell_far (p := ⟨gb628, 2, none⟩) (by first | (rw [add_block]; exact hn629_2) | (show (Addr.add _ _).block ≠ _; rw [add_block]; exact hn629_2) | exact hn629_2) (.int .i64 t626)).trans hx629_0; replace hx629_1 := (cell_far (p := ⟨gb628, 2, none⟩) (by first | (rw [add_block]; exact hn629_2) | (show (Addr.add _ _).block ≠ _; rw [add_block]; exact hn629_2) | exact hn629_2) (.int .i64 t626)).trans hx629_1; replace hx629_2 := (cell_far (p := ⟨gb628, 2, none⟩) (by first | (rw [add_block]; exact hn629_2) | (show (Addr.add _ _).block ≠ _; rw [add_block]; exact hn629_2) | exact hn629_2) (.int .i64 t626)).trans hx629_2; replace hx629_3 := (cell_far (p := ⟨gb628, 2, none⟩) (by first | (rw [add_block]; exact hn629_2) | (show (Addr.add _ _).block ≠ _; rw [add_block]; exact hn629_2) | exact hn629_2) (.int .i64 t626)).trans hx629_3; replace hx629_4 := (cell_far (p := ⟨gb628, 2, none⟩) (by first | (rw [add_block]; exact hn629_2) | (show (Addr.add _ _).block ≠ _; rw [add_block]; exact hn629_2) | exact hn629_2) (.int .i64 t626)).trans hx629_4; replace hx629_5 := (cell_far (p := ⟨gb628, 2, none⟩) (by first | (rw [add_block]; exact hn629_2) | (show (Addr.add _ _).block ≠ _; rw [add_block]; exact hn629_2) | exact hn629_2) (.int .i64 t626)).trans hx629_5; (try have hy629_0 := fun (n_ : Nat) => (show (((((w46.drewN n_).setCell ⟨gb628, 0, none⟩ (.int .i64 t624)).setCell ⟨gb628, 1, none⟩ (.int .i64 t625)).setCell ⟨gb628, 2, none⟩ (.int .i64 t626))).cell? _ = some _ from hx629_0)); (try have hy629_1 := fun (n_ : Nat) => (show (((((w46.drewN n_).setCell ⟨gb628, 0, none⟩ (.int .i64 t624)).setCell ⟨gb628, 1, none⟩ (.int .i64 t625)).setCell ⟨gb628, 2, none⟩ (.int .i64 t626))).cell? _ = some _ from hx629_1)); (try have hy629_2 := fun (n_ : Nat) => (show (((((w46.drewN n_).setCell ⟨gb628, 0, none⟩ (.int .i64 t624)).setCell ⟨gb628, 1, none⟩ (.int .i64 t625)).setCell ⟨gb628, 2, none⟩ (.int .i64 t626))).cell? _ = some _ from hx629_2)); (try have hy629_3 := fun (n_ : Nat) => (show (((((w46.drewN n_).setCell ⟨gb628, 0, none⟩ (.int .i64 t624)).setCell ⟨gb628, 1, none⟩ (.int .i64 t625)).setCell ⟨gb628, 2, none⟩ (.int .i64 t626))).cell? _ = some _ from hx629_3)); (try have hy629_4 := fun (n_ : Nat) => (show (((((w46.drewN n_).setCell ⟨gb628, 0, none⟩ (.int .i64 t624)).setCell ⟨gb628, 1, none⟩ (.int .i64 t625)).setCell ⟨gb628, 2, none⟩ (.int .i64 t626))).cell? _ = some _ from hx629_4)); (try have hy629_5 := fun (n_ : Nat) => (show (((((w46.drewN n_).setCell ⟨gb628, 0, none⟩ (.int .i64 t624)).setCell ⟨gb628, 1, none⟩ (.int .i64 t625)).setCell ⟨gb628, 2, none⟩ (.int .i64 t626))).cell? _ = some _ from hx629_5)); clear hn629_0; clear hn629_1; clear hn629_2; replace p629 := eq_true p629; replace q629 := eq_true q629; have p630 : 0 ≤ (x14_3 : Int) := of_decide_eq_true (by first | (with_reducible assumption) | assumption); have q630 : x14_3 < (t607.length : Int) := of_decide_eq_true (by first | (with_reducible assumption) | assumption); obtain ⟨ad630, e630, hx630_0, hx630_1, hx630_2, hx630_3, hx630_4, hx630_5⟩ := at_T47 (Kd.R_reads' HO_12.out).2.2 x14_3 p630 q630; obtain rfl : ad629 = ad630 := (by injection e630); have hn630_0 : ad629.block ≠ gb628 := Kd.own_blk (Kd.R_ne HO_12.out BK628.out (by decide)); have hn630_1 : ad629.block ≠ gb628 := Kd.own_blk (Kd.R_ne HO_12.out BK628.out (by decide)); have hn630_2 : ad629.block ≠ gb628 := Kd.own_blk (Kd.R_ne HO_12.out BK628.out (by decide)); replace hx630_0 := (cell_far (p := ⟨gb628, 0, none⟩) (by first | (rw [add_block]; exact hn630_0) | (show (Addr.add _ _).block ≠ _; rw [add_block]; exact hn630_0) | exact hn630_0) (.int .i64 t624)).trans hx630_0; replace hx630_1 := (cell_far (p := ⟨gb628, 0, none⟩) (by first | (rw [add_block]; exact hn630_0) | (show (Addr.add _ _).block ≠ _; rw [add_block]; exact hn630_0) | exact hn630_0) (.int .i64 t624)).trans hx630_1; replace hx630_2 := (cell_far (p := ⟨gb628, 0, none⟩) (by first | (rw [add_block]; exact hn630_0) | (show (Addr.add _ _).block ≠ _; rw [add_block]; exact hn630_0) | exact hn630_0) (.int .i64 t624)).trans hx630_2; replace hx630_3 := (cell_far (p := ⟨gb628, 0, none⟩) (by first | (rw [add_block]; exact hn630_0) | (show (Addr.add _ _).block ≠ _; rw [add_block]; exact hn630_0) | exact hn630_0) (.int .i64 t624)).trans hx630_3; replace hx630_4 := (cell_far (p := ⟨gb628, 0, none⟩) (by first | (rw [add_block]; exact hn630_0) | (show (Addr.add _ _).block ≠ _; rw [add_block]; exact hn630_0) | exact hn630_0) (.int .i64 t624)).trans hx630_4; replace hx630_5 := (cell_far (p := ⟨gb628, 0, none⟩) (by first | (rw [add_block]; exact hn630_0) | (show (Addr.add _ _).block ≠ _; rw [add_block]; exact hn630_0) | exact hn630_0) (.int .i64 t624)).trans hx630_5; replace hx630_0 := (cell_far (p := ⟨gb628, 1, none⟩) (by first | (rw [add_block]; exact hn630_1) | (show (Addr.add _ _).block ≠ _; rw [add_block]; exact hn630_1) | exact hn630_1) (.int .i64 t625)).trans hx630_0; replace hx630_1 := (cell_far (p := ⟨gb628, 1, none⟩) (by first | (rw [add_block]; exact hn630_1) | (show (Addr.add _ _).block ≠ _; rw [add_block]; exact hn630_1) | exact hn630_1) (.int .i64 t625)).trans hx630_1; replace hx630_2 := (cell_far (p := ⟨gb628, 1, none⟩) (by first | (rw [add_block]; exact hn630_1) | (show (Addr.add _ _).block ≠ _; rw [add_block]; exact hn630_1) | exact hn630_1) (.int .i64 t625)).trans hx630_2; replace hx630_3 := (cell_far (p := ⟨gb628, 1, none⟩) (by first | (rw [add_block]; exact hn630_1) | (show (Addr.add _ _).block ≠ _; rw [add_block]; exact hn630_1) | exact hn630_1) (.int .i64 t625)).trans hx630_3; replace hx630_4 := (cell_far (p := ⟨gb628, 1, none⟩) (by first | (rw [add_block]; exact hn630_1) | (show (Addr.add _ _).block ≠ _; rw [add_block]; exact hn630_1) | exact hn630_1) (.int .i64 t625)).trans hx630_4; replace hx630_5 := (cell_far (p := ⟨gb628, 1, none⟩) (by first | (rw [add_block]; exact hn630_1) | (show (Addr.add _ _).block ≠ _; rw [add_block]; exact hn630_1) | exact hn630_1) (.int .i64 t625)).trans hx630_5; replace hx630_0 := (cell_far (p := ⟨gb628, 2, none⟩) (by first | (rw [add_block]; exact hn630_2) | (show (Addr.add _ _).block ≠ _; rw [add_block]; exact hn630_2) | exact hn630_2) (.int .i64 t626)).trans hx630_0; replace hx630_1 := (cell_far (p := ⟨gb628, 2, none⟩) (by first | (rw [add_block]; exact hn630_2) | (show (Addr.add _ _).block ≠ _; rw [add_block]; exact hn630_2) | exact hn630_2) (.int .i64 t626)).trans hx630_1; replace hx630_2 := (cell_far (p := ⟨gb628, 2, none⟩) (by first | (rw [add_block]; exact hn630_2) | (show (Addr.add _ _).block ≠ _; rw [add_block]; exact hn630_2) | exact hn630_2) (.int .i64 t626)).trans hx630_2; replace hx630_3 := (cell_far (p := ⟨gb628, 2, none⟩) (by first | (rw [add_block]; exact hn630_2) | (show (Addr.add _ _).block ≠ _; rw [add_block]; exact hn630_2) | exact hn630_2) (.int .i64 t626)).trans hx630_3; replace hx630_4 := (cell_far (p := ⟨gb628, 2, none⟩) (by first | (rw [add_block]; exact hn630_2) | (show (Addr.add _ _).block ≠ _; rw [add_block]; exact hn630_2) | exact hn630_2) (.int .i64 t626)).trans hx630_4; replace hx630_5 := (cell_far (p := ⟨gb628, 2, none⟩) (by first | (rw [add_block]; exact hn630_2) | (show (Addr.add _ _).block ≠ _; rw [add_block]; exact hn630_2) | exact hn630_2) (.int .i64 t626)).trans hx630_5; (try have hy630_0 := fun (n_ : Nat) => (show (((((w46.drewN n_).setCell ⟨gb628, 0, none⟩ (.int .i64 t624)).setCell ⟨gb628, 1, none⟩ (.int .i64 t625)).setCell ⟨gb628, 2, none⟩ (.int .i64 t626))).cell? _ = some _ from hx630_0)); (try have hy630_1 := fun (n_ : Nat) => (show (((((w46.drewN n_).setCell ⟨gb628, 0, none⟩ (.int .i64 t624)).setCell ⟨gb628, 1, none⟩ (.int .i64 t625)).setCell ⟨gb628, 2, none⟩ (.int .i64 t626))).cell? _ = some _ from hx630_1)); (try have hy630_2 := fun (n_ : Nat) => (show (((((w46.drewN n_).setCell ⟨gb628, 0, none⟩ (.int .i64 t624)).setCell ⟨gb628, 1, none⟩ (.int .i64 t625)).setCell ⟨gb628, 2, none⟩ (.int .i64 t626))).cell? _ = some _ from hx630_2)); (try have hy630_3 := fun (n_ : Nat) => (show (((((w46.drewN n_).setCell ⟨gb628, 0, none⟩ (.int .i64 t624)).setCell ⟨gb628, 1, none⟩ (.int .i64 t625)).setCell ⟨gb628, 2, none⟩ (.int .i64 t626))).cell? _ = some _ from hx630_3)); (try have hy630_4 := fun (n_ : Nat) => (show (((((w46.drewN n_).setCell ⟨gb628, 0, none⟩ (.int .i64 t624)).setCell ⟨gb628, 1, none⟩ (.int .i64 t625)).setCell ⟨gb628, 2, none⟩ (.int .i64 t626))).cell? _ = some _ from hx630_4)); (try have hy630_5 := fun (n_ : Nat) => (show (((((w46.drewN n_).setCell ⟨gb628, 0, none⟩ (.int .i64 t624)).setCell ⟨gb628, 1, none⟩ (.int .i64 t625)).setCell ⟨gb628, 2, none⟩ (.int .i64 t626))).cell? _ = some _ from hx630_5)); clear hn630_0; clear hn630_1; clear hn630_2; replace p630 := eq_true p630; replace q630 := eq_true q630; have p631 : 0 ≤ (x14_3 : Int) := of_decide_eq_true (by first | (with_reducible assumption) | assumption); have q631 : x14_3 < (t603.length : Int) := of_decide_eq_true (by first | (with_reducible assumption) | assumption); obtain ⟨ad631, e631, hx631_0, hx631_1, hx631_2, hx631_3, hx631_4, hx631_5⟩ := at_T47 (Kd.R_reads' HO_10.out).2.2 x14_3 p631 q631; obtain rfl : ad615 = ad631 := (by injection e631); have hn631_0 : ad615.block ≠ gb628 := Kd.own_blk (Kd.R_ne HO_10.out BK628.out (by decide)); have hn631_1 : ad615.block ≠ gb628 := Kd.own_blk (Kd.R_ne HO_10.out BK628.out (by decide)); have hn631_2 : ad615.block ≠ gb628 := Kd.own_blk (Kd.R_ne HO_10.out BK628.out (by decide)); replace hx631_0 := (cell_far (p := ⟨gb628, 0, none⟩) (by first | (rw [add_block]; exact hn631_0) | (show (Addr.add _ _).block ≠ _; rw [add_block]; exact hn631_0) | exact hn631_0) (.int .i64 t624)).trans hx631_0; replace hx631_1 := (cell_far (p := ⟨gb628, 0, none⟩) (by first | (rw [add_block]; exact hn631_0) | (show (Addr.add _ _).block ≠ _; rw [add_block]; exact hn631_0) | exact hn631_0) (.int .i64 t624)).trans hx631_1; replace hx631_2 := (cell_far (p := ⟨gb628, 0, none⟩) (by first | (rw [add_block]; exact hn631_0) | (show (Addr.add _ _).block ≠ _; rw [add_block]; exact hn631_0) | exact hn631_0) (.int .i64 t624)).trans hx631_2; replace hx631_3 := (cell_far (p := ⟨gb628, 0, none⟩) (by first | (rw [add_block]; exact hn631_0) | (show (Addr.add _ _).block ≠ _; rw [add_block]; exact hn631_0) | exact hn631_0) (.int .i64 t624)).trans hx631_3; replace hx631_4 := (cell_far (p := ⟨gb628, 0, none⟩) (by first | (rw [add_block]; exact hn631_0) | (show (Addr.add _ _).block ≠ _; rw [add_block]; exact hn631_0) | exact hn631_0) (.int .i64 t624)).trans hx631_4; replace hx631_5 := (cell_far (p := ⟨gb628, 0, none⟩) (by first | (rw [add_block]; exact hn631_0) | (show (Addr.add _ _).block ≠ _; rw [add_block]; exact hn631_0) | exact hn631_0) (.int .i64 t624)).trans hx631_5; replace hx631_0 := (cell_far (p := ⟨gb628, 1, none⟩) (by first | (rw [add_block]; exact hn631_1) | (show (Addr.add _ _).block ≠ _; rw [add_block]; exact hn631_1) | exact hn631_1) (.int .i64 t625)).trans hx631_0; replace hx631_1 := (cell_far (p := ⟨gb628, 1, none⟩) (by first | (rw [add_block]; exact hn631_1) | (show (Addr.add _ _).block ≠ _; rw [add_block]; exact hn631_1) | exact hn631_1) (.int .i64 t625)).trans hx631_1; replace hx631_2 := (cell_far (p := ⟨gb628, 1, none⟩) (by first | (rw [add_block]; exact hn631_1) | (show (Addr.add _ _).block ≠ _; rw [add_block]; exact hn631_1) | exact hn631_1) (.int .i64 t625)).trans hx631_2; replace hx631_3 := (cell_far (p := ⟨gb628, 1, none⟩) (by first | (rw [add_block]; exact hn631_1) | (show (Addr.add _ _).block ≠ _; rw [add_block]; exact hn631_1) | exact hn631_1) (.int .i64 t625)).trans hx631_3; replace hx631_4 := (cell_far (p := ⟨gb628, 1, none⟩) (by first | (rw [add_block]; exact hn631_1) | (show (Addr.add _ _).block ≠ _; rw [add_block]; exact hn631_1) | exact hn631_1) (.int .i64 t625)).trans hx631_4; replace hx631_5 := (cell_far (p := ⟨gb628, 1, none⟩) (by first | (rw [add_block]; exact hn631_1) | (show (Addr.add _ _).block ≠ _; rw [add_block]; exact hn631_1) | exact hn631_1) (.int .i64 t625)).trans hx631_5; replace hx631_0 := (cell_far (p := ⟨gb628, 2, none⟩) (by first | (rw [add_block]; exact hn631_2) | (show (Addr.add _ _).block ≠ _; rw [add_block]; exact hn631_2) | exact hn631_2) (.int .i64 t626)).trans hx631_0; replace hx631_1 := (cell_far (p := ⟨gb628, 2, none⟩) (by first | (rw [add_block]; exact hn631_2) | (show (Addr.add _ _).block ≠ _; rw [add_block]; exact hn631_2) | exact hn631_2) (.int .i64 t626)).trans hx631_1; replace hx631_2 := (cell_far (p := ⟨gb628, 2, none⟩) (by first | (rw [add_block]; exact hn631_2) | (show (Addr.add _ _).block ≠ _; rw [add_block]; exact hn631_2) | exact hn631_2) (.int .i64 t626)).trans hx631_2; replace hx631_3 := (cell_far (p := ⟨gb628, 2, none⟩) (by first | (rw [add_block]; exact hn631_2) | (show (Addr.add _ _).block ≠ _; rw [add_block]; exact hn631_2) | exact hn631_2) (.int .i64 t626)).trans hx631_3; replace hx631_4 := (cell_far (p := ⟨gb628, 2, none⟩) (by first | (rw [add_block]; exact hn631_2) | (show (Addr.add _ _).block ≠ _; rw [add_block]; exact hn631_2) | exact hn631_2) (.int .i64 t626)).trans hx631_4; replace hx631_5 := (cell_far (p := ⟨gb628, 2, none⟩) (by first | (rw [add_block]; exact hn631_2) | (show (Addr.add _ _).block ≠ _; rw [add_block]; exact hn631_2) | exact hn631_2) (.int .i64 t626)).trans hx631_5; (try have hy631_0 := fun (n_ : Nat) => (show (((((w46.drewN n_).setCell ⟨gb628, 0, none⟩ (.int .i64 t624)).setCell ⟨gb628, 1, none⟩ (.int .i64 t625)).setCell ⟨gb628, 2, none⟩ (.int .i64 t626))).cell? _ = some _ from hx631_0)); (try have hy631_1 := fun (n_ : Nat) => (show (((((w46.drewN n_).setCell ⟨gb628, 0, none⟩ (.int .i64 t624)).setCell ⟨gb628, 1, none⟩ (.int .i64 t625)).setCell ⟨gb628, 2, none⟩ (.int .i64 t626))).cell? _ = some _ from hx631_1)); (try have hy631_2 := fun (n_ : Nat) => (show (((((w46.drewN n_).setCell ⟨gb628, 0, none⟩ (.int .i64 t624)).setCell ⟨gb628, 1, none⟩ (.int .i64 t625)).setCell ⟨gb628, 2, none⟩ (.int .i64 t626))).cell? _ = some _ from hx631_2)); (try have hy631_3 := fun (n_ : Nat) => (show (((((w46.drewN n_).setCell ⟨gb628, 0, none⟩ (.int .i64 t624)).setCell ⟨gb628, 1, none⟩ (.int .i64 t625)).setCell ⟨gb628, 2, none⟩ (.int .i64 t626))).cell? _ = some _ from hx631_3)); (try have hy631_4 := fun (n_ : Nat) => (show (((((w46.drewN n_).setCell ⟨gb628, 0, none⟩ (.int .i64 t624)).setCell ⟨gb628, 1, none⟩ (.int .i64 t625)).setCell ⟨gb628, 2, none⟩ (.int .i64 t626))).cell? _ = some _ from hx631_4)); (try have hy631_5 := fun (n_ : Nat) => (show (((((w46.drewN n_).setCell ⟨gb628, 0, none⟩ (.int .i64 t624)).setCell ⟨gb628, 1, none⟩ (.int .i64 t625)).setCell ⟨gb628, 2, none⟩ (.int .i64 t626))).cell? _ = some _ from hx631_5)); clear hn631_0; clear hn631_1; clear hn631_2; replace p631 := eq_true p631; replace q631 := eq_true q631; have p632 : 0 ≤ (x14_3 : Int) := of_decide_eq_true (by first | (with_reducible assumption) | assumption); have q632 : x14_3 < (t607.length : Int) := of_decide_eq_true (by first | (with_reducible assumption) | assumption); obtain ⟨ad632, e632, hx632_0, hx632_1, hx632_2, hx632_3, hx632_4, hx632_5⟩ := at_T47 (Kd.R_reads' HO_12.out).2.2 x14_3 p632 q632; obtain rfl : ad629 = ad632 := (by injection e632); have hn632_0 : ad629.block ≠ gb628 := Kd.own_blk (Kd.R_ne HO_12.out BK628.out (by decide)); have hn632_1 : ad629.block ≠ gb628 := Kd.own_blk (Kd.R_ne HO_12.out BK628.out (by decide)); have hn632_2 : ad629.block ≠ gb628 := Kd.own_blk (Kd.R_ne HO_12.out BK628.out (by decide)); replace hx632_0 := (cell_far (p := ⟨gb628, 0, none⟩) (by first | (rw [add_block]; exact hn632_0) | (show (Addr.add _ _).block ≠ _; rw [add_block]; exact hn632_0) | exact hn632_0) (.int .i64 t624)).trans hx632_0; replace hx632_1 := (cell_far (p := ⟨gb628, 0, none⟩) (by first | (rw [add_block]; exact hn632_0) | (show (Addr.add _ _).block ≠ _; rw [add_block]; exact hn632_0) | exact hn632_0) (.int .i64 t624)).trans hx632_1; replace hx632_2 := (cell_far (p := ⟨gb628, 0, none⟩) (by first | (rw [add_block]; exact hn632_0) | (show (Addr.add _ _).block ≠ _; rw [add_block]; exact hn632_0) | exact hn632_0) (.int .i64 t624)).trans hx632_2; replace hx632_3 := (cell_far (p := ⟨gb628, 0, none⟩) (by first | (rw [add_block]; exact hn632_0) | (show (Addr.add _ _).block ≠ _; rw [add_block]; exact hn632_0) | exact hn632_0) (.int .i64 t624)).trans hx632_3; replace hx632_4 := (cell_far (p := ⟨gb628, 0, none⟩) (by first | (rw [add_block]; exact hn632_0) | (show (Addr.add _ _).block ≠ _; rw [add_block]; exact hn632_0) | exact hn632_0) (.int .i64 t624)).trans hx632_4; replace hx632_5 := (cell_far (p := ⟨gb628, 0, none⟩) (by first | (rw [add_block]; exact hn632_0) | (show (Addr.add _ _).block ≠ _; rw [add_block]; exact hn632_0) | exact hn632_0) (.int .i64 t624)).trans hx632_5; replace hx632_0 := (cell_far (p := ⟨gb628, 1, none⟩) (by first | (rw [add_block]; exact hn632_1) | (show (Addr.add _ _).block ≠ _; rw [add_block]; exact hn632_1) | exact hn632_1) (.int .i64 t625)).trans hx632_0; replace hx632_1 := (cell_far (p := ⟨gb628, 1, none⟩) (by first | (rw [add_block]; exact hn632_1) | (show (Addr.add _ _).block ≠ _; rw [add_block]; exact hn632_1) | exact hn632_1) (.int .i64 t625)).trans hx632_1; replace hx632_2 := (cell_far (p := ⟨gb628, 1, none⟩) (by first | (rw [add_block]; exact hn632_1) | (show (Addr.add _ _).block ≠ _; rw [add_block]; exact hn632_1) | exact hn632_1) (.int .i64 t625)).trans hx632_2; replace hx632_3 := (cell_far (p := ⟨gb628, 1, none⟩) (by first | (rw [add_block]; exact hn632_1) | (show (Addr.add _ _).block ≠ _; rw [add_block]; exact hn632_1) | exact hn632_1) (.int .i64 t625)).trans hx632_3; replace hx632_4 := (cell_far (p := ⟨gb628, 1, none⟩) (by first | (rw [add_block]; exact hn632_1) | (show (Addr.add _ _).block ≠ _; rw [add_block]; exact hn632_1) | exact hn632_1) (.int .i64 t625)).trans hx632_4; replace hx632_5 := (cell_far (p := ⟨gb628, 1, none⟩) (by first | (rw [add_block]; exact hn632_1) | (show (Addr.add _ _).block ≠ _; rw [add_block]; exact hn632_1) | exact hn632_1) (.int .i64 t625)).trans hx632_5; replace hx632_0 := (cell_far (p := ⟨gb628, 2, none⟩) (by first | (rw [add_block]; exact hn632_2) | (show (Addr.add _ _).block ≠ _; rw [add_block]; exact hn632_2) | exact hn632_2) (.int .i64 t626)).trans hx632_0; replace hx632_1 := (cell_far (p := ⟨gb628, 2, none⟩) (by first | (rw [add_block]; exact hn632_2) | (show (Addr.add _ _).block ≠ _; rw [add_block]; exact hn632_2) | exact hn632_2) (.int .i64 t626)).trans hx632_1; replace hx632_2 := (cell_far (p := ⟨gb628, 2, none⟩) (by first | (rw [add_block]; exact hn632_2) | (show (Addr.add _ _).block ≠ _; rw [add_block]; exact hn632_2) | exact hn632_2) (.int .i64 t626)).trans hx632_2; replace hx632_3 := (cell_far (p := ⟨gb628, 2, none⟩) (by first | (rw [add_block]; exact hn632_2) | (show (Addr.add _ _).block ≠ _; rw [add_block]; exact hn632_2) | exact hn632_2) (.int .i64 t626)).trans hx632_3; replace hx632_4 := (cell_far (p := ⟨gb628, 2, none⟩) (by first | (rw [add_block]; exact hn632_2) | (show (Addr.add _ _).block ≠ _; rw [add_block]; exact hn632_2) | exact hn632_2) (.int .i64 t626)).trans hx632_4; replace hx632_5 := (cell_far (p := ⟨gb628, 2, none⟩) (by first | (rw [add_block]; exact hn632_2) | (show (Addr.add _ _).block ≠ _; rw [add_block]; exact hn632_2) | exact hn632_2) (.int .i64 t626)).trans hx632_5; (try have hy632_0 := fun (n_ : Nat) => (show (((((w46.drewN n_).setCell ⟨gb628, 0, none⟩ (.int .i64 t624)).setCell ⟨gb628, 1, none⟩ (.int .i64 t625)).setCell ⟨gb628, 2, none⟩ (.int .i64 t626))).cell? _ = some _ from hx632_0)); (try have hy632_1 := fun (n_ : Nat) => (show (((((w46.drewN n_).setCell ⟨gb628, 0, none⟩ (.int .i64 t624)).setCell ⟨gb628, 1, none⟩ (.int .i64 t625)).setCell ⟨gb628, 2, none⟩ (.int .i64 t626))).cell? _ = some _ from hx632_1)); (try have hy632_2 := fun (n_ : Nat) => (show (((((w46.drewN n_).setCell ⟨gb628, 0, none⟩ (.int .i64 t624)).setCell ⟨gb628, 1, none⟩ (.int .i64 t625)).setCell ⟨gb628, 2, none⟩ (.int .i64 t626))).cell? _ = some _ from hx632_2)); (try have hy632_3 := fun (n_ : Nat) => (show (((((w46.drewN n_).setCell ⟨gb628, 0, none⟩ (.int .i64 t624)).setCell ⟨gb628, 1, none⟩ (.int .i64 t625)).setCell ⟨gb628, 2, none⟩ (.int .i64 t626))).cell? _ = some _ from hx632_3)); (try have hy632_4 := fun (n_ : Nat) => (show (((((w46.drewN n_).setCell ⟨gb628, 0, none⟩ (.int .i64 t624)).setCell ⟨gb628, 1, none⟩ (.int .i64 t625)).setCell ⟨gb628, 2, none⟩ (.int .i64 t626))).cell? _ = some _ from hx632_4)); (try have hy632_5 := fun (n_ : Nat) => (show (((((w46.drewN n_).setCell ⟨gb628, 0, none⟩ (.int .i64 t624)).setCell ⟨gb628, 1, none⟩ (.int .i64 t625)).setCell ⟨gb628, 2, none⟩ (.int .i64 t626))).cell? _ = some _ from hx632_5)); clear hn632_0; clear hn632_1; clear hn632_2; replace p632 := eq_true p632; replace q632 := eq_true q632; have p633 : 0 ≤ (x14_3 : Int) := of_decide_eq_true (by first | (with_reducible assumption) | assumption); have q633 : x14_3 < (t603.length : Int) := of_decide_eq_true (by first | (with_reducible assumption) | assumption); obtain ⟨ad633, e633, hx633_0, hx633_1, hx633_2, hx633_3, hx633_4, hx633_5⟩ := at_T47 (Kd.R_reads' HO_10.out).2.2 x14_3 p633 q633; obtain rfl : ad615 = ad633 := (by injection e633); have hn633_0 : ad615.block ≠ gb628 := Kd.own_blk (Kd.R_ne HO_10.out BK628.out (by decide)); have hn633_1 : ad615.block ≠ gb628 := Kd.own_blk (Kd.R_ne HO_10.out BK628.out (by decide)); have hn633_2 : ad615.block ≠ gb628 := Kd.own_blk (Kd.R_ne HO_10.out BK628.out (by decide)); replace hx633_0 := (cell_far (p := ⟨gb628, 0, none⟩) (by first | (rw [add_block]; exact hn633_0) | (show (Addr.add _ _).block ≠ _; rw [add_block]; exact hn633_0) | exact hn633_0) (.int .i64 t624)).trans hx633_0; replace hx633_1 := (cell_far (p := ⟨gb628, 0, none⟩) (by first | (rw [add_block]; exact hn633_0) | (show (Addr.add _ _).block ≠ _; rw [add_block]; exact hn633_0) | exact hn633_0) (.int .i64 t624)).trans hx633_1; replace hx633_2 := (cell_far (p := ⟨gb628, 0, none⟩) (by first | (rw [add_block]; exact hn633_0) | (show (Addr.add _ _).block ≠ _; rw [add_block]; exact hn633_0) | exact hn633_0) (.int .i64 t624)).trans hx633_2; replace hx633_3 := (cell_far (p := ⟨gb628, 0, none⟩) (by first | (rw [add_block]; exact hn633_0) | (show (Addr.add _ _).block ≠ _; rw [add_block]; exact hn633_0) | exact hn633_0) (.int .i64 t624)).trans hx633_3; replace hx633_4 := (cell_far (p := ⟨gb628, 0, none⟩) (by first | (rw [add_block]; exact hn633_0) | (show (Addr.add _ _).block ≠ _; rw [add_block]; exact hn633_0) | exact hn633_0) (.int .i64 t624)).trans hx633_4; replace hx633_5 := (cell_far (p := ⟨gb628, 0, none⟩) (by first | (rw [add_block]; exact hn633_0) | (show (Addr.add _ _).block ≠ _; rw [add_block]; exact hn633_0) | exact hn633_0) (.int .i64 t624)).trans hx633_5; replace hx633_0 := (cell_far (p := ⟨gb628, 1, none⟩) (by first | (rw [add_block]; exact hn633_1) | (show (Addr.add _ _).block ≠ _; rw [add_block]; exact hn633_1) | exact hn633_1) (.int .i64 t625)).trans hx633_0; replace hx633_1 := (cell_far (p := ⟨gb628, 1, none⟩) (by first | (rw [add_block]; exact hn633_1) | (show (Addr.add _ _).block ≠ _; rw [add_block]; exact hn633_1) | exact hn633_1) (.int .i64 t625)).trans hx633_1; replace hx633_2 := (cell_far (p := ⟨gb628, 1, none⟩) (by first | (rw [add_block]; exact hn633_1) | (show (Addr.add _ _).block ≠ _; rw [add_block]; exact hn633_1) | exact hn633_1) (.int .i64 t625)).trans hx633_2; replace hx633_3 := (cell_far (p := ⟨gb628, 1, none⟩) (by first | (rw [add_block]; exact hn633_1) | (show (Addr.add _ _).block ≠ _; rw [add_block]; exact hn633_1) | exact hn633_1) (.int .i64 t625)).trans hx633_3; replace hx633_4 := (cell_far (p := ⟨gb628, 1, none⟩) (by first | (rw [add_block]; exact hn633_1) | (show (Addr.add _ _).block ≠ _; rw [add_block]; exact hn633_1) | exact hn633_1) (.int .i64 t625)).trans hx633_4; replace hx633_5 := (cell_far (p := ⟨gb628, 1, none⟩) (by first | (rw [add_block]; exact hn633_1) | (show (Addr.add _ _).block ≠ _; rw [add_block]; exact hn633_1) | exact hn633_1) (.int .i64 t625)).trans hx633_5; replace hx633_0 := (cell_far (p := ⟨gb628, 2, none⟩) (by first | (rw [add_block]; exact hn633_2) | (show (Addr.add _ _).block ≠ _; rw [add_block]; exact hn633_2) | exact hn633_2) (.int .i64 t626)).trans hx633_0; replace hx633_1 := (cell_far (p := ⟨gb628, 2, none⟩) (by first | (rw [add_block]; exact hn633_2) | (show (Addr.add _ _).block ≠ _; rw [add_block]; exact hn633_2) | exact hn633_2) (.int .i64 t626)).trans hx633_1; replace hx633_2 := (cell_far (p := ⟨gb628, 2, none⟩) (by first | (rw [add_block]; exact hn633_2) | (show (Addr.add _ _).block ≠ _; rw [add_block]; exact hn633_2) | exact hn633_2) (.int .i64 t626)).trans hx633_2; replace hx633_3 := (cell_far (p := ⟨gb628, 2, none⟩) (by first | (rw [add_block]; exact hn633_2) | (show (Addr.add _ _).block ≠ _; rw [add_block]; exact hn633_2) | exact hn633_2) (.int .i64 t626)).trans hx633_3; replace hx633_4 := (cell_far (p := ⟨gb628, 2, none⟩) (by first | (rw [add_block]; exact hn633_2) | (show (Addr.add _ _).block ≠ _; rw [add_block]; exact hn633_2) | exact hn633_2) (.int .i64 t626)).trans hx633_4; replace hx633_5 := (cell_far (p := ⟨gb628, 2, none⟩) (by first | (rw [add_block]; exact hn633_2) | (show (Addr.add _ _).block ≠ _; rw [add_block]; exact hn633_2) | exact hn633_2) (.int .i64 t626)).trans hx633_5; (try have hy633_0 := fun (n_ : Nat) => (show (((((w46.drewN n_).setCell ⟨gb628, 0, none⟩ (.int .i64 t624)).setCell ⟨gb628, 1, none⟩ (.int .i64 t625)).setCell ⟨gb628, 2, none⟩ (.int .i64 t626))).cell? _ = some _ from hx633_0)); (try have hy633_1 := fun (n_ : Nat) => (show (((((w46.drewN n_).setCell ⟨gb628, 0, none⟩ (.int .i64 t624)).setCell ⟨gb628, 1, none⟩ (.int .i64 t625)).setCell ⟨gb628, 2, none⟩ (.int .i64 t626))).cell? _ = some _ from hx633_1)); (try have hy633_2 := fun (n_ : Nat) => (show (((((w46.drewN n_).setCell ⟨gb628, 0, none⟩ (.int .i64 t624)).setCell ⟨gb628, 1, none⟩ (.int .i64 t625)).setCell ⟨gb628, 2, none⟩ (.int .i64 t626))).cell? _ = some _ from hx633_2)); (try have hy633_3 := fun (n_ : Nat) => (show (((((w46.drewN n_).setCell ⟨gb628, 0, none⟩ (.int .i64 t624)).setCell ⟨gb628, 1, none⟩ (.int .i64 t625)).setCell ⟨gb628, 2, none⟩ (.int .i64 t626))).cell? _ = some _ from hx633_3)); (try have hy633_4 := fun (n_ : Nat) => (show (((((w46.drewN n_).setCell ⟨gb628, 0, none⟩ (.int .i64 t624)).setCell ⟨gb628, 1, none⟩ (.int .i64 t625)).setCell ⟨gb628, 2, none⟩ (.int .i64 t626))).cell? _ = some _ from hx633_4)); (try have hy633_5 := fun (n_ : Nat) => (show (((((w46.drewN n_).setCell ⟨gb628, 0, none⟩ (.int .i64 t624)).setCell ⟨gb628, 1, none⟩ (.int .i64 t625)).setCell ⟨gb628, 2, none⟩ (.int .i64 t626))).cell? _ = some _ from hx633_5)); clear hn633_0; clear hn633_1; clear hn633_2; replace p633 := eq_true p633; replace q633 := eq_true q633) | go_values | go_skip | go_guarded | go_step | go_upon | go_back | (simp only [Int.not_lt, Int.not_le] at *; go_simp) | (go_values <;> (try go_simp)) | (go_ite <;> go_prune <;> (try go_simp)) | (split <;> (first | (rename_i hx; exact (hx _ rfl).elim) | go_prune)) | go_quiet (fail))
                        go_roundg kj25
                        case measure => have := HJ5.out; have := HJ16.out; have := HK3.out; have := HJ25.out; omega
                        case rel => exact ⟨(wrap64 (x14_3 + 1)), (by first | rfl | (simp; done) | (simp [*]; done)), H', ⟨by have := HJ5.out; have := HJ16.out; have := HK3.out; have := HJ25.out; omega⟩, ⟨by (with_reducible repeat (first | apply Kd.R_alloc | apply Kd.R_drewN | apply Kd.R_drew)); exact Kd.R_mono (Kd.R_far (p := ⟨gb628, 2, none⟩) (Kd.R_far (p := ⟨gb628, 1, none⟩) (Kd.R_far (p := ⟨gb628, 0, none⟩) (Kd.R_types HO_10.out BK628.out (by decide)) (fun _ hk => hk.2) (.int .i64 t624)) (fun _ hk => hk.2) (.int .i64 t625)) (fun _ hk => hk.2) (.int .i64 t626)) (fun _ hk => hk.1)⟩, ⟨by (with_reducible repeat (first | apply Kd.R_alloc | apply Kd.R_drewN | apply Kd.R_drew)); exact Kd.R_mono (Kd.R_far (p := ⟨gb628, 2, none⟩) (Kd.R_far (p := ⟨gb628, 1, none⟩) (Kd.R_far (p := ⟨gb628, 0, none⟩) (Kd.R_types HO_12.out BK628.out (by decide)) (fun _ hk => hk.2) (.int .i64 t624)) (fun _ hk => hk.2) (.int .i64 t625)) (fun _ hk => hk.2) (.int .i64 t626)) (fun _ hk => hk.1)⟩, ⟨by repeat (first | (with_reducible first | exact HB.out | apply below_alloc | apply pw_below_drewN | apply below_drew1 | refine below_set ?_ GE628.out) | exact HB.out)⟩⟩
                       ·as_aux_lemma =>
                        rw [if_neg c44] at H
                        have c44b0 : (((rd_T47 t607 x14_3).f1) == ((rd_T47 t603 x14_3).f1)) = false := beq_eq_false_iff_ne.mpr c44
                        have c44b1 : (((rd_T47 t607 x14_3).f1) != ((rd_T47 t603 x14_3).f1)) = true := bne_iff_ne.mpr c44
                        exact absurd H (by simp)
                      ·as_aux_lemma =>
                       rw [if_neg c43] at H
                       have c43b0 : (((rd_T47 t607 x14_3).f0) == ((rd_T47 t603 x14_3).f0)) = false := beq_eq_false_iff_ne.mpr c43
                       have c43b1 : (((rd_T47 t607 x14_3).f0) != ((rd_T47 t603 x14_3).f0)) = true := bne_iff_ne.mpr c43
                       exact absurd H (by simp)
                    ·as_aux_lemma =>
                     rw [if_neg c41] at H
                     exact absurd H (by simp)
                   ·as_aux_lemma =>
                    rw [if_neg c40] at H
                    have c40b0 : (t627 == 0) = false := beq_eq_false_iff_ne.mpr c40
                    have c40b1 : (t627 != 0) = true := bne_iff_ne.mpr c40
                    exact absurd H (by simp)
                  ·as_aux_lemma =>
                   rw [if_neg c38] at H
                   exact absurd H (by simp)
                 ·as_aux_lemma =>
                  rw [if_neg c37] at H
                  exact absurd H (by simp)
                ·as_aux_lemma =>
                 rw [if_neg c36] at H
                 exact absurd H (by simp)
               ·as_aux_lemma =>
                rw [if_neg c35] at H
                exact absurd H (by simp)
              ·as_aux_lemma =>
               rw [if_neg c34] at H
               exact absurd H (by simp)
             ·as_aux_lemma =>
              rw [if_neg c33] at H
              exact absurd H (by simp)
         ·as_aux_lemma =>
          rw [if_neg c25] at H
          have c25b0 : decide (x14_3 < (t603.length : Int)) = false := decide_eq_false c25
          clear c25
          replace H := Option.bind_eq_some_iff.mp H
          obtain ⟨⟨t634, t635⟩, A490, H⟩ := H
          replace H : (if t635 = 0 then ((sky_See.f k3 l0 t634).bind fun bt638 => ((sky_Shift.f k3 t634 (wrap64 (-a2)) (wrap64 (-a3))).bind fun bt642 => (if t601 = true then (if bt638.2 = 0 then ((fringeref41_SameVis.f k3 bt638.1 t607).bind fun t646 => (if t646 = true then (if bt642.2 = 0 then ((fringeref41_Same.f k3 bt642.1 l1).bind fun t647 => (some t647)) else (some false)) else (some false))) else (some false)) else (some false)))) else (if t601 = true then (some (t635 == 16)) else (some false))) = some true := H
          have A49 := Aside0.mk A490
          clear A490
          by_cases c50 : t635 = 0
          ·as_aux_lemma =>
           rw [if_pos c50] at H
           have c50b0 : (t635 == 0) = true := beq_iff_eq.mpr c50
           have c50b1 : (t635 != 0) = false := bne_eq_false_iff_eq.mpr c50
           clear c50
           replace H := Option.bind_eq_some_iff.mp H
           obtain ⟨⟨t638, t639⟩, A510, H⟩ := H
           replace H : ((sky_Shift.f k3 t634 (wrap64 (-a2)) (wrap64 (-a3))).bind fun bt642 => (if t601 = true then (if t639 = 0 then ((fringeref41_SameVis.f k3 t638 t607).bind fun t646 => (if t646 = true then (if bt642.2 = 0 then ((fringeref41_Same.f k3 bt642.1 l1).bind fun t647 => (some t647)) else (some false)) else (some false))) else (some false)) else (some false))) = some true := H
           have A51 := Aside0.mk A510
           clear A510
           replace H := Option.bind_eq_some_iff.mp H
           obtain ⟨⟨t642, t643⟩, A520, H⟩ := H
           replace H : (if t601 = true then (if t639 = 0 then ((fringeref41_SameVis.f k3 t638 t607).bind fun t646 => (if t646 = true then (if t643 = 0 then ((fringeref41_Same.f k3 t642 l1).bind fun t647 => (some t647)) else (some false)) else (some false))) else (some false)) else (some false)) = some true := H
           have A52 := Aside0.mk A520
           clear A520
           by_cases c53 : t601 = true
           ·as_aux_lemma =>
            subst c53
            have H1 : (if t639 = 0 then ((fringeref41_SameVis.f k3 t638 t607).bind fun t646 => (if t646 = true then (if t643 = 0 then ((fringeref41_Same.f k3 t642 l1).bind fun t647 => (some t647)) else (some false)) else (some false))) else (some false)) = some true := by first | (with_reducible rfl) | (rw [if_pos rfl] at H; exact H)
            clear H
            have H := H1
            clear H1
            by_cases c54 : t639 = 0
            ·as_aux_lemma =>
             rw [if_pos c54] at H
             have c54b0 : (t639 == 0) = true := beq_iff_eq.mpr c54
             have c54b1 : (t639 != 0) = false := bne_eq_false_iff_eq.mpr c54
             clear c54
             replace H := Option.bind_eq_some_iff.mp H
             obtain ⟨t646, A550, H⟩ := H
             replace H : (if t646 = true then (if t643 = 0 then ((fringeref41_Same.f k3 t642 l1).bind fun t647 => (some t647)) else (some false)) else (some false)) = some true := H
             have A55 := Aside0.mk A550
             clear A550
             by_cases c56 : t646 = true
             ·as_aux_lemma =>
              subst c56
              have H1 : (if t643 = 0 then ((fringeref41_Same.f k3 t642 l1).bind fun t647 => (some t647)) else (some false)) = some true := by first | (with_reducible rfl) | (rw [if_pos rfl] at H; exact H)
              clear H
              have H := H1
              clear H1
              by_cases c57 : t643 = 0
              ·as_aux_lemma =>
               rw [if_pos c57] at H
               have c57b0 : (t643 == 0) = true := beq_iff_eq.mpr c57
               have c57b1 : (t643 != 0) = false := bne_eq_false_iff_eq.mpr c57
               clear c57
               replace H := Option.bind_eq_some_iff.mp H
               obtain ⟨t647, A580, H⟩ := H
               replace H : (some t647) = some true := H
               have A58 := Aside0.mk A580
               clear A580
               have hend := Aside0.mk (Option.some.inj H)
               clear H
               obtain ⟨Ao59, co59, eo59⟩ := Kd.R_slice HO_10.out
               subst eo59
               go_wp2_with (first |  (go_at_call 13; (with_reducible refine (sky_Shift.calls k3 _ _ l1 a2 a3 t634 t635 _ ?side1 ?side2 A49.out).mono ?_); (case side1 => repeat (first | exact (Kd.C_below HR1.out HB.out) | (with_reducible refine Kd.C_alloc ?_ _) | (with_reducible refine Kd.C_drewN ?_ _) | (with_reducible refine Kd.C_drew ?_))); (case side2 => exact HC1.out); rintro e w60 ⟨v636, rfl, ho0, hb⟩; have n0_ := Aside0.mk (Kd.R_below (by (with_reducible repeat (first | apply Kd.R_alloc | apply Kd.R_drewN | apply Kd.R_drew)); exact HO_10.out) hb); have n1_ := Aside0.mk (Kd.R_below (by (with_reducible repeat (first | apply Kd.R_alloc | apply Kd.R_drewN | apply Kd.R_drew)); exact HO_12.out) hb); have n2_ := Aside0.mk (Kd.R_lower ho0 (below_size (by repeat (first | (with_reducible first | exact HB.out | apply below_alloc | apply pw_below_drewN | apply below_drew1) | exact HB.out)))); have n3_ := Aside0.mk (below_step (by repeat (first | (with_reducible first | exact HB.out | apply below_alloc | apply pw_below_drewN | apply below_drew1) | exact HB.out)) hb); clear HO_10; clear HO_12; clear HB; have HO_10 := n0_; have HO_12 := n1_; have HO637 := n2_; have HB := n3_; clear n0_ n1_ n2_ n3_; (try clear hb); (try clear hb2); (try clear hk); (try clear hi); (try clear ho0); obtain ⟨Ao61, co61, eo61⟩ := Kd.R_slice HO637.out; subst eo61) | (go_at_call 18; (with_reducible refine (sky_See.calls k3 _ _ l0 _ _ t634 t638 t639 _ ?side1 ?side2 ?side3 ?side4 A51.out).mono ?_); (case side1 => repeat (first | exact (Kd.C_below HR0.out HB.out) | (with_reducible refine Kd.C_alloc ?_ _) | (with_reducible refine Kd.C_drewN ?_ _) | (with_reducible refine Kd.C_drew ?_))); (case side2 => exact HC0.out); (case side3 => repeat (first | exact (Kd.R_reads' HO637.out).2.2 | (with_reducible refine Kd.C_alloc ?_ _) | (with_reducible refine Kd.C_drewN ?_ _) | (with_reducible refine Kd.C_drew ?_))); (case side4 => exact (Kd.R_reads' HO637.out).2.1); rintro e w62 ⟨v640, rfl, ho0, hb⟩; have n0_ := Aside0.mk (Kd.R_elder' (by (with_reducible repeat (first | apply Kd.R_alloc | apply Kd.R_drewN | apply Kd.R_drew)); exact HO_10.out) (Kd.R_base ho0) hb); have n1_ := Aside0.mk (Kd.R_elder' (by (with_reducible repeat (first | apply Kd.R_alloc | apply Kd.R_drewN | apply Kd.R_drew)); exact HO_12.out) (Kd.R_base ho0) hb); have n2_ := Aside0.mk (Kd.R_below (by (with_reducible repeat (first | apply Kd.R_alloc | apply Kd.R_drewN | apply Kd.R_drew)); exact HO637.out) hb); have n3_ := Aside0.mk (Kd.R_lower (Kd.R_new' (Kd.R_new' ho0 (Kd.R_lt (by (with_reducible repeat (first | apply Kd.R_alloc | apply Kd.R_drewN | apply Kd.R_drew)); exact HO_10.out))) (Kd.R_lt (by (with_reducible repeat (first | apply Kd.R_alloc | apply Kd.R_drewN | apply Kd.R_drew)); exact HO_12.out))) (below_size (by repeat (first | (with_reducible first | exact HB.out | apply below_alloc | apply pw_below_drewN | apply below_drew1) | exact HB.out)))); have n4_ := Aside0.mk (below_step (by repeat (first | (with_reducible first | exact HB.out | apply below_alloc | apply pw_below_drewN | apply below_drew1) | exact HB.out)) hb); clear HO_10; clear HO_12; clear HO637; clear HB; have HO_10 := n0_; have HO_12 := n1_; have HO637 := n2_; have HO641 := n3_; have HB := n4_; clear n0_ n1_ n2_ n3_ n4_; (try clear hb); (try clear hb2); (try clear hk); (try clear hi); (try clear ho0)) | (go_at_call 13; (with_reducible refine (sky_Shift.calls k3 _ _ t634 (wrap64 (-a2)) (wrap64 (-a3)) t642 t643 _ ?side1 ?side2 A52.out).mono ?_); (case side1 => repeat (first | exact (Kd.R_reads' HO637.out).2.2 | (with_reducible refine Kd.C_alloc ?_ _) | (with_reducible refine Kd.C_drewN ?_ _) | (with_reducible refine Kd.C_drew ?_))); (case side2 => exact (Kd.R_reads' HO637.out).2.1); rintro e w63 ⟨v644, rfl, ho0, hb⟩; have n0_ := Aside0.mk (Kd.R_below (by (with_reducible repeat (first | apply Kd.R_alloc | apply Kd.R_drewN | apply Kd.R_drew)); exact HO_10.out) hb); have n1_ := Aside0.mk (Kd.R_below (by (with_reducible repeat (first | apply Kd.R_alloc | apply Kd.R_drewN | apply Kd.R_drew)); exact HO_12.out) hb); have n2_ := Aside0.mk (Kd.R_elder' (by (with_reducible repeat (first | apply Kd.R_alloc | apply Kd.R_drewN | apply Kd.R_drew)); exact HO637.out) (Kd.R_base ho0) hb); have n3_ := Aside0.mk (Kd.R_below (by (with_reducible repeat (first | apply Kd.R_alloc | apply Kd.R_drewN | apply Kd.R_drew)); exact HO641.out) hb); have n4_ := Aside0.mk (Kd.R_lower (Kd.R_new' ho0 (Kd.R_lt (by (with_reducible repeat (first | apply Kd.R_alloc | apply Kd.R_drewN | apply Kd.R_drew)); exact HO637.out))) (below_size (by repeat (first | (with_reducible first | exact HB.out | apply below_alloc | apply pw_below_drewN | apply below_drew1) | exact HB.out)))); have n5_ := Aside0.mk (below_step (by repeat (first | (with_reducible first | exact HB.out | apply below_alloc | apply pw_below_drewN | apply below_drew1) | exact HB.out)) hb); clear HO_10; clear HO_12; clear HO637; clear HO641; clear HB; have HO_10 := n0_; have HO_12 := n1_; have HO637 := n2_; have HO641 := n3_; have HO645 := n4_; have HB := n5_; clear n0_ n1_ n2_ n3_ n4_ n5_; (try clear hb); (try clear hb2); (try clear hk); (try clear hi); (try clear ho0); obtain ⟨Ao64, co64, eo64⟩ := Kd.R_slice HO641.out; subst eo64; obtain ⟨Ao65, co65, eo65⟩ := Kd.R_slice HO_12.out; subst eo65) | (go_at_call 20; (with_reducible refine (fringeref41_SameVis.calls k3 _ _ t638 _ _ t607 true _ ?side1 ?side2 ?side3 ?side4 A55.out).mono ?_); (case side1 => repeat (first | exact (Kd.R_reads' HO641.out).2.2 | (with_reducible refine Kd.C_alloc ?_ _) | (with_reducible refine Kd.C_drewN ?_ _) | (with_reducible refine Kd.C_drew ?_))); (case side2 => exact (Kd.R_reads' HO641.out).2.1); (case side3 => repeat (first | exact (Kd.R_reads' HO_12.out).2.2 | (with_reducible refine Kd.C_alloc ?_ _) | (with_reducible refine Kd.C_drewN ?_ _) | (with_reducible refine Kd.C_drew ?_))); (case side4 => exact (Kd.R_reads' HO_12.out).2.1); rintro e w' ⟨rfl, ⟨nd, rfl⟩⟩; (try first | exact ⟨rfl, _, World.drewN_drewN _ _ _⟩ | exact ⟨rfl, _, Eq.trans (World.drewN_drewN _ _ _) (congrArg (World.drewN _) (Nat.add_assoc _ _ _))⟩); obtain ⟨Ao66, co66, eo66⟩ := Kd.R_slice HO645.out; subst eo66) | (go_at_call 15; (with_reducible refine (fringeref41_Same.calls k3 _ _ t642 _ _ l1 t647 _ ?side1 ?side2 ?side3 ?side4 A58.out).mono ?_); (case side1 => repeat (first | exact (Kd.R_reads' HO645.out).2.2 | (with_reducible refine Kd.C_alloc ?_ _) | (with_reducible refine Kd.C_drewN ?_ _) | (with_reducible refine Kd.C_drew ?_))); (case side2 => exact (Kd.R_reads' HO645.out).2.1); (case side3 => repeat (first | exact (Kd.C_below HR1.out (by repeat (first | (with_reducible first | exact HB.out | apply below_alloc | apply pw_below_drewN | apply below_drew1) | exact HB.out))) | (with_reducible refine Kd.C_alloc ?_ _) | (with_reducible refine Kd.C_drewN ?_ _) | (with_reducible refine Kd.C_drew ?_))); (case side4 => exact HC1.out); rintro e w' ⟨rfl, ⟨nd, rfl⟩⟩; (try first | exact ⟨rfl, _, World.drewN_drewN _ _ _⟩ | exact ⟨rfl, _, Eq.trans (World.drewN_drewN _ _ _) (congrArg (World.drewN _) (Nat.add_assoc _ _ _))⟩)) | go_values | go_skip | go_guarded | go_step | go_upon | go_back | (simp only [Int.not_lt, Int.not_le] at *; go_simp) | (go_values <;> (try go_simp)) | (go_ite <;> go_prune <;> (try go_simp)) | (split <;> (first | (rename_i hx; exact (hx _ rfl).elim) | go_prune)) | go_quiet (fail))
               go_ret
               exact ⟨by first | rfl | (rw [hend.out]; done) | (simp only [hend.out]; done) | (simp [*]; first | exact hend.out | exact eq_of_beq hend.out | exact of_decide_eq_true hend.out) | (have h_ := hend.out; simp_all; done) | (simp [*, errW_none, errW_some] <;> rfl), by repeat (first | (with_reducible first | exact HB.out | apply below_alloc | apply pw_below_drewN | apply below_drew1) | exact HB.out)⟩
              ·as_aux_lemma =>
               rw [if_neg c57] at H
               have c57b0 : (t643 == 0) = false := beq_eq_false_iff_ne.mpr c57
               have c57b1 : (t643 != 0) = true := bne_iff_ne.mpr c57
               exact absurd H (by simp)
             ·as_aux_lemma =>
              replace c56 := Bool.eq_false_iff.mpr c56
              subst c56
              have H1 : (some false) = some true := by first | (with_reducible rfl) | (rw [if_neg (show ¬ (false = true) by decide)] at H; exact H)
              clear H
              have H := H1
              clear H1
              exact absurd H (by simp)
            ·as_aux_lemma =>
             rw [if_neg c54] at H
             have c54b0 : (t639 == 0) = false := beq_eq_false_iff_ne.mpr c54
             have c54b1 : (t639 != 0) = true := bne_iff_ne.mpr c54
             exact absurd H (by simp)
           ·as_aux_lemma =>
            replace c53 := Bool.eq_false_iff.mpr c53
            subst c53
            have H1 : (some false) = some true := by first | (with_reducible rfl) | (rw [if_neg (show ¬ (false = true) by decide)] at H; exact H)
            clear H
            have H := H1
            clear H1
            exact absurd H (by simp)
          ·as_aux_lemma =>
           rw [if_neg c50] at H
           have c50b0 : (t635 == 0) = false := beq_eq_false_iff_ne.mpr c50
           have c50b1 : (t635 != 0) = true := bne_iff_ne.mpr c50
           by_cases c67 : t601 = true
           ·as_aux_lemma =>
            subst c67
            have H1 : (some (t635 == 16)) = some true := by first | (with_reducible rfl) | (rw [if_pos rfl] at H; exact H)
            clear H
            have H := H1
            clear H1
            have hend := Aside0.mk (Option.some.inj H)
            clear H
            obtain ⟨Ao68, co68, eo68⟩ := Kd.R_slice HO_10.out
            subst eo68
            go_wp2_with (first |  (go_at_call 13; (with_reducible refine (sky_Shift.calls k3 _ _ l1 a2 a3 t634 t635 _ ?side1 ?side2 A49.out).mono ?_); (case side1 => repeat (first | exact (Kd.C_below HR1.out HB.out) | (with_reducible refine Kd.C_alloc ?_ _) | (with_reducible refine Kd.C_drewN ?_ _) | (with_reducible refine Kd.C_drew ?_))); (case side2 => exact HC1.out); rintro e w69 ⟨v636, rfl, ho0, hb⟩; have n0_ := Aside0.mk (Kd.R_below (by (with_reducible repeat (first | apply Kd.R_alloc | apply Kd.R_drewN | apply Kd.R_drew)); exact HO_10.out) hb); have n1_ := Aside0.mk (Kd.R_below (by (with_reducible repeat (first | apply Kd.R_alloc | apply Kd.R_drewN | apply Kd.R_drew)); exact HO_12.out) hb); have n2_ := Aside0.mk (Kd.R_lower ho0 (below_size (by repeat (first | (with_reducible first | exact HB.out | apply below_alloc | apply pw_below_drewN | apply below_drew1) | exact HB.out)))); have n3_ := Aside0.mk (below_step (by repeat (first | (with_reducible first | exact HB.out | apply below_alloc | apply pw_below_drewN | apply below_drew1) | exact HB.out)) hb); clear HO_10; clear HO_12; clear HB; have HO_10 := n0_; have HO_12 := n1_; have HO637 := n2_; have HB := n3_; clear n0_ n1_ n2_ n3_; (try clear hb); (try clear hb2); (try clear hk); (try clear hi); (try clear ho0)) | go_values | go_skip | go_guarded | go_step | go_upon | go_back | (simp only [Int.not_lt, Int.not_le] at *; go_simp) | (go_values <;> (try go_simp)) | (go_ite <;> go_prune <;> (try go_simp)) | (split <;> (first | (rename_i hx; exact (hx _ rfl).elim) | go_prune)) | go_quiet (fail))
            go_ret
            exact ⟨by first | rfl | (rw [hend.out]; done) | (simp only [hend.out]; done) | (simp [*]; first | exact hend.out | exact eq_of_beq hend.out | exact of_decide_eq_true hend.out) | (have h_ := hend.out; simp_all; done) | (simp [*, errW_none, errW_some] <;> rfl), by repeat (first | (with_reducible first | exact HB.out | apply below_alloc | apply pw_below_drewN | apply below_drew1) | exact HB.out)⟩
           ·as_aux_lemma =>
            replace c67 := Bool.eq_false_iff.mpr c67
            subst c67
            have H1 : (some false) = some true := by first | (with_reducible rfl) | (rw [if_neg (show ¬ (false = true) by decide)] at H; exact H)
            clear H
            have H := H1
            clear H1
            exact absurd H (by simp)

end Go.Proofs.Ytihmhcdcbcleeaa.Q
