-- Written by qprint.py (a program of this session) over the program of the kit that prints contracts. Not trusted: Lean checks it.
import Derived.Test.YtihmhcdcbcleeaaQ0
import Derived.Test.YtihmhcdcbcleeaaQ4
import Derived.Test.YtihmhcdcbcleeaaQ5
import Derived.Test.YtihmhcdcbcleeaaQ11
import Derived.Test.YtihmhcdcbcleeaaQ13
import Derived.Test.YtihmhcdcbcleeaaQ14
import Derived.Test.YtihmhcdcbcleeaaQ15
import Derived.Test.YtihmhcdcbcleeaaQ17
import Derived.Test.YtihmhcdcbcleeaaQ23
import Derived.Test.YtihmhcdcbcleeaaQ24
namespace Go.Proofs.Ytihmhcdcbcleeaa.Q
open Go.RowKit Go.Proofs.YtihmhcdcbcleeaaW.PrintWords Go.Proofs.YtihmhcdcbcleeaaW.PrintLast Go.Proofs.YtihmhcdcbcleeaaW.PrintMore
attribute [local go_sem] max2_int min2_int max_two min_two max_three min_three max_four min_four   -- for this text's walks alone
set_option linter.unusedVariables false
set_option linter.unusedSimpArgs false

/-! ### fringelaw41_SkySees: function 6 -/
def fringelaw41_SkySees.f (k : Nat) (l0 : List (S41)) (l1 : List (S33)) (a2 : Int) (a3 : Int) (a4 : Int) : Option (Bool) := (fringeref41_Great.f l0 l1).bind fun t431 => (if t431 = true then (some true) else ((sky_See.f k l0 l1).bind fun bt432 => ((fringeref41_See.f k l0 l1).bind fun bt436 => ((sky_Turned.f k l0 l1 a2 a3).bind fun bt440 => ((fringeref41_Turned.f k l0 l1 a2 a3).bind fun bt444 => ((sky_Dirty.f k l0 l1 a4).bind fun bt448 => ((fringeref41_Dirty.f k l0 l1 a4).bind fun bt452 => ((sky_Check.f k l1).bind fun t456 => ((fringeref41_Check.f k l1).bind fun t457 => (if t456 = t457 then ((sky_Places.f k l0).bind fun t458 => ((fringeref41_Places.f k l0).bind fun t459 => (if t458 = t459 then ((fringeref41_SameVis.f k bt432.1 bt436.1).bind fun t460 => (if t460 = true then (if bt432.2 = bt436.2 then ((fringeref41_SameVis.f k bt440.1 bt444.1).bind fun t461 => (if t461 = true then (if bt440.2 = bt444.2 then ((fringeref41_SameImage.f k bt448.1 bt452.1).bind fun t462 => (if t462 = true then (some (bt448.2 == bt452.2)) else (some false))) else (some false)) else (some false))) else (some false)) else (some false))) else (some false)))) else (some false)))))))))))
theorem fringelaw41_SkySees.mono : ∀ a0 a1 a2 a3 a4 k, LeO (fringelaw41_SkySees.f k a0 a1 a2 a3 a4) (fringelaw41_SkySees.f (k + 1) a0 a1 a2 a3 a4) := by
 intro a0 a1 a2 a3 a4 k
 unfold fringelaw41_SkySees.f
 repeat' first
   | (with_reducible exact fringeref41_Check.mono _ _)
   | (with_reducible exact fringeref41_Dirty.mono _ _ _ _)
   | (with_reducible exact fringeref41_Places.mono _ _)
   | (with_reducible exact fringeref41_SameImage.mono _ _ _)
   | (with_reducible exact fringeref41_SameVis.mono _ _ _)
   | (with_reducible exact fringeref41_See.mono _ _ _)
   | (with_reducible exact fringeref41_Turned.mono _ _ _ _ _)
   | (with_reducible exact sky_Check.mono _ _)
   | (with_reducible exact sky_Dirty.mono _ _ _ _)
   | (with_reducible exact sky_Places.mono _ _)
   | (with_reducible exact sky_See.mono _ _ _)
   | (with_reducible exact sky_Turned.mono _ _ _ _ _)
   | (with_reducible exact LeO.refl _)
   | (with_reducible exact LeO.none _)
   | (with_reducible refine LeO.ite ?_ ?_)
   | (with_reducible refine LeO.bind ?_ (fun _ => ?_))
   | exact fringeref41_Check.mono _ _
   | exact fringeref41_Dirty.mono _ _ _ _
   | exact fringeref41_Places.mono _ _
   | exact fringeref41_SameImage.mono _ _ _
   | exact fringeref41_SameVis.mono _ _ _
   | exact fringeref41_See.mono _ _ _
   | exact fringeref41_Turned.mono _ _ _ _ _
   | exact sky_Check.mono _ _
   | exact sky_Dirty.mono _ _ _ _
   | exact sky_Places.mono _ _
   | exact sky_See.mono _ _ _
   | exact sky_Turned.mono _ _ _ _ _
   | exact LeO.none _
   | refine LeO.ite ?_ ?_
   | refine LeO.bind ?_ (fun _ => ?_)
set_option maxHeartbeats 8000000 in
set_option maxRecDepth 100000 in
theorem fringelaw41_SkySees.calls (k : Nat) (A0 : Option Addr) (c0 : Nat) (l0 : List (S41)) (A1 : Option Addr) (c1 : Nat) (l1 : List (S33)) (a2 : Int) (a3 : Int) (a4 : Int) (w : World) (hr0 : Kd.C k41 w A0 l0.length l0) (hc0 : l0.length ≤ c0) (hr1 : Kd.C k33 w A1 l1.length l1) (hc1 : l1.length ≤ c1) (h : fringelaw41_SkySees.f k l0 l1 a2 a3 a4 = some true) :
  Calls Try.prog 6 #[.slice A0 l0.length c0, .slice A1 l1.length c1, .int .i64 a2, .int .i64 a3, .int .i64 a4] w fun e w' => e = .returned (.bool true) ∧ Below w.heap.size w w' := by
 have HR0 := Aside0.mk hr0
 have HC0 := Aside0.mk hc0
 clear hr0 hc0
 have HR1 := Aside0.mk hr1
 have HC1 := Aside0.mk hc1
 clear hr1 hc1
 have HB := Aside0.mk (Below.refl w.heap.size w)
 have H : ((fringeref41_Great.f l0 l1).bind fun t431 => (if t431 = true then (some true) else ((sky_See.f k l0 l1).bind fun bt432 => ((fringeref41_See.f k l0 l1).bind fun bt436 => ((sky_Turned.f k l0 l1 a2 a3).bind fun bt440 => ((fringeref41_Turned.f k l0 l1 a2 a3).bind fun bt444 => ((sky_Dirty.f k l0 l1 a4).bind fun bt448 => ((fringeref41_Dirty.f k l0 l1 a4).bind fun bt452 => ((sky_Check.f k l1).bind fun t456 => ((fringeref41_Check.f k l1).bind fun t457 => (if t456 = t457 then ((sky_Places.f k l0).bind fun t458 => ((fringeref41_Places.f k l0).bind fun t459 => (if t458 = t459 then ((fringeref41_SameVis.f k bt432.1 bt436.1).bind fun t460 => (if t460 = true then (if bt432.2 = bt436.2 then ((fringeref41_SameVis.f k bt440.1 bt444.1).bind fun t461 => (if t461 = true then (if bt440.2 = bt444.2 then ((fringeref41_SameImage.f k bt448.1 bt452.1).bind fun t462 => (if t462 = true then (some (bt448.2 == bt452.2)) else (some false))) else (some false)) else (some false))) else (some false)) else (some false))) else (some false)))) else (some false)))))))))))) = some true := h
 clear h
 replace H := Option.bind_eq_some_iff.mp H
 obtain ⟨t431, A60, H⟩ := H
 replace H : (if t431 = true then (some true) else ((sky_See.f k l0 l1).bind fun bt432 => ((fringeref41_See.f k l0 l1).bind fun bt436 => ((sky_Turned.f k l0 l1 a2 a3).bind fun bt440 => ((fringeref41_Turned.f k l0 l1 a2 a3).bind fun bt444 => ((sky_Dirty.f k l0 l1 a4).bind fun bt448 => ((fringeref41_Dirty.f k l0 l1 a4).bind fun bt452 => ((sky_Check.f k l1).bind fun t456 => ((fringeref41_Check.f k l1).bind fun t457 => (if t456 = t457 then ((sky_Places.f k l0).bind fun t458 => ((fringeref41_Places.f k l0).bind fun t459 => (if t458 = t459 then ((fringeref41_SameVis.f k bt432.1 bt436.1).bind fun t460 => (if t460 = true then (if bt432.2 = bt436.2 then ((fringeref41_SameVis.f k bt440.1 bt444.1).bind fun t461 => (if t461 = true then (if bt440.2 = bt444.2 then ((fringeref41_SameImage.f k bt448.1 bt452.1).bind fun t462 => (if t462 = true then (some (bt448.2 == bt452.2)) else (some false))) else (some false)) else (some false))) else (some false)) else (some false))) else (some false)))) else (some false))))))))))) = some true := H
 have A6 := Aside0.mk A60
 clear A60
 by_cases c7 : t431 = true
 ·subst c7
  have H1 : (some true) = some true := by first | (with_reducible rfl) | (rw [if_pos rfl] at H; exact H)
  clear H
  have H := H1
  clear H1
  have hend := Aside0.mk (Option.some.inj H)
  clear H
  go_enter Try.func6, Try.ntmps6
  go_wp2_with (first | ((with_reducible refine gate_callee (f := 10) rfl ?_); refine goesL_ (some 25) rfl rfl Try.func10 (by kernel_rfl) rfl #[.slice A0 l0.length c0, .slice A1 l1.length c1] rfl (by (try simp only [List.map_toArray, List.map_cons, List.map_nil]); first | done | rfl | (simp only [List.length_drop, List.length_take]; rfl)) ?_; (with_reducible refine (fringeref41_Great.calls _ _ l0 _ _ l1 true _ ?side1 ?side2 ?side3 ?side4 A6.out).mono ?_); (case side1 => repeat (first | exact HR0.out | (with_reducible refine Kd.C_alloc ?_ _) | (with_reducible refine Kd.C_drewN ?_ _) | (with_reducible refine Kd.C_drew ?_))); (case side2 => exact HC0.out); (case side3 => repeat (first | exact HR1.out | (with_reducible refine Kd.C_alloc ?_ _) | (with_reducible refine Kd.C_drewN ?_ _) | (with_reducible refine Kd.C_drew ?_))); (case side4 => exact HC1.out); rintro e w' ⟨rfl, ⟨nd, rfl⟩⟩; refine ⟨_, rfl, ?_⟩))
  go_ret
  exact ⟨by first | rfl | (rw [hend.out]; done) | (simp only [hend.out]; done) | (have h_ := hend.out; simp_all; done) | (simp [*, errW_none, errW_some] <;> rfl), by repeat (first | (with_reducible first | exact HB.out | apply below_alloc | apply pw_below_drewN | apply below_drew1) | exact HB.out)⟩
 ·replace c7 := Bool.eq_false_iff.mpr c7
  subst c7
  have H1 : ((sky_See.f k l0 l1).bind fun bt432 => ((fringeref41_See.f k l0 l1).bind fun bt436 => ((sky_Turned.f k l0 l1 a2 a3).bind fun bt440 => ((fringeref41_Turned.f k l0 l1 a2 a3).bind fun bt444 => ((sky_Dirty.f k l0 l1 a4).bind fun bt448 => ((fringeref41_Dirty.f k l0 l1 a4).bind fun bt452 => ((sky_Check.f k l1).bind fun t456 => ((fringeref41_Check.f k l1).bind fun t457 => (if t456 = t457 then ((sky_Places.f k l0).bind fun t458 => ((fringeref41_Places.f k l0).bind fun t459 => (if t458 = t459 then ((fringeref41_SameVis.f k bt432.1 bt436.1).bind fun t460 => (if t460 = true then (if bt432.2 = bt436.2 then ((fringeref41_SameVis.f k bt440.1 bt444.1).bind fun t461 => (if t461 = true then (if bt440.2 = bt444.2 then ((fringeref41_SameImage.f k bt448.1 bt452.1).bind fun t462 => (if t462 = true then (some (bt448.2 == bt452.2)) else (some false))) else (some false)) else (some false))) else (some false)) else (some false))) else (some false)))) else (some false)))))))))) = some true := by first | (with_reducible rfl) | (rw [if_neg (show ¬ (false = true) by decide)] at H; exact H)
  clear H
  have H := H1
  clear H1
  replace H := Option.bind_eq_some_iff.mp H
  obtain ⟨⟨t432, t433⟩, A80, H⟩ := H
  replace H : ((fringeref41_See.f k l0 l1).bind fun bt436 => ((sky_Turned.f k l0 l1 a2 a3).bind fun bt440 => ((fringeref41_Turned.f k l0 l1 a2 a3).bind fun bt444 => ((sky_Dirty.f k l0 l1 a4).bind fun bt448 => ((fringeref41_Dirty.f k l0 l1 a4).bind fun bt452 => ((sky_Check.f k l1).bind fun t456 => ((fringeref41_Check.f k l1).bind fun t457 => (if t456 = t457 then ((sky_Places.f k l0).bind fun t458 => ((fringeref41_Places.f k l0).bind fun t459 => (if t458 = t459 then ((fringeref41_SameVis.f k t432 bt436.1).bind fun t460 => (if t460 = true then (if t433 = bt436.2 then ((fringeref41_SameVis.f k bt440.1 bt444.1).bind fun t461 => (if t461 = true then (if bt440.2 = bt444.2 then ((fringeref41_SameImage.f k bt448.1 bt452.1).bind fun t462 => (if t462 = true then (some (bt448.2 == bt452.2)) else (some false))) else (some false)) else (some false))) else (some false)) else (some false))) else (some false)))) else (some false))))))))) = some true := H
  have A8 := Aside0.mk A80
  clear A80
  replace H := Option.bind_eq_some_iff.mp H
  obtain ⟨⟨t436, t437⟩, A90, H⟩ := H
  replace H : ((sky_Turned.f k l0 l1 a2 a3).bind fun bt440 => ((fringeref41_Turned.f k l0 l1 a2 a3).bind fun bt444 => ((sky_Dirty.f k l0 l1 a4).bind fun bt448 => ((fringeref41_Dirty.f k l0 l1 a4).bind fun bt452 => ((sky_Check.f k l1).bind fun t456 => ((fringeref41_Check.f k l1).bind fun t457 => (if t456 = t457 then ((sky_Places.f k l0).bind fun t458 => ((fringeref41_Places.f k l0).bind fun t459 => (if t458 = t459 then ((fringeref41_SameVis.f k t432 t436).bind fun t460 => (if t460 = true then (if t433 = t437 then ((fringeref41_SameVis.f k bt440.1 bt444.1).bind fun t461 => (if t461 = true then (if bt440.2 = bt444.2 then ((fringeref41_SameImage.f k bt448.1 bt452.1).bind fun t462 => (if t462 = true then (some (bt448.2 == bt452.2)) else (some false))) else (some false)) else (some false))) else (some false)) else (some false))) else (some false)))) else (some false)))))))) = some true := H
  have A9 := Aside0.mk A90
  clear A90
  replace H := Option.bind_eq_some_iff.mp H
  obtain ⟨⟨t440, t441⟩, A100, H⟩ := H
  replace H : ((fringeref41_Turned.f k l0 l1 a2 a3).bind fun bt444 => ((sky_Dirty.f k l0 l1 a4).bind fun bt448 => ((fringeref41_Dirty.f k l0 l1 a4).bind fun bt452 => ((sky_Check.f k l1).bind fun t456 => ((fringeref41_Check.f k l1).bind fun t457 => (if t456 = t457 then ((sky_Places.f k l0).bind fun t458 => ((fringeref41_Places.f k l0).bind fun t459 => (if t458 = t459 then ((fringeref41_SameVis.f k t432 t436).bind fun t460 => (if t460 = true then (if t433 = t437 then ((fringeref41_SameVis.f k t440 bt444.1).bind fun t461 => (if t461 = true then (if t441 = bt444.2 then ((fringeref41_SameImage.f k bt448.1 bt452.1).bind fun t462 => (if t462 = true then (some (bt448.2 == bt452.2)) else (some false))) else (some false)) else (some false))) else (some false)) else (some false))) else (some false)))) else (some false))))))) = some true := H
  have A10 := Aside0.mk A100
  clear A100
  replace H := Option.bind_eq_some_iff.mp H
  obtain ⟨⟨t444, t445⟩, A110, H⟩ := H
  replace H : ((sky_Dirty.f k l0 l1 a4).bind fun bt448 => ((fringeref41_Dirty.f k l0 l1 a4).bind fun bt452 => ((sky_Check.f k l1).bind fun t456 => ((fringeref41_Check.f k l1).bind fun t457 => (if t456 = t457 then ((sky_Places.f k l0).bind fun t458 => ((fringeref41_Places.f k l0).bind fun t459 => (if t458 = t459 then ((fringeref41_SameVis.f k t432 t436).bind fun t460 => (if t460 = true then (if t433 = t437 then ((fringeref41_SameVis.f k t440 t444).bind fun t461 => (if t461 = true then (if t441 = t445 then ((fringeref41_SameImage.f k bt448.1 bt452.1).bind fun t462 => (if t462 = true then (some (bt448.2 == bt452.2)) else (some false))) else (some false)) else (some false))) else (some false)) else (some false))) else (some false)))) else (some false)))))) = some true := H
  have A11 := Aside0.mk A110
  clear A110
  replace H := Option.bind_eq_some_iff.mp H
  obtain ⟨⟨t448, t449⟩, A120, H⟩ := H
  replace H : ((fringeref41_Dirty.f k l0 l1 a4).bind fun bt452 => ((sky_Check.f k l1).bind fun t456 => ((fringeref41_Check.f k l1).bind fun t457 => (if t456 = t457 then ((sky_Places.f k l0).bind fun t458 => ((fringeref41_Places.f k l0).bind fun t459 => (if t458 = t459 then ((fringeref41_SameVis.f k t432 t436).bind fun t460 => (if t460 = true then (if t433 = t437 then ((fringeref41_SameVis.f k t440 t444).bind fun t461 => (if t461 = true then (if t441 = t445 then ((fringeref41_SameImage.f k t448 bt452.1).bind fun t462 => (if t462 = true then (some (t449 == bt452.2)) else (some false))) else (some false)) else (some false))) else (some false)) else (some false))) else (some false)))) else (some false))))) = some true := H
  have A12 := Aside0.mk A120
  clear A120
  replace H := Option.bind_eq_some_iff.mp H
  obtain ⟨⟨t452, t453⟩, A130, H⟩ := H
  replace H : ((sky_Check.f k l1).bind fun t456 => ((fringeref41_Check.f k l1).bind fun t457 => (if t456 = t457 then ((sky_Places.f k l0).bind fun t458 => ((fringeref41_Places.f k l0).bind fun t459 => (if t458 = t459 then ((fringeref41_SameVis.f k t432 t436).bind fun t460 => (if t460 = true then (if t433 = t437 then ((fringeref41_SameVis.f k t440 t444).bind fun t461 => (if t461 = true then (if t441 = t445 then ((fringeref41_SameImage.f k t448 t452).bind fun t462 => (if t462 = true then (some (t449 == t453)) else (some false))) else (some false)) else (some false))) else (some false)) else (some false))) else (some false)))) else (some false)))) = some true := H
  have A13 := Aside0.mk A130
  clear A130
  replace H := Option.bind_eq_some_iff.mp H
  obtain ⟨t456, A140, H⟩ := H
  replace H : ((fringeref41_Check.f k l1).bind fun t457 => (if t456 = t457 then ((sky_Places.f k l0).bind fun t458 => ((fringeref41_Places.f k l0).bind fun t459 => (if t458 = t459 then ((fringeref41_SameVis.f k t432 t436).bind fun t460 => (if t460 = true then (if t433 = t437 then ((fringeref41_SameVis.f k t440 t444).bind fun t461 => (if t461 = true then (if t441 = t445 then ((fringeref41_SameImage.f k t448 t452).bind fun t462 => (if t462 = true then (some (t449 == t453)) else (some false))) else (some false)) else (some false))) else (some false)) else (some false))) else (some false)))) else (some false))) = some true := H
  have A14 := Aside0.mk A140
  clear A140
  replace H := Option.bind_eq_some_iff.mp H
  obtain ⟨t457, A150, H⟩ := H
  replace H : (if t456 = t457 then ((sky_Places.f k l0).bind fun t458 => ((fringeref41_Places.f k l0).bind fun t459 => (if t458 = t459 then ((fringeref41_SameVis.f k t432 t436).bind fun t460 => (if t460 = true then (if t433 = t437 then ((fringeref41_SameVis.f k t440 t444).bind fun t461 => (if t461 = true then (if t441 = t445 then ((fringeref41_SameImage.f k t448 t452).bind fun t462 => (if t462 = true then (some (t449 == t453)) else (some false))) else (some false)) else (some false))) else (some false)) else (some false))) else (some false)))) else (some false)) = some true := H
  have A15 := Aside0.mk A150
  clear A150
  by_cases c16 : t456 = t457
  ·rw [if_pos c16] at H
   have c16b0 : (t456 == t457) = true := beq_iff_eq.mpr c16
   have c16b1 : (t456 != t457) = false := bne_eq_false_iff_eq.mpr c16
   clear c16
   replace H := Option.bind_eq_some_iff.mp H
   obtain ⟨t458, A170, H⟩ := H
   replace H : ((fringeref41_Places.f k l0).bind fun t459 => (if t458 = t459 then ((fringeref41_SameVis.f k t432 t436).bind fun t460 => (if t460 = true then (if t433 = t437 then ((fringeref41_SameVis.f k t440 t444).bind fun t461 => (if t461 = true then (if t441 = t445 then ((fringeref41_SameImage.f k t448 t452).bind fun t462 => (if t462 = true then (some (t449 == t453)) else (some false))) else (some false)) else (some false))) else (some false)) else (some false))) else (some false))) = some true := H
   have A17 := Aside0.mk A170
   clear A170
   replace H := Option.bind_eq_some_iff.mp H
   obtain ⟨t459, A180, H⟩ := H
   replace H : (if t458 = t459 then ((fringeref41_SameVis.f k t432 t436).bind fun t460 => (if t460 = true then (if t433 = t437 then ((fringeref41_SameVis.f k t440 t444).bind fun t461 => (if t461 = true then (if t441 = t445 then ((fringeref41_SameImage.f k t448 t452).bind fun t462 => (if t462 = true then (some (t449 == t453)) else (some false))) else (some false)) else (some false))) else (some false)) else (some false))) else (some false)) = some true := H
   have A18 := Aside0.mk A180
   clear A180
   by_cases c19 : t458 = t459
   ·rw [if_pos c19] at H
    have c19b0 : (t458 == t459) = true := beq_iff_eq.mpr c19
    have c19b1 : (t458 != t459) = false := bne_eq_false_iff_eq.mpr c19
    clear c19
    replace H := Option.bind_eq_some_iff.mp H
    obtain ⟨t460, A200, H⟩ := H
    replace H : (if t460 = true then (if t433 = t437 then ((fringeref41_SameVis.f k t440 t444).bind fun t461 => (if t461 = true then (if t441 = t445 then ((fringeref41_SameImage.f k t448 t452).bind fun t462 => (if t462 = true then (some (t449 == t453)) else (some false))) else (some false)) else (some false))) else (some false)) else (some false)) = some true := H
    have A20 := Aside0.mk A200
    clear A200
    by_cases c21 : t460 = true
    ·subst c21
     have H1 : (if t433 = t437 then ((fringeref41_SameVis.f k t440 t444).bind fun t461 => (if t461 = true then (if t441 = t445 then ((fringeref41_SameImage.f k t448 t452).bind fun t462 => (if t462 = true then (some (t449 == t453)) else (some false))) else (some false)) else (some false))) else (some false)) = some true := by first | (with_reducible rfl) | (rw [if_pos rfl] at H; exact H)
     clear H
     have H := H1
     clear H1
     by_cases c22 : t433 = t437
     ·rw [if_pos c22] at H
      have c22b0 : (t433 == t437) = true := beq_iff_eq.mpr c22
      have c22b1 : (t433 != t437) = false := bne_eq_false_iff_eq.mpr c22
      clear c22
      replace H := Option.bind_eq_some_iff.mp H
      obtain ⟨t461, A230, H⟩ := H
      replace H : (if t461 = true then (if t441 = t445 then ((fringeref41_SameImage.f k t448 t452).bind fun t462 => (if t462 = true then (some (t449 == t453)) else (some false))) else (some false)) else (some false)) = some true := H
      have A23 := Aside0.mk A230
      clear A230
      by_cases c24 : t461 = true
      ·subst c24
       have H1 : (if t441 = t445 then ((fringeref41_SameImage.f k t448 t452).bind fun t462 => (if t462 = true then (some (t449 == t453)) else (some false))) else (some false)) = some true := by first | (with_reducible rfl) | (rw [if_pos rfl] at H; exact H)
       clear H
       have H := H1
       clear H1
       by_cases c25 : t441 = t445
       ·rw [if_pos c25] at H
        have c25b0 : (t441 == t445) = true := beq_iff_eq.mpr c25
        have c25b1 : (t441 != t445) = false := bne_eq_false_iff_eq.mpr c25
        clear c25
        replace H := Option.bind_eq_some_iff.mp H
        obtain ⟨t462, A260, H⟩ := H
        replace H : (if t462 = true then (some (t449 == t453)) else (some false)) = some true := H
        have A26 := Aside0.mk A260
        clear A260
        by_cases c27 : t462 = true
        ·subst c27
         have H1 : (some (t449 == t453)) = some true := by first | (with_reducible rfl) | (rw [if_pos rfl] at H; exact H)
         clear H
         have H := H1
         clear H1
         have hend := Aside0.mk (Option.some.inj H)
         clear H
         go_enter Try.func6, Try.ntmps6
         go_wp2_with (first | ((with_reducible refine gate_callee (f := 10) rfl ?_); refine goesL_ (some 25) rfl rfl Try.func10 (by kernel_rfl) rfl #[.slice A0 l0.length c0, .slice A1 l1.length c1] rfl (by (try simp only [List.map_toArray, List.map_cons, List.map_nil]); first | done | rfl | (simp only [List.length_drop, List.length_take]; rfl)) ?_; (with_reducible refine (fringeref41_Great.calls _ _ l0 _ _ l1 false _ ?side1 ?side2 ?side3 ?side4 A6.out).mono ?_); (case side1 => repeat (first | exact HR0.out | (with_reducible refine Kd.C_alloc ?_ _) | (with_reducible refine Kd.C_drewN ?_ _) | (with_reducible refine Kd.C_drew ?_))); (case side2 => exact HC0.out); (case side3 => repeat (first | exact HR1.out | (with_reducible refine Kd.C_alloc ?_ _) | (with_reducible refine Kd.C_drewN ?_ _) | (with_reducible refine Kd.C_drew ?_))); (case side4 => exact HC1.out); rintro e w' ⟨rfl, ⟨nd, rfl⟩⟩; refine ⟨_, rfl, ?_⟩) | ((with_reducible refine gate_callee (f := 18) rfl ?_); refine goesL_ (some 29) rfl rfl Try.func18 (by kernel_rfl) rfl #[.slice A0 l0.length c0, .slice A1 l1.length c1] rfl (by (try simp only [List.map_toArray, List.map_cons, List.map_nil]); first | done | rfl | (simp only [List.length_drop, List.length_take]; rfl)) ?_; (with_reducible refine (sky_See.calls k _ _ l0 _ _ l1 t432 t433 _ ?side1 ?side2 ?side3 ?side4 A8.out).mono ?_); (case side1 => repeat (first | exact HR0.out | (with_reducible refine Kd.C_alloc ?_ _) | (with_reducible refine Kd.C_drewN ?_ _) | (with_reducible refine Kd.C_drew ?_))); (case side2 => exact HC0.out); (case side3 => repeat (first | exact HR1.out | (with_reducible refine Kd.C_alloc ?_ _) | (with_reducible refine Kd.C_drewN ?_ _) | (with_reducible refine Kd.C_drew ?_))); (case side4 => exact HC1.out); rintro e w28 ⟨v434, rfl, ho0, hb⟩; refine ⟨_, rfl, ?_⟩; have n0_ := Aside0.mk (Kd.R_lower ho0 (below_size (by repeat (first | (with_reducible first | exact HB.out | apply below_alloc | apply pw_below_drewN | apply below_drew1) | exact HB.out)))); have n1_ := Aside0.mk (below_step (by repeat (first | (with_reducible first | exact HB.out | apply below_alloc | apply pw_below_drewN | apply below_drew1) | exact HB.out)) hb); clear HB; have HO435 := n0_; have HB := n1_; clear n0_ n1_; (try clear hb); (try clear hb2); (try clear hk); (try clear hi); (try clear ho0)) | ((with_reducible refine gate_callee (f := 23) rfl ?_); refine goesL_ (some 35) rfl rfl Try.func23 (by kernel_rfl) rfl #[.slice A0 l0.length c0, .slice A1 l1.length c1] rfl (by (try simp only [List.map_toArray, List.map_cons, List.map_nil]); first | done | rfl | (simp only [List.length_drop, List.length_take]; rfl)) ?_; (with_reducible refine (fringeref41_See.calls k _ _ l0 _ _ l1 t436 t437 _ ?side1 ?side2 ?side3 ?side4 A9.out).mono ?_); (case side1 => repeat (first | exact (Kd.C_below HR0.out HB.out) | (with_reducible refine Kd.C_alloc ?_ _) | (with_reducible refine Kd.C_drewN ?_ _) | (with_reducible refine Kd.C_drew ?_))); (case side2 => exact HC0.out); (case side3 => repeat (first | exact (Kd.C_below HR1.out HB.out) | (with_reducible refine Kd.C_alloc ?_ _) | (with_reducible refine Kd.C_drewN ?_ _) | (with_reducible refine Kd.C_drew ?_))); (case side4 => exact HC1.out); rintro e w29 ⟨v438, rfl, ho0, hb⟩; refine ⟨_, rfl, ?_⟩; have n0_ := Aside0.mk (Kd.R_elder' (by (with_reducible repeat (first | apply Kd.R_alloc | apply Kd.R_drewN | apply Kd.R_drew)); exact HO435.out) (Kd.R_base ho0) hb); have n1_ := Aside0.mk (Kd.R_lower (Kd.R_new' ho0 (Kd.R_lt (by (with_reducible repeat (first | apply Kd.R_alloc | apply Kd.R_drewN | apply Kd.R_drew)); exact HO435.out))) (below_size (by repeat (first | (with_reducible first | exact HB.out | apply below_alloc | apply pw_below_drewN | apply below_drew1) | exact HB.out)))); have n2_ := Aside0.mk (below_step (by repeat (first | (with_reducible first | exact HB.out | apply below_alloc | apply pw_below_drewN | apply below_drew1) | exact HB.out)) hb); clear HO435; clear HB; have HO435 := n0_; have HO439 := n1_; have HB := n2_; clear n0_ n1_ n2_; (try clear hb); (try clear hb2); (try clear hk); (try clear hi); (try clear ho0)) | ((with_reducible refine gate_callee (f := 24) rfl ?_); refine goesL_ (some 43) rfl rfl Try.func24 (by kernel_rfl) rfl #[.slice A0 l0.length c0, .slice A1 l1.length c1, .int .i64 a2, .int .i64 a3] rfl (by (try simp only [List.map_toArray, List.map_cons, List.map_nil]); first | done | rfl | (simp only [List.length_drop, List.length_take]; rfl)) ?_; (with_reducible refine (sky_Turned.calls k _ _ l0 _ _ l1 a2 a3 t440 t441 _ ?side1 ?side2 ?side3 ?side4 A10.out).mono ?_); (case side1 => repeat (first | exact (Kd.C_below HR0.out HB.out) | (with_reducible refine Kd.C_alloc ?_ _) | (with_reducible refine Kd.C_drewN ?_ _) | (with_reducible refine Kd.C_drew ?_))); (case side2 => exact HC0.out); (case side3 => repeat (first | exact (Kd.C_below HR1.out HB.out) | (with_reducible refine Kd.C_alloc ?_ _) | (with_reducible refine Kd.C_drewN ?_ _) | (with_reducible refine Kd.C_drew ?_))); (case side4 => exact HC1.out); rintro e w30 ⟨v442, rfl, ho0, hb⟩; refine ⟨_, rfl, ?_⟩; have n0_ := Aside0.mk (Kd.R_elder' (by (with_reducible repeat (first | apply Kd.R_alloc | apply Kd.R_drewN | apply Kd.R_drew)); exact HO435.out) (Kd.R_base ho0) hb); have n1_ := Aside0.mk (Kd.R_elder' (by (with_reducible repeat (first | apply Kd.R_alloc | apply Kd.R_drewN | apply Kd.R_drew)); exact HO439.out) (Kd.R_base ho0) hb); have n2_ := Aside0.mk (Kd.R_lower (Kd.R_new' (Kd.R_new' ho0 (Kd.R_lt (by (with_reducible repeat (first | apply Kd.R_alloc | apply Kd.R_drewN | apply Kd.R_drew)); exact HO435.out))) (Kd.R_lt (by (with_reducible repeat (first | apply Kd.R_alloc | apply Kd.R_drewN | apply Kd.R_drew)); exact HO439.out))) (below_size (by repeat (first | (with_reducible first | exact HB.out | apply below_alloc | apply pw_below_drewN | apply below_drew1) | exact HB.out)))); have n3_ := Aside0.mk (below_step (by repeat (first | (with_reducible first | exact HB.out | apply below_alloc | apply pw_below_drewN | apply below_drew1) | exact HB.out)) hb); clear HO435; clear HO439; clear HB; have HO435 := n0_; have HO439 := n1_; have HO443 := n2_; have HB := n3_; clear n0_ n1_ n2_ n3_; (try clear hb); (try clear hb2); (try clear hk); (try clear hi); (try clear ho0)) | ((with_reducible refine gate_callee (f := 25) rfl ?_); refine goesL_ (some 51) rfl rfl Try.func25 (by kernel_rfl) rfl #[.slice A0 l0.length c0, .slice A1 l1.length c1, .int .i64 a2, .int .i64 a3] rfl (by (try simp only [List.map_toArray, List.map_cons, List.map_nil]); first | done | rfl | (simp only [List.length_drop, List.length_take]; rfl)) ?_; (with_reducible refine (fringeref41_Turned.calls k _ _ l0 _ _ l1 a2 a3 t444 t445 _ ?side1 ?side2 ?side3 ?side4 A11.out).mono ?_); (case side1 => repeat (first | exact (Kd.C_below HR0.out HB.out) | (with_reducible refine Kd.C_alloc ?_ _) | (with_reducible refine Kd.C_drewN ?_ _) | (with_reducible refine Kd.C_drew ?_))); (case side2 => exact HC0.out); (case side3 => repeat (first | exact (Kd.C_below HR1.out HB.out) | (with_reducible refine Kd.C_alloc ?_ _) | (with_reducible refine Kd.C_drewN ?_ _) | (with_reducible refine Kd.C_drew ?_))); (case side4 => exact HC1.out); rintro e w31 ⟨v446, rfl, ho0, hb⟩; refine ⟨_, rfl, ?_⟩; have n0_ := Aside0.mk (Kd.R_elder' (by (with_reducible repeat (first | apply Kd.R_alloc | apply Kd.R_drewN | apply Kd.R_drew)); exact HO435.out) (Kd.R_base ho0) hb); have n1_ := Aside0.mk (Kd.R_elder' (by (with_reducible repeat (first | apply Kd.R_alloc | apply Kd.R_drewN | apply Kd.R_drew)); exact HO439.out) (Kd.R_base ho0) hb); have n2_ := Aside0.mk (Kd.R_elder' (by (with_reducible repeat (first | apply Kd.R_alloc | apply Kd.R_drewN | apply Kd.R_drew)); exact HO443.out) (Kd.R_base ho0) hb); have n3_ := Aside0.mk (Kd.R_lower (Kd.R_new' (Kd.R_new' (Kd.R_new' ho0 (Kd.R_lt (by (with_reducible repeat (first | apply Kd.R_alloc | apply Kd.R_drewN | apply Kd.R_drew)); exact HO435.out))) (Kd.R_lt (by (with_reducible repeat (first | apply Kd.R_alloc | apply Kd.R_drewN | apply Kd.R_drew)); exact HO439.out))) (Kd.R_lt (by (with_reducible repeat (first | apply Kd.R_alloc | apply Kd.R_drewN | apply Kd.R_drew)); exact HO443.out))) (below_size (by repeat (first | (with_reducible first | exact HB.out | apply below_alloc | apply pw_below_drewN | apply below_drew1) | exact HB.out)))); have n4_ := Aside0.mk (below_step (by repeat (first | (with_reducible first | exact HB.out | apply below_alloc | apply pw_below_drewN | apply below_drew1) | exact HB.out)) hb); clear HO435; clear HO439; clear HO443; clear HB; have HO435 := n0_; have HO439 := n1_; have HO443 := n2_; have HO447 := n3_; have HB := n4_; clear n0_ n1_ n2_ n3_ n4_; (try clear hb); (try clear hb2); (try clear hk); (try clear hi); (try clear ho0)) | ((with_reducible refine gate_callee (f := 21) rfl ?_); refine goesL_ (some 58) rfl rfl Try.func21 (by kernel_rfl) rfl #[.slice A0 l0.length c0, .slice A1 l1.length c1, .int .i64 a4] rfl (by (try simp only [List.map_toArray, List.map_cons, List.map_nil]); first | done | rfl | (simp only [List.length_drop, List.length_take]; rfl)) ?_; (with_reducible refine (sky_Dirty.calls k _ _ l0 _ _ l1 a4 t448 t449 _ ?side1 ?side2 ?side3 ?side4 A12.out).mono ?_); (case side1 => repeat (first | exact (Kd.C_below HR0.out HB.out) | (with_reducible refine Kd.C_alloc ?_ _) | (with_reducible refine Kd.C_drewN ?_ _) | (with_reducible refine Kd.C_drew ?_))); (case side2 => exact HC0.out); (case side3 => repeat (first | exact (Kd.C_below HR1.out HB.out) | (with_reducible refine Kd.C_alloc ?_ _) | (with_reducible refine Kd.C_drewN ?_ _) | (with_reducible refine Kd.C_drew ?_))); (case side4 => exact HC1.out); rintro e w32 ⟨v450, rfl, ho0, hb⟩; refine ⟨_, rfl, ?_⟩; have n0_ := Aside0.mk (Kd.R_below (by (with_reducible repeat (first | apply Kd.R_alloc | apply Kd.R_drewN | apply Kd.R_drew)); exact HO435.out) hb); have n1_ := Aside0.mk (Kd.R_below (by (with_reducible repeat (first | apply Kd.R_alloc | apply Kd.R_drewN | apply Kd.R_drew)); exact HO439.out) hb); have n2_ := Aside0.mk (Kd.R_below (by (with_reducible repeat (first | apply Kd.R_alloc | apply Kd.R_drewN | apply Kd.R_drew)); exact HO443.out) hb); have n3_ := Aside0.mk (Kd.R_below (by (with_reducible repeat (first | apply Kd.R_alloc | apply Kd.R_drewN | apply Kd.R_drew)); exact HO447.out) hb); have n4_ := Aside0.mk (Kd.S_lower ho0 (below_size (by repeat (first | (with_reducible first | exact HB.out | apply below_alloc | apply pw_below_drewN | apply below_drew1) | exact HB.out)))); have n5_ := Aside0.mk (below_step (by repeat (first | (with_reducible first | exact HB.out | apply below_alloc | apply pw_below_drewN | apply below_drew1) | exact HB.out)) hb); clear HO435; clear HO439; clear HO443; clear HO447; clear HB; have HO435 := n0_; have HO439 := n1_; have HO443 := n2_; have HO447 := n3_; have HO451 := n4_; have HB := n5_; clear n0_ n1_ n2_ n3_ n4_ n5_; (try clear hb); (try clear hb2); (try clear hk); (try clear hi); (try clear ho0)) | ((with_reducible refine gate_callee (f := 26) rfl ?_); refine goesL_ (some 65) rfl rfl Try.func26 (by kernel_rfl) rfl #[.slice A0 l0.length c0, .slice A1 l1.length c1, .int .i64 a4] rfl (by (try simp only [List.map_toArray, List.map_cons, List.map_nil]); first | done | rfl | (simp only [List.length_drop, List.length_take]; rfl)) ?_; (with_reducible refine (fringeref41_Dirty.calls k _ _ l0 _ _ l1 a4 t452 t453 _ ?side1 ?side2 ?side3 ?side4 A13.out).mono ?_); (case side1 => repeat (first | exact (Kd.C_below HR0.out HB.out) | (with_reducible refine Kd.C_alloc ?_ _) | (with_reducible refine Kd.C_drewN ?_ _) | (with_reducible refine Kd.C_drew ?_))); (case side2 => exact HC0.out); (case side3 => repeat (first | exact (Kd.C_below HR1.out HB.out) | (with_reducible refine Kd.C_alloc ?_ _) | (with_reducible refine Kd.C_drewN ?_ _) | (with_reducible refine Kd.C_drew ?_))); (case side4 => exact HC1.out); rintro e w33 ⟨v454, rfl, ho0, hb⟩; refine ⟨_, rfl, ?_⟩; have n0_ := Aside0.mk (Kd.R_below (by (with_reducible repeat (first | apply Kd.R_alloc | apply Kd.R_drewN | apply Kd.R_drew)); exact HO435.out) hb); have n1_ := Aside0.mk (Kd.R_below (by (with_reducible repeat (first | apply Kd.R_alloc | apply Kd.R_drewN | apply Kd.R_drew)); exact HO439.out) hb); have n2_ := Aside0.mk (Kd.R_below (by (with_reducible repeat (first | apply Kd.R_alloc | apply Kd.R_drewN | apply Kd.R_drew)); exact HO443.out) hb); have n3_ := Aside0.mk (Kd.R_below (by (with_reducible repeat (first | apply Kd.R_alloc | apply Kd.R_drewN | apply Kd.R_drew)); exact HO447.out) hb); have n4_ := Aside0.mk (Kd.S_elder' (by (with_reducible repeat (first | apply Kd.S_alloc | apply Kd.S_drewN | apply Kd.S_drew)); exact HO451.out) (Kd.S_base ho0) hb); have n5_ := Aside0.mk (Kd.S_lower (Kd.S_new' ho0 (Kd.S_lt (by (with_reducible repeat (first | apply Kd.S_alloc | apply Kd.S_drewN | apply Kd.S_drew)); exact HO451.out))) (below_size (by repeat (first | (with_reducible first | exact HB.out | apply below_alloc | apply pw_below_drewN | apply below_drew1) | exact HB.out)))); have n6_ := Aside0.mk (below_step (by repeat (first | (with_reducible first | exact HB.out | apply below_alloc | apply pw_below_drewN | apply below_drew1) | exact HB.out)) hb); clear HO435; clear HO439; clear HO443; clear HO447; clear HO451; clear HB; have HO435 := n0_; have HO439 := n1_; have HO443 := n2_; have HO447 := n3_; have HO451 := n4_; have HO455 := n5_; have HB := n6_; clear n0_ n1_ n2_ n3_ n4_ n5_ n6_; (try clear hb); (try clear hb2); (try clear hk); (try clear hi); (try clear ho0)) | ((with_reducible refine gate_callee (f := 27) rfl ?_); refine goesL_ (some 69) rfl rfl Try.func27 (by kernel_rfl) rfl #[.slice A1 l1.length c1] rfl (by (try simp only [List.map_toArray, List.map_cons, List.map_nil]); first | done | rfl | (simp only [List.length_drop, List.length_take]; rfl)) ?_; (with_reducible refine (sky_Check.calls k _ _ l1 t456 _ ?side1 ?side2 A14.out).mono ?_); (case side1 => repeat (first | exact (Kd.C_below HR1.out HB.out) | (with_reducible refine Kd.C_alloc ?_ _) | (with_reducible refine Kd.C_drewN ?_ _) | (with_reducible refine Kd.C_drew ?_))); (case side2 => exact HC1.out); rintro e w34 ⟨rfl, hb⟩; refine ⟨_, rfl, ?_⟩; have n0_ := Aside0.mk (Kd.R_below (by (with_reducible repeat (first | apply Kd.R_alloc | apply Kd.R_drewN | apply Kd.R_drew)); exact HO435.out) hb); have n1_ := Aside0.mk (Kd.R_below (by (with_reducible repeat (first | apply Kd.R_alloc | apply Kd.R_drewN | apply Kd.R_drew)); exact HO439.out) hb); have n2_ := Aside0.mk (Kd.R_below (by (with_reducible repeat (first | apply Kd.R_alloc | apply Kd.R_drewN | apply Kd.R_drew)); exact HO443.out) hb); have n3_ := Aside0.mk (Kd.R_below (by (with_reducible repeat (first | apply Kd.R_alloc | apply Kd.R_drewN | apply Kd.R_drew)); exact HO447.out) hb); have n4_ := Aside0.mk (Kd.S_below (by (with_reducible repeat (first | apply Kd.S_alloc | apply Kd.S_drewN | apply Kd.S_drew)); exact HO451.out) hb); have n5_ := Aside0.mk (Kd.S_below (by (with_reducible repeat (first | apply Kd.S_alloc | apply Kd.S_drewN | apply Kd.S_drew)); exact HO455.out) hb); have n6_ := Aside0.mk (below_step (by repeat (first | (with_reducible first | exact HB.out | apply below_alloc | apply pw_below_drewN | apply below_drew1) | exact HB.out)) hb); clear HO435; clear HO439; clear HO443; clear HO447; clear HO451; clear HO455; clear HB; have HO435 := n0_; have HO439 := n1_; have HO443 := n2_; have HO447 := n3_; have HO451 := n4_; have HO455 := n5_; have HB := n6_; clear n0_ n1_ n2_ n3_ n4_ n5_ n6_; (try clear hb); (try clear hb2); (try clear hk); (try clear hi)) | ((with_reducible refine gate_callee (f := 28) rfl ?_); refine goesL_ (some 71) rfl rfl Try.func28 (by kernel_rfl) rfl #[.slice A1 l1.length c1] rfl (by (try simp only [List.map_toArray, List.map_cons, List.map_nil]); first | done | rfl | (simp only [List.length_drop, List.length_take]; rfl)) ?_; (with_reducible refine (fringeref41_Check.calls k _ _ l1 t457 _ ?side1 ?side2 A15.out).mono ?_); (case side1 => repeat (first | exact (Kd.C_below HR1.out HB.out) | (with_reducible refine Kd.C_alloc ?_ _) | (with_reducible refine Kd.C_drewN ?_ _) | (with_reducible refine Kd.C_drew ?_))); (case side2 => exact HC1.out); rintro e w' ⟨rfl, ⟨nd, rfl⟩⟩; refine ⟨_, rfl, ?_⟩) | (go_at_call 29; (with_reducible refine (sky_Places.calls k _ _ l0 t458 _ ?side1 ?side2 A17.out).mono ?_); (case side1 => repeat (first | exact (Kd.C_below HR0.out (by repeat (first | (with_reducible first | exact HB.out | apply below_alloc | apply pw_below_drewN | apply below_drew1) | exact HB.out))) | (with_reducible refine Kd.C_alloc ?_ _) | (with_reducible refine Kd.C_drewN ?_ _) | (with_reducible refine Kd.C_drew ?_))); (case side2 => exact HC0.out); rintro e w35 ⟨rfl, hb⟩; have n0_ := Aside0.mk (Kd.R_below (by (with_reducible repeat (first | apply Kd.R_alloc | apply Kd.R_drewN | apply Kd.R_drew)); exact HO435.out) hb); have n1_ := Aside0.mk (Kd.R_below (by (with_reducible repeat (first | apply Kd.R_alloc | apply Kd.R_drewN | apply Kd.R_drew)); exact HO439.out) hb); have n2_ := Aside0.mk (Kd.R_below (by (with_reducible repeat (first | apply Kd.R_alloc | apply Kd.R_drewN | apply Kd.R_drew)); exact HO443.out) hb); have n3_ := Aside0.mk (Kd.R_below (by (with_reducible repeat (first | apply Kd.R_alloc | apply Kd.R_drewN | apply Kd.R_drew)); exact HO447.out) hb); have n4_ := Aside0.mk (Kd.S_below (by (with_reducible repeat (first | apply Kd.S_alloc | apply Kd.S_drewN | apply Kd.S_drew)); exact HO451.out) hb); have n5_ := Aside0.mk (Kd.S_below (by (with_reducible repeat (first | apply Kd.S_alloc | apply Kd.S_drewN | apply Kd.S_drew)); exact HO455.out) hb); have n6_ := Aside0.mk (below_step (by repeat (first | (with_reducible first | exact HB.out | apply below_alloc | apply pw_below_drewN | apply below_drew1) | exact HB.out)) hb); clear HO435; clear HO439; clear HO443; clear HO447; clear HO451; clear HO455; clear HB; have HO435 := n0_; have HO439 := n1_; have HO443 := n2_; have HO447 := n3_; have HO451 := n4_; have HO455 := n5_; have HB := n6_; clear n0_ n1_ n2_ n3_ n4_ n5_ n6_; (try clear hb); (try clear hb2); (try clear hk); (try clear hi)) | (go_at_call 19; (with_reducible refine (fringeref41_Places.calls k _ _ l0 t459 _ ?side1 ?side2 A18.out).mono ?_); (case side1 => repeat (first | exact (Kd.C_below HR0.out HB.out) | (with_reducible refine Kd.C_alloc ?_ _) | (with_reducible refine Kd.C_drewN ?_ _) | (with_reducible refine Kd.C_drew ?_))); (case side2 => exact HC0.out); rintro e w' ⟨rfl, ⟨nd, rfl⟩⟩; obtain ⟨Ao36, co36, eo36⟩ := Kd.R_slice HO435.out; subst eo36; obtain ⟨Ao37, co37, eo37⟩ := Kd.R_slice HO439.out; subst eo37) | (go_at_call 20; (with_reducible refine (fringeref41_SameVis.calls k _ _ t432 _ _ t436 true _ ?side1 ?side2 ?side3 ?side4 A20.out).mono ?_); (case side1 => repeat (first | exact (Kd.R_reads' HO435.out).2.2 | (with_reducible refine Kd.C_alloc ?_ _) | (with_reducible refine Kd.C_drewN ?_ _) | (with_reducible refine Kd.C_drew ?_))); (case side2 => exact (Kd.R_reads' HO435.out).2.1); (case side3 => repeat (first | exact (Kd.R_reads' HO439.out).2.2 | (with_reducible refine Kd.C_alloc ?_ _) | (with_reducible refine Kd.C_drewN ?_ _) | (with_reducible refine Kd.C_drew ?_))); (case side4 => exact (Kd.R_reads' HO439.out).2.1); rintro e w' ⟨rfl, ⟨nd, rfl⟩⟩; obtain ⟨Ao38, co38, eo38⟩ := Kd.R_slice HO443.out; subst eo38; obtain ⟨Ao39, co39, eo39⟩ := Kd.R_slice HO447.out; subst eo39) | (go_at_call 20; (with_reducible refine (fringeref41_SameVis.calls k _ _ t440 _ _ t444 true _ ?side1 ?side2 ?side3 ?side4 A23.out).mono ?_); (case side1 => repeat (first | exact (Kd.R_reads' HO443.out).2.2 | (with_reducible refine Kd.C_alloc ?_ _) | (with_reducible refine Kd.C_drewN ?_ _) | (with_reducible refine Kd.C_drew ?_))); (case side2 => exact (Kd.R_reads' HO443.out).2.1); (case side3 => repeat (first | exact (Kd.R_reads' HO447.out).2.2 | (with_reducible refine Kd.C_alloc ?_ _) | (with_reducible refine Kd.C_drewN ?_ _) | (with_reducible refine Kd.C_drew ?_))); (case side4 => exact (Kd.R_reads' HO447.out).2.1); rintro e w' ⟨rfl, ⟨nd, rfl⟩⟩; obtain ⟨Ao40, co40, eo40⟩ := Kd.S_slice HO451.out; subst eo40; obtain ⟨Ao41, co41, eo41⟩ := Kd.S_slice HO455.out; subst eo41) | (go_at_call 30; (with_reducible refine (fringeref41_SameImage.calls k _ _ t448 _ _ t452 true _ ?side1 ?side2 ?side3 ?side4 A26.out).mono ?_); (case side1 => repeat (first | exact (Kd.S_reads' HO451.out).2.2 | (with_reducible refine Kd.C_alloc ?_ _) | (with_reducible refine Kd.C_drewN ?_ _) | (with_reducible refine Kd.C_drew ?_))); (case side2 => exact (Kd.S_reads' HO451.out).2.1); (case side3 => repeat (first | exact (Kd.S_reads' HO455.out).2.2 | (with_reducible refine Kd.C_alloc ?_ _) | (with_reducible refine Kd.C_drewN ?_ _) | (with_reducible refine Kd.C_drew ?_))); (case side4 => exact (Kd.S_reads' HO455.out).2.1); rintro e w' ⟨rfl, ⟨nd, rfl⟩⟩))
         go_ret
         exact ⟨by first | rfl | (rw [hend.out]; done) | (simp only [hend.out]; done) | (have h_ := hend.out; simp_all; done) | (simp [*, errW_none, errW_some] <;> rfl), by repeat (first | (with_reducible first | exact HB.out | apply below_alloc | apply pw_below_drewN | apply below_drew1) | exact HB.out)⟩
        ·replace c27 := Bool.eq_false_iff.mpr c27
         subst c27
         have H1 : (some false) = some true := by first | (with_reducible rfl) | (rw [if_neg (show ¬ (false = true) by decide)] at H; exact H)
         clear H
         have H := H1
         clear H1
         exact absurd H (by simp)
       ·rw [if_neg c25] at H
        have c25b0 : (t441 == t445) = false := beq_eq_false_iff_ne.mpr c25
        have c25b1 : (t441 != t445) = true := bne_iff_ne.mpr c25
        exact absurd H (by simp)
      ·replace c24 := Bool.eq_false_iff.mpr c24
       subst c24
       have H1 : (some false) = some true := by first | (with_reducible rfl) | (rw [if_neg (show ¬ (false = true) by decide)] at H; exact H)
       clear H
       have H := H1
       clear H1
       exact absurd H (by simp)
     ·rw [if_neg c22] at H
      have c22b0 : (t433 == t437) = false := beq_eq_false_iff_ne.mpr c22
      have c22b1 : (t433 != t437) = true := bne_iff_ne.mpr c22
      exact absurd H (by simp)
    ·replace c21 := Bool.eq_false_iff.mpr c21
     subst c21
     have H1 : (some false) = some true := by first | (with_reducible rfl) | (rw [if_neg (show ¬ (false = true) by decide)] at H; exact H)
     clear H
     have H := H1
     clear H1
     exact absurd H (by simp)
   ·rw [if_neg c19] at H
    have c19b0 : (t458 == t459) = false := beq_eq_false_iff_ne.mpr c19
    have c19b1 : (t458 != t459) = true := bne_iff_ne.mpr c19
    exact absurd H (by simp)
  ·rw [if_neg c16] at H
   have c16b0 : (t456 == t457) = false := beq_eq_false_iff_ne.mpr c16
   have c16b1 : (t456 != t457) = true := bne_iff_ne.mpr c16
   exact absurd H (by simp)

-- NOT PRINTED: function 7 (fringelaw41_SkyNames)

/-! ### cx_gcd: function 53 -/
mutual
def cx_gcd.l0 : Nat → Int → List Int → Int → Int → Option (Int)
 | 0, _, _, _, _ => none
 | k + 1, x3, x6, x7, x8 => if x8 < x7 then (if 0 ≤ x8 then (if x8 < (x6.length : Int) then (cx_gcd.l1 k x3 (rd x6 x8) x6 x7 x8) else (none)) else (none)) else (some (mx x3 (wrap64 (-x3))))
def cx_gcd.l1 : Nat → Int → Int → List Int → Int → Int → Option (Int)
 | 0, _, _, _, _, _ => none
 | k + 1, x3, x5, x6, x7, x8 => if x5 = 0 then (cx_gcd.l0 k x3 x6 x7 (wrap64 (x8 + 1))) else (cx_gcd.l1 k x5 (Int.tmod x3 x5) x6 x7 x8)
end
def cx_gcd.f (k : Nat) (l0 : List Int) : Option (Int) := cx_gcd.l0 k 0 l0 (l0.length : Int) 0
theorem cx_gcd.mono_l : ∀ k, (∀ y0 y1 y2 y3, LeO (cx_gcd.l0 k y0 y1 y2 y3) (cx_gcd.l0 (k + 1) y0 y1 y2 y3)) ∧ (∀ y0 y1 y2 y3 y4, LeO (cx_gcd.l1 k y0 y1 y2 y3 y4) (cx_gcd.l1 (k + 1) y0 y1 y2 y3 y4))
 | 0 => ⟨fun _ _ _ _ r h => by simp [cx_gcd.l0] at h, fun _ _ _ _ _ r h => by simp [cx_gcd.l1] at h⟩
 | k + 1 => by
  obtain ⟨ih0, ih1⟩ := cx_gcd.mono_l k
  refine ⟨?_, ?_⟩
  ·intro y0 y1 y2 y3
   unfold cx_gcd.l0
   repeat' first
   | (with_reducible exact ih0 _ _ _ _)
   | (with_reducible exact ih1 _ _ _ _ _)
   | (with_reducible exact LeO.refl _)
   | (with_reducible exact LeO.none _)
   | (with_reducible refine LeO.ite ?_ ?_)
   | (with_reducible refine LeO.bind ?_ (fun _ => ?_))
   | exact ih0 _ _ _ _
   | exact ih1 _ _ _ _ _
   | exact LeO.none _
   | refine LeO.ite ?_ ?_
   | refine LeO.bind ?_ (fun _ => ?_)
  ·intro y0 y1 y2 y3 y4
   unfold cx_gcd.l1
   repeat' first
   | (with_reducible exact ih0 _ _ _ _)
   | (with_reducible exact ih1 _ _ _ _ _)
   | (with_reducible exact LeO.refl _)
   | (with_reducible exact LeO.none _)
   | (with_reducible refine LeO.ite ?_ ?_)
   | (with_reducible refine LeO.bind ?_ (fun _ => ?_))
   | exact ih0 _ _ _ _
   | exact ih1 _ _ _ _ _
   | exact LeO.none _
   | refine LeO.ite ?_ ?_
   | refine LeO.bind ?_ (fun _ => ?_)
theorem cx_gcd.mono : ∀ a0 k, LeO (cx_gcd.f k a0) (cx_gcd.f (k + 1) a0) := by
 intro a0 k
 obtain ⟨ih0, ih1⟩ := cx_gcd.mono_l k
 unfold cx_gcd.f
 repeat' first
   | (with_reducible exact ih0 _ _ _ _)
   | (with_reducible exact ih1 _ _ _ _ _)
   | (with_reducible exact LeO.refl _)
   | (with_reducible exact LeO.none _)
   | (with_reducible refine LeO.ite ?_ ?_)
   | (with_reducible refine LeO.bind ?_ (fun _ => ?_))
   | exact ih0 _ _ _ _
   | exact ih1 _ _ _ _ _
   | exact LeO.none _
   | refine LeO.ite ?_ ?_
   | refine LeO.bind ?_ (fun _ => ?_)
set_option maxHeartbeats 8000000 in
set_option maxRecDepth 100000 in
theorem cx_gcd.calls (k : Nat) (A0 : Option Addr) (c0 : Nat) (l0 : List Int) (r : Int) (w : World) (hr0 : Kd.C (Kd.int .i64) w A0 l0.length l0) (hc0 : l0.length ≤ c0) (h : cx_gcd.f k l0 = some r) :
  Calls Try.prog 53 #[.slice A0 l0.length c0] w fun e w' => e = .returned (.int .i64 r) ∧ Below w.heap.size w w' := by
 have HR0 := Aside0.mk hr0
 have HC0 := Aside0.mk hc0
 clear hr0 hc0
 have HB := Aside0.mk (Below.refl w.heap.size w)
 have H : (cx_gcd.l0 k 0 l0 (l0.length : Int) 0) = some r := h
 clear h
 have H' := Aside0.mk H
 clear H
 go_enter Try.func53, Try.ntmps53
 go_wp2
 repeat (go_quiet (fail); try go_wp2)
 go_loopg [3, 8] k (fun kq v3 v8 w' => ∃ (x3_1 : Int) (x8_1 : Int), v3 = .int .i64 x3_1 ∧ v8 = .int .i64 x8_1 ∧ Aside0 (cx_gcd.l0 kq x3_1 l0 (l0.length : Int) x8_1 = some r) ∧ Aside0 (kq ≤ k) ∧ Aside0 (Below w.heap.size w w'))
 case atStart => exact ⟨(0), (0), (by first | rfl | (simp; done) | (simp [*]; done)), (by first | rfl | (simp; done) | (simp [*]; done)), H', ⟨Nat.le_refl _⟩, ⟨by repeat (first | (with_reducible first | exact HB.out | apply below_alloc | apply pw_below_drewN | apply below_drew1) | exact HB.out)⟩⟩
 case round =>
  clear H'
  obtain ⟨x3_1, x8_1, rfl, rfl, HA, HK1, HB⟩ := hrel
  cases gk with
  | zero => exact absurd HA.out (by simp [cx_gcd.l0])
  | succ k1 =>
   have H := HA.out
   clear HA
   simp only [cx_gcd.l0] at H
   by_cases c2 : x8_1 < (l0.length : Int)
   ·rw [if_pos c2] at H
    have c2b0 : decide (x8_1 < (l0.length : Int)) = true := decide_eq_true c2
    clear c2
    by_cases c3 : 0 ≤ x8_1
    ·rw [if_pos c3] at H
     have c3b0 : decide (0 ≤ x8_1) = true := decide_eq_true c3
     clear c3
     by_cases c4 : x8_1 < (l0.length : Int)
     ·rw [if_pos c4] at H
      have c4b0 : decide (x8_1 < (l0.length : Int)) = true := decide_eq_true c4
      clear c4
      have H' := Aside0.mk H
      clear H
      have p520 : 0 ≤ (x8_1 : Int) := of_decide_eq_true (by first | (with_reducible assumption) | assumption)
      have q520 : x8_1 < (l0.length : Int) := of_decide_eq_true (by first | (with_reducible assumption) | assumption)
      obtain ⟨ad520, e520, hx520_0⟩ := Kd.at_int HR0.out x8_1 p520 q520
      cases e520
      replace hx520_0 := (HB.out.cell (World.block_lt_of_cell? w _ hx520_0)).trans hx520_0
      replace p520 := eq_true p520
      replace q520 := eq_true q520
      go_wp2
      repeat (go_quiet (fail); try go_wp2)
      go_loopg [3, 5] k1 (fun kq v3 v5 w' => ∃ (x3_2 : Int) (x5_2 : Int), v3 = .int .i64 x3_2 ∧ v5 = .int .i64 x5_2 ∧ Aside0 (cx_gcd.l1 kq x3_2 x5_2 l0 (l0.length : Int) x8_1 = some r) ∧ Aside0 (kq ≤ k1) ∧ Aside0 (Below w.heap.size w w'))
      case atStart => exact ⟨(x3_1), (rd l0 x8_1), (by first | rfl | (simp; done) | (simp [*]; done)), (by first | rfl | (simp; done) | (simp [*]; done)), H', ⟨Nat.le_refl _⟩, ⟨by repeat (first | (with_reducible first | exact HB.out | apply below_alloc | apply pw_below_drewN | apply below_drew1) | exact HB.out)⟩⟩
      case round =>
       clear H'
       try clear c2
       try clear c2b0
       try clear p2
       try clear c3
       try clear c3b0
       try clear c4
       try clear c4b0
       try clear hx520_0
       try clear p520
       try clear q520
       obtain ⟨x3_2, x5_2, rfl, rfl, HA, HK2, HB⟩ := hrel
       cases gk with
       | zero => exact absurd HA.out (by simp [cx_gcd.l1])
       | succ k2 =>
        have H := HA.out
        clear HA
        simp only [cx_gcd.l1] at H
        by_cases c5 : x5_2 = 0
        ·rw [if_pos c5] at H
         have c5b0 : (x5_2 == 0) = true := beq_iff_eq.mpr c5
         have c5b1 : (x5_2 != 0) = false := bne_eq_false_iff_eq.mpr c5
         clear c5
         have H' := Aside0.mk H
         clear H
         go_wp2
         repeat (go_quiet (fail); try go_wp2)
         go_roundg k2
         case measure => have := HK1.out; have := HK2.out; omega
         case rel => exact ⟨(x3_2), (wrap64 (x8_1 + 1)), (by first | rfl | (simp; done) | (simp [*]; done)), (by first | rfl | (simp; done) | (simp [*]; done)), H', ⟨by have := HK1.out; have := HK2.out; omega⟩, ⟨by repeat (first | (with_reducible first | exact HB.out | apply below_alloc | apply pw_below_drewN | apply below_drew1) | exact HB.out)⟩⟩
        ·rw [if_neg c5] at H
         have c5b0 : (x5_2 == 0) = false := beq_eq_false_iff_ne.mpr c5
         have c5b1 : (x5_2 != 0) = true := bne_iff_ne.mpr c5
         have H' := Aside0.mk H
         clear H
         go_wp2
         repeat (go_quiet (fail); try go_wp2)
         go_roundg k2
         case measure => have := HK1.out; have := HK2.out; omega
         case rel => exact ⟨(x5_2), (Int.tmod x3_2 x5_2), (by first | rfl | (simp; done) | (simp [*]; done)), (by first | rfl | (simp; done) | (simp [*]; done)), H', ⟨by have := HK1.out; have := HK2.out; omega⟩, ⟨by repeat (first | (with_reducible first | exact HB.out | apply below_alloc | apply pw_below_drewN | apply below_drew1) | exact HB.out)⟩⟩
     ·rw [if_neg c4] at H
      exact absurd H (by simp)
    ·rw [if_neg c3] at H
     exact absurd H (by simp)
   ·rw [if_neg c2] at H
    have c2b0 : decide (x8_1 < (l0.length : Int)) = false := decide_eq_false c2
    clear c2
    obtain ⟨ji6, hji6⟩ : ∃ j_ : Int, (mx x3_1 (wrap64 (-x3_1))) = j_ := ⟨_, rfl⟩
    replace H : (some ji6) = some r := by first | (rw [hji6] at H; exact H) | (simp only [hji6] at H ⊢; exact H)
    have hji6_ : (if x3_1 < (wrap64 (-x3_1)) then (wrap64 (-x3_1)) else x3_1) = ji6 := hji6
    obtain rfl := Option.some.inj H
    go_wp2
    repeat (go_quiet (fail); try go_wp2)
    go_ret
    exact ⟨by first | rfl | (simp [errW_none, errW_some] <;> rfl) | (simp only [← hji6]; first | rfl | (simp [errW_none, errW_some] <;> rfl)) | (simp [*, errW_none, errW_some] <;> rfl), by repeat (first | (with_reducible first | exact HB.out | apply below_alloc | apply pw_below_drewN | apply below_drew1) | exact HB.out)⟩

/-! ### cx_Check_1: function 54 -/
def cx_Check_1.f (a0 : Int) : Option (Bool) := if a0 ≥ (-1000000000) then (some (decide (a0 ≤ 1000000000))) else (some false)
set_option maxHeartbeats 8000000 in
set_option maxRecDepth 100000 in
theorem cx_Check_1.calls (a0 : Int) (r : Bool) (w : World) (h : cx_Check_1.f a0 = some r) :
  Calls Try.prog 54 #[.int .i64 a0] w fun e w' => e = .returned (.bool r) ∧ Drawn0 w w' := by
 have H : (if a0 ≥ (-1000000000) then (some (decide (a0 ≤ 1000000000))) else (some false)) = some r := h
 clear h
 by_cases c2 : a0 ≥ (-1000000000)
 ·rw [if_pos c2] at H
  have c2b0 : decide ((-1000000000) ≤ a0) = true := decide_eq_true c2
  clear c2
  obtain rfl := Option.some.inj H
  go_enter Try.func54, Try.ntmps54
  go_wp2
  go_ret
  exact ⟨by first | rfl | (simp; done) | (simp [*]; done), by repeat (first | exact Drawn0.refl _ | apply Drawn0.step)⟩
 ·rw [if_neg c2] at H
  have c2b0 : decide ((-1000000000) ≤ a0) = false := decide_eq_false c2
  clear c2
  obtain rfl := Option.some.inj H
  go_enter Try.func54, Try.ntmps54
  go_wp2
  go_ret
  exact ⟨by first | rfl | (simp; done) | (simp [*]; done), by repeat (first | exact Drawn0.refl _ | apply Drawn0.step)⟩

end Go.Proofs.Ytihmhcdcbcleeaa.Q
