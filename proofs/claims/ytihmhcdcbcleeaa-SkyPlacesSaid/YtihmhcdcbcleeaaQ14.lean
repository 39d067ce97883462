-- Written by qprint.py (a program of this session) over the program of the kit that prints contracts. Not trusted: Lean checks it.
import Derived.Test.YtihmhcdcbcleeaaQ0
import Derived.Test.YtihmhcdcbcleeaaQ2
import Derived.Test.YtihmhcdcbcleeaaQ9
import Derived.Test.YtihmhcdcbcleeaaQ11
import Derived.Test.YtihmhcdcbcleeaaQ12
import Derived.Test.YtihmhcdcbcleeaaQ13
namespace Go.Proofs.Ytihmhcdcbcleeaa.Q
open Go.RowKit Go.Proofs.YtihmhcdcbcleeaaW.PrintWords Go.Proofs.YtihmhcdcbcleeaaW.PrintLast Go.Proofs.YtihmhcdcbcleeaaW.PrintMore
attribute [local go_sem] max2_int min2_int max_two min_two max_three min_three max_four min_four   -- for this text's walks alone
set_option linter.unusedVariables false
set_option linter.unusedSimpArgs false

attribute [local go_sem high] eqA45
/-! ### fringelaw41_SkyPlaces: function 4 -/
mutual
def fringelaw41_SkyPlaces.j0 : Nat → List (S41) → List (S33) → Int → Int → Int → Bool → Bool → Option (Bool)
 | 0, _, _, _, _, _, _, _ => none
 | k + 1, x0, x1, x2, x3, x4, x11, x58 => if x58 = true then (some x11) else ((sky_See.f k x0 x1).bind fun bt287 => (if bt287.2 = 0 then ((some (([] : List (S41)) : List (S41))).bind fun y291 => (if y291.length + x0.length < 8796093022208 then ((some (([] : List (S41)) : List (S41))).bind fun y297 => (if y297.length + x0.length < 8796093022208 then (fringelaw41_SkyPlaces.l0 k x0 x1 x2 x3 x4 x11 bt287.1 (y291 ++ x0) (y297 ++ x0) 0) else (none))) else (none))) else (some false)))
def fringelaw41_SkyPlaces.l0 : Nat → List (S41) → List (S33) → Int → Int → Int → Bool → List (S47) → List (S41) → List (S41) → Int → Option (Bool)
 | 0, _, _, _, _, _, _, _, _, _, _ => none
 | k + 1, x0, x1, x2, x3, x4, x11, x12, x14, x15, x16 => if x16 < (x0.length : Int) then (if 0 ≤ x16 then (if x16 < (x14.length : Int) then (fringelaw41_SkyPlaces.l0 k x0 x1 x2 x3 x4 x11 x12 (x14.set (x16 : Int).toNat (⟨wrap64 (((rd_T41 x0 x16).f0) + x2), wrap64 (((rd_T41 x0 x16).f1) + x3)⟩ : S41)) x15 (wrap64 (x16 + 1))) else (none)) else (none)) else (if 0 ≤ x4 then (if x4 < (x0.length : Int) then (if x4 < (x15.length : Int) then ((some (x15.set (x4 : Int).toNat (⟨wrap64 (((rd_T41 x0 x4).f0) + (wrap64 (4 * x2))), wrap64 (((rd_T41 x0 x4).f1) - (wrap64 (4 * x3)))⟩ : S41) : List (S41))).bind fun y308 => ((fringeref41_Places.f k x14).bind fun t309 => (if t309 = 0 then ((sky_See.f k x14 x1).bind fun bt310 => (if bt310.2 = 0 then ((fringeref41_SameVis.f k x12 bt310.1).bind fun t314 => (if t314 = true then (fringelaw41_SkyPlaces.j2 k x0 x1 x11 x12 y308) else (some false))) else (some false))) else (fringelaw41_SkyPlaces.j2 k x0 x1 x11 x12 y308)))) else (none)) else (none)) else (none))
def fringelaw41_SkyPlaces.j2 : Nat → List (S41) → List (S33) → Bool → List (S47) → List (S41) → Option (Bool)
 | 0, _, _, _, _, _ => none
 | k + 1, x0, x1, x11, x12, x15 => (fringeref41_Places.f k x15).bind fun t315 => (if t315 = 0 then ((sky_See.f k x15 x1).bind fun bt316 => (if bt316.2 = 0 then ((fringeref41_SameVis.f k x12 bt316.1).bind fun t320 => (if t320 = true then (fringelaw41_SkyPlaces.j3 k x0 x1 x11 x12) else (some false))) else (some false))) else (fringelaw41_SkyPlaces.j3 k x0 x1 x11 x12))
def fringelaw41_SkyPlaces.j3 : Nat → List (S41) → List (S33) → Bool → List (S47) → Option (Bool)
 | 0, _, _, _, _ => none
 | k + 1, x0, x1, x11, x12 => fringelaw41_SkyPlaces.l1 k x0 x1 x11 x12 0
def fringelaw41_SkyPlaces.l1 : Nat → List (S41) → List (S33) → Bool → List (S47) → Int → Option (Bool)
 | 0, _, _, _, _, _ => none
 | k + 1, x0, x1, x11, x12, x21 => if x21 < (x12.length : Int) then (if 0 ≤ x21 then (if ((rd_T47 x12 x21).f0) < 0 then (fringelaw41_SkyPlaces.j5 k x0 x1 x11 x12 x21 true) else (if ((rd_T47 x12 x21).f1) ≥ (x0.length : Int) then (fringelaw41_SkyPlaces.j5 k x0 x1 x11 x12 x21 true) else (fringelaw41_SkyPlaces.j5 k x0 x1 x11 x12 x21 (decide (((rd_T47 x12 x21).f0) ≥ ((rd_T47 x12 x21).f1)))))) else (none)) else (some x11)
def fringelaw41_SkyPlaces.j5 : Nat → List (S41) → List (S33) → Bool → List (S47) → Int → Bool → Option (Bool)
 | 0, _, _, _, _, _, _ => none
 | k + 1, x0, x1, x11, x12, x21, x186 => if x186 = true then (some false) else (if 0 ≤ x21 then (if x21 < (x12.length : Int) then (if 0 ≤ ((rd_T47 x12 x21).f0) then (if ((rd_T47 x12 x21).f0) < (x0.length : Int) then (if 0 ≤ ((rd_T47 x12 x21).f1) then (if ((rd_T47 x12 x21).f1) < (x0.length : Int) then ((sky_See.f k (([(⟨(rd_T41 x0 ((rd_T47 x12 x21).f0)).f0, (rd_T41 x0 ((rd_T47 x12 x21).f0)).f1⟩ : S41), (⟨(rd_T41 x0 ((rd_T47 x12 x21).f1)).f0, (rd_T41 x0 ((rd_T47 x12 x21).f1)).f1⟩ : S41)] : List (S41))) x1).bind fun bt332 => (if bt332.2 = 0 then (if (bt332.1.length : Int) = 1 then (if 0 < (bt332.1.length : Int) then (if (!(((rd_T47 bt332.1 0).f2.f0) == ((rd_T47 x12 x21).f2.f0)) || (!(((rd_T47 bt332.1 0).f2.f1) == ((rd_T47 x12 x21).f2.f1)) || (!(((rd_T47 bt332.1 0).f2.f2) == ((rd_T47 x12 x21).f2.f2))))) = true then (some false) else (fringelaw41_SkyPlaces.l1 k x0 x1 x11 x12 (wrap64 (x21 + 1)))) else (none)) else (some false)) else (some false))) else (none)) else (none)) else (none)) else (none)) else (none)) else (none))
end
def fringelaw41_SkyPlaces.f (k : Nat) (l0 : List (S41)) (l1 : List (S33)) (a2 : Int) (a3 : Int) (a4 : Int) : Option (Bool) := (fringelaw41_alive.f k).bind fun t285 => ((fringelaw41_valid.f k l0 l1).bind fun t286 => (if t286 = true then (if a4 < 0 then (fringelaw41_SkyPlaces.j0 k l0 l1 a2 a3 a4 t285 true) else (if a4 ≥ (l0.length : Int) then (fringelaw41_SkyPlaces.j0 k l0 l1 a2 a3 a4 t285 true) else (if a2 < (-20) then (fringelaw41_SkyPlaces.j0 k l0 l1 a2 a3 a4 t285 true) else (if a2 > 20 then (fringelaw41_SkyPlaces.j0 k l0 l1 a2 a3 a4 t285 true) else (if a3 < (-20) then (fringelaw41_SkyPlaces.j0 k l0 l1 a2 a3 a4 t285 true) else (if a3 > 20 then (fringelaw41_SkyPlaces.j0 k l0 l1 a2 a3 a4 t285 true) else (fringelaw41_SkyPlaces.j0 k l0 l1 a2 a3 a4 t285 (!t285)))))))) else (fringelaw41_SkyPlaces.j0 k l0 l1 a2 a3 a4 t285 true)))
theorem fringelaw41_SkyPlaces.mono_l : ∀ k, (∀ y0 y1 y2 y3 y4 y5 y6, LeO (fringelaw41_SkyPlaces.j0 k y0 y1 y2 y3 y4 y5 y6) (fringelaw41_SkyPlaces.j0 (k + 1) y0 y1 y2 y3 y4 y5 y6)) ∧ (∀ y0 y1 y2 y3 y4 y5 y6 y7 y8 y9, LeO (fringelaw41_SkyPlaces.l0 k y0 y1 y2 y3 y4 y5 y6 y7 y8 y9) (fringelaw41_SkyPlaces.l0 (k + 1) y0 y1 y2 y3 y4 y5 y6 y7 y8 y9)) ∧ (∀ y0 y1 y2 y3 y4, LeO (fringelaw41_SkyPlaces.j2 k y0 y1 y2 y3 y4) (fringelaw41_SkyPlaces.j2 (k + 1) y0 y1 y2 y3 y4)) ∧ (∀ y0 y1 y2 y3, LeO (fringelaw41_SkyPlaces.j3 k y0 y1 y2 y3) (fringelaw41_SkyPlaces.j3 (k + 1) y0 y1 y2 y3)) ∧ (∀ y0 y1 y2 y3 y4, LeO (fringelaw41_SkyPlaces.l1 k y0 y1 y2 y3 y4) (fringelaw41_SkyPlaces.l1 (k + 1) y0 y1 y2 y3 y4)) ∧ (∀ y0 y1 y2 y3 y4 y5, LeO (fringelaw41_SkyPlaces.j5 k y0 y1 y2 y3 y4 y5) (fringelaw41_SkyPlaces.j5 (k + 1) y0 y1 y2 y3 y4 y5))
 | 0 => ⟨fun _ _ _ _ _ _ _ r h => by simp [fringelaw41_SkyPlaces.j0] at h, fun _ _ _ _ _ _ _ _ _ _ r h => by simp [fringelaw41_SkyPlaces.l0] at h, fun _ _ _ _ _ r h => by simp [fringelaw41_SkyPlaces.j2] at h, fun _ _ _ _ r h => by simp [fringelaw41_SkyPlaces.j3] at h, fun _ _ _ _ _ r h => by simp [fringelaw41_SkyPlaces.l1] at h, fun _ _ _ _ _ _ r h => by simp [fringelaw41_SkyPlaces.j5] at h⟩
 | k + 1 => by
  obtain ⟨ih0, ih1, ih2, ih3, ih4, ih5⟩ := fringelaw41_SkyPlaces.mono_l k
  refine ⟨?_, ?_, ?_, ?_, ?_, ?_⟩
  ·intro y0 y1 y2 y3 y4 y5 y6
   unfold fringelaw41_SkyPlaces.j0
   repeat' first
   | (with_reducible exact ih0 _ _ _ _ _ _ _)
   | (with_reducible exact ih1 _ _ _ _ _ _ _ _ _ _)
   | (with_reducible exact ih2 _ _ _ _ _)
   | (with_reducible exact ih3 _ _ _ _)
   | (with_reducible exact ih4 _ _ _ _ _)
   | (with_reducible exact ih5 _ _ _ _ _ _)
   | (with_reducible exact fringelaw41_alive.mono _)
   | (with_reducible exact fringelaw41_valid.mono _ _ _)
   | (with_reducible exact fringeref41_Places.mono _ _)
   | (with_reducible exact fringeref41_SameVis.mono _ _ _)
   | (with_reducible exact sky_See.mono _ _ _)
   | (with_reducible exact LeO.refl _)
   | (with_reducible exact LeO.none _)
   | (with_reducible refine LeO.ite ?_ ?_)
   | (with_reducible refine LeO.bind ?_ (fun _ => ?_))
   | exact ih0 _ _ _ _ _ _ _
   | exact ih1 _ _ _ _ _ _ _ _ _ _
   | exact ih2 _ _ _ _ _
   | exact ih3 _ _ _ _
   | exact ih4 _ _ _ _ _
   | exact ih5 _ _ _ _ _ _
   | exact fringelaw41_alive.mono _
   | exact fringelaw41_valid.mono _ _ _
   | exact fringeref41_Places.mono _ _
   | exact fringeref41_SameVis.mono _ _ _
   | exact sky_See.mono _ _ _
   | exact LeO.none _
   | refine LeO.ite ?_ ?_
   | refine LeO.bind ?_ (fun _ => ?_)
  ·intro y0 y1 y2 y3 y4 y5 y6 y7 y8 y9
   unfold fringelaw41_SkyPlaces.l0
   repeat' first
   | (with_reducible exact ih0 _ _ _ _ _ _ _)
   | (with_reducible exact ih1 _ _ _ _ _ _ _ _ _ _)
   | (with_reducible exact ih2 _ _ _ _ _)
   | (with_reducible exact ih3 _ _ _ _)
   | (with_reducible exact ih4 _ _ _ _ _)
   | (with_reducible exact ih5 _ _ _ _ _ _)
   | (with_reducible exact fringelaw41_alive.mono _)
   | (with_reducible exact fringelaw41_valid.mono _ _ _)
   | (with_reducible exact fringeref41_Places.mono _ _)
   | (with_reducible exact fringeref41_SameVis.mono _ _ _)
   | (with_reducible exact sky_See.mono _ _ _)
   | (with_reducible exact LeO.refl _)
   | (with_reducible exact LeO.none _)
   | (with_reducible refine LeO.ite ?_ ?_)
   | (with_reducible refine LeO.bind ?_ (fun _ => ?_))
   | exact ih0 _ _ _ _ _ _ _
   | exact ih1 _ _ _ _ _ _ _ _ _ _
   | exact ih2 _ _ _ _ _
   | exact ih3 _ _ _ _
   | exact ih4 _ _ _ _ _
   | exact ih5 _ _ _ _ _ _
   | exact fringelaw41_alive.mono _
   | exact fringelaw41_valid.mono _ _ _
   | exact fringeref41_Places.mono _ _
   | exact fringeref41_SameVis.mono _ _ _
   | exact sky_See.mono _ _ _
   | exact LeO.none _
   | refine LeO.ite ?_ ?_
   | refine LeO.bind ?_ (fun _ => ?_)
  ·intro y0 y1 y2 y3 y4
   unfold fringelaw41_SkyPlaces.j2
   repeat' first
   | (with_reducible exact ih0 _ _ _ _ _ _ _)
   | (with_reducible exact ih1 _ _ _ _ _ _ _ _ _ _)
   | (with_reducible exact ih2 _ _ _ _ _)
   | (with_reducible exact ih3 _ _ _ _)
   | (with_reducible exact ih4 _ _ _ _ _)
   | (with_reducible exact ih5 _ _ _ _ _ _)
   | (with_reducible exact fringelaw41_alive.mono _)
   | (with_reducible exact fringelaw41_valid.mono _ _ _)
   | (with_reducible exact fringeref41_Places.mono _ _)
   | (with_reducible exact fringeref41_SameVis.mono _ _ _)
   | (with_reducible exact sky_See.mono _ _ _)
   | (with_reducible exact LeO.refl _)
   | (with_reducible exact LeO.none _)
   | (with_reducible refine LeO.ite ?_ ?_)
   | (with_reducible refine LeO.bind ?_ (fun _ => ?_))
   | exact ih0 _ _ _ _ _ _ _
   | exact ih1 _ _ _ _ _ _ _ _ _ _
   | exact ih2 _ _ _ _ _
   | exact ih3 _ _ _ _
   | exact ih4 _ _ _ _ _
   | exact ih5 _ _ _ _ _ _
   | exact fringelaw41_alive.mono _
   | exact fringelaw41_valid.mono _ _ _
   | exact fringeref41_Places.mono _ _
   | exact fringeref41_SameVis.mono _ _ _
   | exact sky_See.mono _ _ _
   | exact LeO.none _
   | refine LeO.ite ?_ ?_
   | refine LeO.bind ?_ (fun _ => ?_)
  ·intro y0 y1 y2 y3
   unfold fringelaw41_SkyPlaces.j3
   repeat' first
   | (with_reducible exact ih0 _ _ _ _ _ _ _)
   | (with_reducible exact ih1 _ _ _ _ _ _ _ _ _ _)
   | (with_reducible exact ih2 _ _ _ _ _)
   | (with_reducible exact ih3 _ _ _ _)
   | (with_reducible exact ih4 _ _ _ _ _)
   | (with_reducible exact ih5 _ _ _ _ _ _)
   | (with_reducible exact fringelaw41_alive.mono _)
   | (with_reducible exact fringelaw41_valid.mono _ _ _)
   | (with_reducible exact fringeref41_Places.mono _ _)
   | (with_reducible exact fringeref41_SameVis.mono _ _ _)
   | (with_reducible exact sky_See.mono _ _ _)
   | (with_reducible exact LeO.refl _)
   | (with_reducible exact LeO.none _)
   | (with_reducible refine LeO.ite ?_ ?_)
   | (with_reducible refine LeO.bind ?_ (fun _ => ?_))
   | exact ih0 _ _ _ _ _ _ _
   | exact ih1 _ _ _ _ _ _ _ _ _ _
   | exact ih2 _ _ _ _ _
   | exact ih3 _ _ _ _
   | exact ih4 _ _ _ _ _
   | exact ih5 _ _ _ _ _ _
   | exact fringelaw41_alive.mono _
   | exact fringelaw41_valid.mono _ _ _
   | exact fringeref41_Places.mono _ _
   | exact fringeref41_SameVis.mono _ _ _
   | exact sky_See.mono _ _ _
   | exact LeO.none _
   | refine LeO.ite ?_ ?_
   | refine LeO.bind ?_ (fun _ => ?_)
  ·intro y0 y1 y2 y3 y4
   unfold fringelaw41_SkyPlaces.l1
   repeat' first
   | (with_reducible exact ih0 _ _ _ _ _ _ _)
   | (with_reducible exact ih1 _ _ _ _ _ _ _ _ _ _)
   | (with_reducible exact ih2 _ _ _ _ _)
   | (with_reducible exact ih3 _ _ _ _)
   | (with_reducible exact ih4 _ _ _ _ _)
   | (with_reducible exact ih5 _ _ _ _ _ _)
   | (with_reducible exact fringelaw41_alive.mono _)
   | (with_reducible exact fringelaw41_valid.mono _ _ _)
   | (with_reducible exact fringeref41_Places.mono _ _)
   | (with_reducible exact fringeref41_SameVis.mono _ _ _)
   | (with_reducible exact sky_See.mono _ _ _)
   | (with_reducible exact LeO.refl _)
   | (with_reducible exact LeO.none _)
   | (with_reducible refine LeO.ite ?_ ?_)
   | (with_reducible refine LeO.bind ?_ (fun _ => ?_))
   | exact ih0 _ _ _ _ _ _ _
   | exact ih1 _ _ _ _ _ _ _ _ _ _
   | exact ih2 _ _ _ _ _
   | exact ih3 _ _ _ _
   | exact ih4 _ _ _ _ _
   | exact ih5 _ _ _ _ _ _
   | exact fringelaw41_alive.mono _
   | exact fringelaw41_valid.mono _ _ _
   | exact fringeref41_Places.mono _ _
   | exact fringeref41_SameVis.mono _ _ _
   | exact sky_See.mono _ _ _
   | exact LeO.none _
   | refine LeO.ite ?_ ?_
   | refine LeO.bind ?_ (fun _ => ?_)
  ·intro y0 y1 y2 y3 y4 y5
   unfold fringelaw41_SkyPlaces.j5
   repeat' first
   | (with_reducible exact ih0 _ _ _ _ _ _ _)
   | (with_reducible exact ih1 _ _ _ _ _ _ _ _ _ _)
   | (with_reducible exact ih2 _ _ _ _ _)
   | (with_reducible exact ih3 _ _ _ _)
   | (with_reducible exact ih4 _ _ _ _ _)
   | (with_reducible exact ih5 _ _ _ _ _ _)
   | (with_reducible exact fringelaw41_alive.mono _)
   | (with_reducible exact fringelaw41_valid.mono _ _ _)
   | (with_reducible exact fringeref41_Places.mono _ _)
   | (with_reducible exact fringeref41_SameVis.mono _ _ _)
   | (with_reducible exact sky_See.mono _ _ _)
   | (with_reducible exact LeO.refl _)
   | (with_reducible exact LeO.none _)
   | (with_reducible refine LeO.ite ?_ ?_)
   | (with_reducible refine LeO.bind ?_ (fun _ => ?_))
   | exact ih0 _ _ _ _ _ _ _
   | exact ih1 _ _ _ _ _ _ _ _ _ _
   | exact ih2 _ _ _ _ _
   | exact ih3 _ _ _ _
   | exact ih4 _ _ _ _ _
   | exact ih5 _ _ _ _ _ _
   | exact fringelaw41_alive.mono _
   | exact fringelaw41_valid.mono _ _ _
   | exact fringeref41_Places.mono _ _
   | exact fringeref41_SameVis.mono _ _ _
   | exact sky_See.mono _ _ _
   | exact LeO.none _
   | refine LeO.ite ?_ ?_
   | refine LeO.bind ?_ (fun _ => ?_)
theorem fringelaw41_SkyPlaces.mono : ∀ a0 a1 a2 a3 a4 k, LeO (fringelaw41_SkyPlaces.f k a0 a1 a2 a3 a4) (fringelaw41_SkyPlaces.f (k + 1) a0 a1 a2 a3 a4) := by
 intro a0 a1 a2 a3 a4 k
 obtain ⟨ih0, ih1, ih2, ih3, ih4, ih5⟩ := fringelaw41_SkyPlaces.mono_l k
 unfold fringelaw41_SkyPlaces.f
 repeat' first
   | (with_reducible exact ih0 _ _ _ _ _ _ _)
   | (with_reducible exact ih1 _ _ _ _ _ _ _ _ _ _)
   | (with_reducible exact ih2 _ _ _ _ _)
   | (with_reducible exact ih3 _ _ _ _)
   | (with_reducible exact ih4 _ _ _ _ _)
   | (with_reducible exact ih5 _ _ _ _ _ _)
   | (with_reducible exact fringelaw41_alive.mono _)
   | (with_reducible exact fringelaw41_valid.mono _ _ _)
   | (with_reducible exact fringeref41_Places.mono _ _)
   | (with_reducible exact fringeref41_SameVis.mono _ _ _)
   | (with_reducible exact sky_See.mono _ _ _)
   | (with_reducible exact LeO.refl _)
   | (with_reducible exact LeO.none _)
   | (with_reducible refine LeO.ite ?_ ?_)
   | (with_reducible refine LeO.bind ?_ (fun _ => ?_))
   | exact ih0 _ _ _ _ _ _ _
   | exact ih1 _ _ _ _ _ _ _ _ _ _
   | exact ih2 _ _ _ _ _
   | exact ih3 _ _ _ _
   | exact ih4 _ _ _ _ _
   | exact ih5 _ _ _ _ _ _
   | exact fringelaw41_alive.mono _
   | exact fringelaw41_valid.mono _ _ _
   | exact fringeref41_Places.mono _ _
   | exact fringeref41_SameVis.mono _ _ _
   | exact sky_See.mono _ _ _
   | exact LeO.none _
   | refine LeO.ite ?_ ?_
   | refine LeO.bind ?_ (fun _ => ?_)
def fringelaw41_SkyPlaces.T12 : Bool × List (List Nat × List Nat) := (true, [([], []), ([], []), ([], []), ([], []), ([2, 3], [2, 3]), ([4], [4]), ([5], [5]), ([], []), ([6, 7], [6, 7]), ([], []), ([], []), ([9, 10], [9, 10]), ([11], [11]), ([12], [12]), ([], []), ([13, 14], [13, 14]), ([8, 15], [8, 15]), ([0, 1, 0, 1, 2, 3, 4, 5, 6, 7, 8, 9, 10, 11, 12, 13, 14, 15, 16], [0, 1]), ([17, 16, 0, 1, 2, 3, 4, 5, 6, 7, 8, 9, 10, 11, 12, 13, 14, 15, 16], [16, 17])])
def fringelaw41_SkyPlaces.B12 : List Nat := [0, 0, 0, 0, 12, 28, 60, 0, 252, 0, 0, 1536, 3584, 7680, 0, 32256, 65532, 131071, 262143]
theorem fringelaw41_SkyPlaces.tab12 : rtab .any (opsOf Try.f4 12) = fringelaw41_SkyPlaces.T12 := by kernel_rfl
theorem fringelaw41_SkyPlaces.bits12 : waitsOk fringelaw41_SkyPlaces.T12.2 fringelaw41_SkyPlaces.B12 = true := by kernel_rfl
def fringelaw41_SkyPlaces.T13 : Bool × List (List Nat × List Nat) := (true, [([], []), ([], []), ([], []), ([], []), ([2, 3], [2, 3]), ([4], [4]), ([5], [5]), ([], []), ([7], [7]), ([6, 8], [6, 8]), ([], []), ([], []), ([10, 11], [10, 11]), ([12], [12]), ([13], [13]), ([], []), ([15], [15]), ([14, 16], [14, 16]), ([9, 17], [9, 17]), ([0, 1, 0, 1, 2, 3, 4, 5, 6, 7, 8, 9, 10, 11, 12, 13, 14, 15, 16, 17, 18], [0, 1]), ([19, 18, 0, 1, 2, 3, 4, 5, 6, 7, 8, 9, 10, 11, 12, 13, 14, 15, 16, 17, 18], [18, 19])])
def fringelaw41_SkyPlaces.B13 : List Nat := [0, 0, 0, 0, 12, 28, 60, 0, 128, 508, 0, 0, 3072, 7168, 15360, 0, 32768, 130048, 262140, 524287, 1048575]
theorem fringelaw41_SkyPlaces.tab13 : rtab .any (opsOf Try.f4 13) = fringelaw41_SkyPlaces.T13 := by kernel_rfl
theorem fringelaw41_SkyPlaces.bits13 : waitsOk fringelaw41_SkyPlaces.T13.2 fringelaw41_SkyPlaces.B13 = true := by kernel_rfl
def fringelaw41_SkyPlaces.T25 : Bool × List (List Nat × List Nat) := (true, [([], []), ([], []), ([0, 1], [0, 1]), ([2], [2]), ([3], [3]), ([4], [4]), ([5], [5]), ([6], [6]), ([6], [6]), ([7, 8, 6], [6, 7, 8]), ([9, 6], [6, 9]), ([10, 6], [6, 10]), ([6], [6]), ([12, 6], [6, 12]), ([11, 13, 6], [6, 11, 13]), ([6, 14], [6, 14]), ([15, 6], [15]), ([16], [16]), ([16], [16]), ([17, 18, 16], [16, 17, 18]), ([19, 16], [16, 19]), ([20, 16], [16, 20]), ([16], [16]), ([16], [16]), ([22, 23, 16], [16, 22, 23]), ([24, 16], [16, 24]), ([25, 16], [16, 25]), ([21, 26, 16], [16, 21, 26]), ([16, 27], [16, 27])])
def fringelaw41_SkyPlaces.B25 : List Nat := [0, 0, 3, 7, 15, 31, 63, 127, 127, 511, 1023, 2047, 127, 4223, 16383, 32767, 65535, 131071, 131071, 524287, 1048575, 2097151, 131071, 131071, 12713983, 29491199, 63045631, 134217727, 268435455]
theorem fringelaw41_SkyPlaces.tab25 : rtab .any (opsOf Try.f4 25) = fringelaw41_SkyPlaces.T25 := by kernel_rfl
theorem fringelaw41_SkyPlaces.bits25 : waitsOk fringelaw41_SkyPlaces.T25.2 fringelaw41_SkyPlaces.B25 = true := by kernel_rfl
def fringelaw41_SkyPlaces.T27 : Bool × List (List Nat × List Nat) := (true, [([], []), ([], []), ([], []), ([1, 2], [1, 2]), ([3], [3]), ([4], [4]), ([0, 5], [0, 5]), ([6], [6]), ([], []), ([], []), ([], []), ([9, 10], [9, 10]), ([11], [11]), ([12], [12]), ([8, 13], [8, 13]), ([14], [14]), ([7, 15], [7, 15]), ([], []), ([16, 17], [16, 17]), ([18], [18]), ([19], [19]), ([19], [19]), ([20, 18, 0, 1, 2, 3, 4, 5, 6, 7, 8, 9, 10, 11, 12, 13, 14, 15, 16, 17, 18, 19, 20], [20]), ([21, 22, 0, 1, 2, 3, 4, 5, 6, 7, 8, 9, 10, 11, 12, 13, 14, 15, 16, 17, 18, 19, 20, 21, 22], [21])])
def fringelaw41_SkyPlaces.B27 : List Nat := [0, 0, 0, 6, 14, 30, 63, 127, 0, 0, 0, 1536, 3584, 7680, 16128, 32512, 65535, 0, 262143, 524287, 1048575, 1048575, 2097151, 8388607]
theorem fringelaw41_SkyPlaces.tab27 : rtab .any (opsOf Try.f4 27) = fringelaw41_SkyPlaces.T27 := by kernel_rfl
theorem fringelaw41_SkyPlaces.bits27 : waitsOk fringelaw41_SkyPlaces.T27.2 fringelaw41_SkyPlaces.B27 = true := by kernel_rfl
def fringelaw41_SkyPlaces.T28 : Bool × List (List Nat × List Nat) := (true, [([], []), ([0], [0]), ([1], [1]), ([2], [2]), ([3, 2], [2, 3]), ([4, 2], [2, 4]), ([2, 5], [2, 5]), ([6, 2], [6]), ([7], [7]), ([8, 7], [7, 8]), ([9, 7], [7, 9]), ([10, 7], [7, 10]), ([7], [7]), ([7], [7]), ([12, 13, 7], [7, 12, 13]), ([14, 7], [7, 14]), ([15, 7], [7, 15]), ([11, 16, 7], [7, 11, 16]), ([7, 17], [7, 17])])
def fringelaw41_SkyPlaces.B28 : List Nat := [0, 1, 3, 7, 15, 31, 63, 127, 255, 511, 1023, 2047, 255, 255, 12543, 28927, 61695, 131071, 262143]
theorem fringelaw41_SkyPlaces.tab28 : rtab .any (opsOf Try.f4 28) = fringelaw41_SkyPlaces.T28 := by kernel_rfl
theorem fringelaw41_SkyPlaces.bits28 : waitsOk fringelaw41_SkyPlaces.T28.2 fringelaw41_SkyPlaces.B28 = true := by kernel_rfl
set_option maxHeartbeats 8000000 in
set_option maxRecDepth 100000 in
theorem fringelaw41_SkyPlaces.calls (k : Nat) (A0 : Option Addr) (c0 : Nat) (l0 : List (S41)) (A1 : Option Addr) (c1 : Nat) (l1 : List (S33)) (a2 : Int) (a3 : Int) (a4 : Int) (w : World) (hr0 : Kd.C k41 w A0 l0.length l0) (hc0 : l0.length ≤ c0) (hr1 : Kd.C k33 w A1 l1.length l1) (hc1 : l1.length ≤ c1) (h : fringelaw41_SkyPlaces.f k l0 l1 a2 a3 a4 = some true) :
  Calls Try.prog 4 #[.slice A0 l0.length c0, .slice A1 l1.length c1, .int .i64 a2, .int .i64 a3, .int .i64 a4] w fun e w' => e = .returned (.bool true) ∧ Below w.heap.size w w' := by
 have hu41 := Try.underlying41
 have hu45 := Try.underlying45
 have HR0 := Aside0.mk hr0
 have HC0 := Aside0.mk hc0
 clear hr0 hc0
 have HR1 := Aside0.mk hr1
 have HC1 := Aside0.mk hc1
 clear hr1 hc1
 have HB := Aside0.mk (Below.refl w.heap.size w)
 have H : ((fringelaw41_alive.f k).bind fun t285 => ((fringelaw41_valid.f k l0 l1).bind fun t286 => (if t286 = true then (if a4 < 0 then (fringelaw41_SkyPlaces.j0 k l0 l1 a2 a3 a4 t285 true) else (if a4 ≥ (l0.length : Int) then (fringelaw41_SkyPlaces.j0 k l0 l1 a2 a3 a4 t285 true) else (if a2 < (-20) then (fringelaw41_SkyPlaces.j0 k l0 l1 a2 a3 a4 t285 true) else (if a2 > 20 then (fringelaw41_SkyPlaces.j0 k l0 l1 a2 a3 a4 t285 true) else (if a3 < (-20) then (fringelaw41_SkyPlaces.j0 k l0 l1 a2 a3 a4 t285 true) else (if a3 > 20 then (fringelaw41_SkyPlaces.j0 k l0 l1 a2 a3 a4 t285 true) else (fringelaw41_SkyPlaces.j0 k l0 l1 a2 a3 a4 t285 (!t285)))))))) else (fringelaw41_SkyPlaces.j0 k l0 l1 a2 a3 a4 t285 true)))) = some true := h
 clear h
 replace H := Option.bind_eq_some_iff.mp H
 obtain ⟨t285, A60, H⟩ := H
 replace H : ((fringelaw41_valid.f k l0 l1).bind fun t286 => (if t286 = true then (if a4 < 0 then (fringelaw41_SkyPlaces.j0 k l0 l1 a2 a3 a4 t285 true) else (if a4 ≥ (l0.length : Int) then (fringelaw41_SkyPlaces.j0 k l0 l1 a2 a3 a4 t285 true) else (if a2 < (-20) then (fringelaw41_SkyPlaces.j0 k l0 l1 a2 a3 a4 t285 true) else (if a2 > 20 then (fringelaw41_SkyPlaces.j0 k l0 l1 a2 a3 a4 t285 true) else (if a3 < (-20) then (fringelaw41_SkyPlaces.j0 k l0 l1 a2 a3 a4 t285 true) else (if a3 > 20 then (fringelaw41_SkyPlaces.j0 k l0 l1 a2 a3 a4 t285 true) else (fringelaw41_SkyPlaces.j0 k l0 l1 a2 a3 a4 t285 (!t285)))))))) else (fringelaw41_SkyPlaces.j0 k l0 l1 a2 a3 a4 t285 true))) = some true := H
 have A6 := Aside0.mk A60
 clear A60
 have HC7 := Aside0.mk H
 clear H
 go_enter Try.func4, Try.ntmps4
 go_upto_region 2 with (first | ((with_reducible refine gate_callee (f := 16) rfl ?_); refine goesL_ (some 24) rfl rfl Try.func16 (by kernel_rfl) rfl #[] rfl (by (try simp only [List.map_toArray, List.map_cons, List.map_nil]); first | done | rfl | (simp only [List.length_drop, List.length_take]; rfl)) ?_; (with_reducible refine (fringelaw41_alive.calls k  t285 _ A6.out).mono ?_); rintro e w8 ⟨rfl, hb⟩; refine ⟨_, rfl, ?_⟩; have n0_ := Aside0.mk (below_step (by repeat (first | (with_reducible first | exact HB.out | apply below_alloc | apply pw_below_drewN | apply below_drew1) | exact HB.out)) hb); clear HB; have HB := n0_; clear n0_; (try clear hb); (try clear hb2); (try clear hk); (try clear hi)))
 (try simp only [Act.put, List.setIfInBounds_toArray, List.set_cons_zero, List.set_cons_succ])
 go_cut [58] (fun v58 wc => ∃ (kq : Nat) (x58_6 : Bool), v58 = .bool x58_6 ∧ Aside0 (fringelaw41_SkyPlaces.j0 kq l0 l1 a2 a3 a4 t285 x58_6 = some true) ∧ Aside0 (kq ≤ k) ∧ Aside0 (Below w.heap.size w wc))
 case first =>
  as_aux_lemma =>
  have H := HC7.out
  clear HC7
  replace H := Option.bind_eq_some_iff.mp H
  obtain ⟨t286, A90, H⟩ := H
  replace H : (if t286 = true then (if a4 < 0 then (fringelaw41_SkyPlaces.j0 k l0 l1 a2 a3 a4 t285 true) else (if a4 ≥ (l0.length : Int) then (fringelaw41_SkyPlaces.j0 k l0 l1 a2 a3 a4 t285 true) else (if a2 < (-20) then (fringelaw41_SkyPlaces.j0 k l0 l1 a2 a3 a4 t285 true) else (if a2 > 20 then (fringelaw41_SkyPlaces.j0 k l0 l1 a2 a3 a4 t285 true) else (if a3 < (-20) then (fringelaw41_SkyPlaces.j0 k l0 l1 a2 a3 a4 t285 true) else (if a3 > 20 then (fringelaw41_SkyPlaces.j0 k l0 l1 a2 a3 a4 t285 true) else (fringelaw41_SkyPlaces.j0 k l0 l1 a2 a3 a4 t285 (!t285)))))))) else (fringelaw41_SkyPlaces.j0 k l0 l1 a2 a3 a4 t285 true)) = some true := H
  have A9 := Aside0.mk A90
  clear A90
  by_cases c10 : t286 = true
  ·as_aux_lemma =>
   subst c10
   have H1 : (if a4 < 0 then (fringelaw41_SkyPlaces.j0 k l0 l1 a2 a3 a4 t285 true) else (if a4 ≥ (l0.length : Int) then (fringelaw41_SkyPlaces.j0 k l0 l1 a2 a3 a4 t285 true) else (if a2 < (-20) then (fringelaw41_SkyPlaces.j0 k l0 l1 a2 a3 a4 t285 true) else (if a2 > 20 then (fringelaw41_SkyPlaces.j0 k l0 l1 a2 a3 a4 t285 true) else (if a3 < (-20) then (fringelaw41_SkyPlaces.j0 k l0 l1 a2 a3 a4 t285 true) else (if a3 > 20 then (fringelaw41_SkyPlaces.j0 k l0 l1 a2 a3 a4 t285 true) else (fringelaw41_SkyPlaces.j0 k l0 l1 a2 a3 a4 t285 (!t285)))))))) = some true := by first | (with_reducible rfl) | (rw [if_pos rfl] at H; exact H)
   clear H
   have H := H1
   clear H1
   by_cases c11 : a4 < 0
   ·as_aux_lemma =>
    rw [if_pos c11] at H
    have c11b0 : decide (a4 < 0) = true := decide_eq_true c11
    clear c11
    (first | rw [c11b0] | (simp only [i64_w, i32_w]; rw [c11b0]) | skip)
    have H' := Aside0.mk H
    clear H
    go_wp2_with (first | ((with_reducible refine gate_callee (f := 17) rfl ?_); refine goesL_ (some 27) rfl rfl Try.func17 (by kernel_rfl) rfl #[.slice A0 l0.length c0, .slice A1 l1.length c1] rfl (by (try simp only [List.map_toArray, List.map_cons, List.map_nil]); first | done | rfl | (simp only [List.length_drop, List.length_take]; rfl)) ?_; (with_reducible refine (fringelaw41_valid.calls k _ _ l0 _ _ l1 true _ ?side1 ?side2 ?side3 ?side4 A9.out).mono ?_); (case side1 => repeat (first | exact (Kd.C_below HR0.out HB.out) | (with_reducible refine Kd.C_alloc ?_ _) | (with_reducible refine Kd.C_drewN ?_ _) | (with_reducible refine Kd.C_drew ?_))); (case side2 => exact HC0.out); (case side3 => repeat (first | exact (Kd.C_below HR1.out HB.out) | (with_reducible refine Kd.C_alloc ?_ _) | (with_reducible refine Kd.C_drewN ?_ _) | (with_reducible refine Kd.C_drew ?_))); (case side4 => exact HC1.out); rintro e w' ⟨rfl, ⟨nd, rfl⟩⟩; refine ⟨_, rfl, ?_⟩))
    go_meet
    case rel => exact ⟨_, (true), (by first | rfl | (simp; done) | (simp [*]; done)), H', ⟨by first | omega | exact Nat.le_refl _⟩, ⟨by repeat (first | (with_reducible first | exact HB.out | apply below_alloc | apply pw_below_drewN | apply below_drew1) | exact HB.out)⟩⟩
   ·as_aux_lemma =>
    rw [if_neg c11] at H
    have c11b0 : decide (a4 < 0) = false := decide_eq_false c11
    clear c11
    (first | rw [c11b0] | (simp only [i64_w, i32_w]; rw [c11b0]) | skip)
    by_cases c12 : a4 ≥ (l0.length : Int)
    ·as_aux_lemma =>
     rw [if_pos c12] at H
     have c12b0 : decide ((l0.length : Int) ≤ a4) = true := decide_eq_true c12
     clear c12
     have H' := Aside0.mk H
     clear H
     go_wp2_with (first | ((with_reducible refine gate_callee (f := 17) rfl ?_); refine goesL_ (some 27) rfl rfl Try.func17 (by kernel_rfl) rfl #[.slice A0 l0.length c0, .slice A1 l1.length c1] rfl (by (try simp only [List.map_toArray, List.map_cons, List.map_nil]); first | done | rfl | (simp only [List.length_drop, List.length_take]; rfl)) ?_; (with_reducible refine (fringelaw41_valid.calls k _ _ l0 _ _ l1 true _ ?side1 ?side2 ?side3 ?side4 A9.out).mono ?_); (case side1 => repeat (first | exact (Kd.C_below HR0.out HB.out) | (with_reducible refine Kd.C_alloc ?_ _) | (with_reducible refine Kd.C_drewN ?_ _) | (with_reducible refine Kd.C_drew ?_))); (case side2 => exact HC0.out); (case side3 => repeat (first | exact (Kd.C_below HR1.out HB.out) | (with_reducible refine Kd.C_alloc ?_ _) | (with_reducible refine Kd.C_drewN ?_ _) | (with_reducible refine Kd.C_drew ?_))); (case side4 => exact HC1.out); rintro e w' ⟨rfl, ⟨nd, rfl⟩⟩; refine ⟨_, rfl, ?_⟩))
     go_meet
     case rel => exact ⟨_, (true), (by first | rfl | (simp; done) | (simp [*]; done)), H', ⟨by first | omega | exact Nat.le_refl _⟩, ⟨by repeat (first | (with_reducible first | exact HB.out | apply below_alloc | apply pw_below_drewN | apply below_drew1) | exact HB.out)⟩⟩
    ·as_aux_lemma =>
     rw [if_neg c12] at H
     have c12b0 : decide ((l0.length : Int) ≤ a4) = false := decide_eq_false c12
     clear c12
     by_cases c13 : a2 < (-20)
     ·as_aux_lemma =>
      rw [if_pos c13] at H
      have c13b0 : decide (a2 < (-20)) = true := decide_eq_true c13
      clear c13
      have H' := Aside0.mk H
      clear H
      go_wp2_with (first | ((with_reducible refine gate_callee (f := 17) rfl ?_); refine goesL_ (some 27) rfl rfl Try.func17 (by kernel_rfl) rfl #[.slice A0 l0.length c0, .slice A1 l1.length c1] rfl (by (try simp only [List.map_toArray, List.map_cons, List.map_nil]); first | done | rfl | (simp only [List.length_drop, List.length_take]; rfl)) ?_; (with_reducible refine (fringelaw41_valid.calls k _ _ l0 _ _ l1 true _ ?side1 ?side2 ?side3 ?side4 A9.out).mono ?_); (case side1 => repeat (first | exact (Kd.C_below HR0.out HB.out) | (with_reducible refine Kd.C_alloc ?_ _) | (with_reducible refine Kd.C_drewN ?_ _) | (with_reducible refine Kd.C_drew ?_))); (case side2 => exact HC0.out); (case side3 => repeat (first | exact (Kd.C_below HR1.out HB.out) | (with_reducible refine Kd.C_alloc ?_ _) | (with_reducible refine Kd.C_drewN ?_ _) | (with_reducible refine Kd.C_drew ?_))); (case side4 => exact HC1.out); rintro e w' ⟨rfl, ⟨nd, rfl⟩⟩; refine ⟨_, rfl, ?_⟩))
      go_meet
      case rel => exact ⟨_, (true), (by first | rfl | (simp; done) | (simp [*]; done)), H', ⟨by first | omega | exact Nat.le_refl _⟩, ⟨by repeat (first | (with_reducible first | exact HB.out | apply below_alloc | apply pw_below_drewN | apply below_drew1) | exact HB.out)⟩⟩
     ·as_aux_lemma =>
      rw [if_neg c13] at H
      have c13b0 : decide (a2 < (-20)) = false := decide_eq_false c13
      clear c13
      by_cases c14 : a2 > 20
      ·as_aux_lemma =>
       rw [if_pos c14] at H
       have c14b0 : decide (20 < a2) = true := decide_eq_true c14
       clear c14
       have H' := Aside0.mk H
       clear H
       go_wp2_with (first | ((with_reducible refine gate_callee (f := 17) rfl ?_); refine goesL_ (some 27) rfl rfl Try.func17 (by kernel_rfl) rfl #[.slice A0 l0.length c0, .slice A1 l1.length c1] rfl (by (try simp only [List.map_toArray, List.map_cons, List.map_nil]); first | done | rfl | (simp only [List.length_drop, List.length_take]; rfl)) ?_; (with_reducible refine (fringelaw41_valid.calls k _ _ l0 _ _ l1 true _ ?side1 ?side2 ?side3 ?side4 A9.out).mono ?_); (case side1 => repeat (first | exact (Kd.C_below HR0.out HB.out) | (with_reducible refine Kd.C_alloc ?_ _) | (with_reducible refine Kd.C_drewN ?_ _) | (with_reducible refine Kd.C_drew ?_))); (case side2 => exact HC0.out); (case side3 => repeat (first | exact (Kd.C_below HR1.out HB.out) | (with_reducible refine Kd.C_alloc ?_ _) | (with_reducible refine Kd.C_drewN ?_ _) | (with_reducible refine Kd.C_drew ?_))); (case side4 => exact HC1.out); rintro e w' ⟨rfl, ⟨nd, rfl⟩⟩; refine ⟨_, rfl, ?_⟩))
       go_meet
       case rel => exact ⟨_, (true), (by first | rfl | (simp; done) | (simp [*]; done)), H', ⟨by first | omega | exact Nat.le_refl _⟩, ⟨by repeat (first | (with_reducible first | exact HB.out | apply below_alloc | apply pw_below_drewN | apply below_drew1) | exact HB.out)⟩⟩
      ·as_aux_lemma =>
       rw [if_neg c14] at H
       have c14b0 : decide (20 < a2) = false := decide_eq_false c14
       clear c14
       by_cases c15 : a3 < (-20)
       ·as_aux_lemma =>
        rw [if_pos c15] at H
        have c15b0 : decide (a3 < (-20)) = true := decide_eq_true c15
        clear c15
        have H' := Aside0.mk H
        clear H
        go_wp2_with (first | ((with_reducible refine gate_callee (f := 17) rfl ?_); refine goesL_ (some 27) rfl rfl Try.func17 (by kernel_rfl) rfl #[.slice A0 l0.length c0, .slice A1 l1.length c1] rfl (by (try simp only [List.map_toArray, List.map_cons, List.map_nil]); first | done | rfl | (simp only [List.length_drop, List.length_take]; rfl)) ?_; (with_reducible refine (fringelaw41_valid.calls k _ _ l0 _ _ l1 true _ ?side1 ?side2 ?side3 ?side4 A9.out).mono ?_); (case side1 => repeat (first | exact (Kd.C_below HR0.out HB.out) | (with_reducible refine Kd.C_alloc ?_ _) | (with_reducible refine Kd.C_drewN ?_ _) | (with_reducible refine Kd.C_drew ?_))); (case side2 => exact HC0.out); (case side3 => repeat (first | exact (Kd.C_below HR1.out HB.out) | (with_reducible refine Kd.C_alloc ?_ _) | (with_reducible refine Kd.C_drewN ?_ _) | (with_reducible refine Kd.C_drew ?_))); (case side4 => exact HC1.out); rintro e w' ⟨rfl, ⟨nd, rfl⟩⟩; refine ⟨_, rfl, ?_⟩))
        go_meet
        case rel => exact ⟨_, (true), (by first | rfl | (simp; done) | (simp [*]; done)), H', ⟨by first | omega | exact Nat.le_refl _⟩, ⟨by repeat (first | (with_reducible first | exact HB.out | apply below_alloc | apply pw_below_drewN | apply below_drew1) | exact HB.out)⟩⟩
       ·as_aux_lemma =>
        rw [if_neg c15] at H
        have c15b0 : decide (a3 < (-20)) = false := decide_eq_false c15
        clear c15
        by_cases c16 : a3 > 20
        ·as_aux_lemma =>
         rw [if_pos c16] at H
         have c16b0 : decide (20 < a3) = true := decide_eq_true c16
         clear c16
         have H' := Aside0.mk H
         clear H
         go_wp2_with (first | ((with_reducible refine gate_callee (f := 17) rfl ?_); refine goesL_ (some 27) rfl rfl Try.func17 (by kernel_rfl) rfl #[.slice A0 l0.length c0, .slice A1 l1.length c1] rfl (by (try simp only [List.map_toArray, List.map_cons, List.map_nil]); first | done | rfl | (simp only [List.length_drop, List.length_take]; rfl)) ?_; (with_reducible refine (fringelaw41_valid.calls k _ _ l0 _ _ l1 true _ ?side1 ?side2 ?side3 ?side4 A9.out).mono ?_); (case side1 => repeat (first | exact (Kd.C_below HR0.out HB.out) | (with_reducible refine Kd.C_alloc ?_ _) | (with_reducible refine Kd.C_drewN ?_ _) | (with_reducible refine Kd.C_drew ?_))); (case side2 => exact HC0.out); (case side3 => repeat (first | exact (Kd.C_below HR1.out HB.out) | (with_reducible refine Kd.C_alloc ?_ _) | (with_reducible refine Kd.C_drewN ?_ _) | (with_reducible refine Kd.C_drew ?_))); (case side4 => exact HC1.out); rintro e w' ⟨rfl, ⟨nd, rfl⟩⟩; refine ⟨_, rfl, ?_⟩))
         go_meet
         case rel => exact ⟨_, (true), (by first | rfl | (simp; done) | (simp [*]; done)), H', ⟨by first | omega | exact Nat.le_refl _⟩, ⟨by repeat (first | (with_reducible first | exact HB.out | apply below_alloc | apply pw_below_drewN | apply below_drew1) | exact HB.out)⟩⟩
        ·as_aux_lemma =>
         rw [if_neg c16] at H
         have c16b0 : decide (20 < a3) = false := decide_eq_false c16
         clear c16
         have H' := Aside0.mk H
         clear H
         go_wp2_with (first | ((with_reducible refine gate_callee (f := 17) rfl ?_); refine goesL_ (some 27) rfl rfl Try.func17 (by kernel_rfl) rfl #[.slice A0 l0.length c0, .slice A1 l1.length c1] rfl (by (try simp only [List.map_toArray, List.map_cons, List.map_nil]); first | done | rfl | (simp only [List.length_drop, List.length_take]; rfl)) ?_; (with_reducible refine (fringelaw41_valid.calls k _ _ l0 _ _ l1 true _ ?side1 ?side2 ?side3 ?side4 A9.out).mono ?_); (case side1 => repeat (first | exact (Kd.C_below HR0.out HB.out) | (with_reducible refine Kd.C_alloc ?_ _) | (with_reducible refine Kd.C_drewN ?_ _) | (with_reducible refine Kd.C_drew ?_))); (case side2 => exact HC0.out); (case side3 => repeat (first | exact (Kd.C_below HR1.out HB.out) | (with_reducible refine Kd.C_alloc ?_ _) | (with_reducible refine Kd.C_drewN ?_ _) | (with_reducible refine Kd.C_drew ?_))); (case side4 => exact HC1.out); rintro e w' ⟨rfl, ⟨nd, rfl⟩⟩; refine ⟨_, rfl, ?_⟩))
         go_meet
         case rel => exact ⟨_, (!t285), (by first | rfl | (simp; done) | (simp [*]; done)), H', ⟨by first | omega | exact Nat.le_refl _⟩, ⟨by repeat (first | (with_reducible first | exact HB.out | apply below_alloc | apply pw_below_drewN | apply below_drew1) | exact HB.out)⟩⟩
  ·as_aux_lemma =>
   replace c10 := Bool.eq_false_iff.mpr c10
   subst c10
   have H1 : (fringelaw41_SkyPlaces.j0 k l0 l1 a2 a3 a4 t285 true) = some true := by first | (with_reducible rfl) | (rw [if_neg (show ¬ (false = true) by decide)] at H; exact H)
   clear H
   have H := H1
   clear H1
   have H' := Aside0.mk H
   clear H
   go_wp2_with (first | ((with_reducible refine gate_callee (f := 17) rfl ?_); refine goesL_ (some 27) rfl rfl Try.func17 (by kernel_rfl) rfl #[.slice A0 l0.length c0, .slice A1 l1.length c1] rfl (by (try simp only [List.map_toArray, List.map_cons, List.map_nil]); first | done | rfl | (simp only [List.length_drop, List.length_take]; rfl)) ?_; (with_reducible refine (fringelaw41_valid.calls k _ _ l0 _ _ l1 false _ ?side1 ?side2 ?side3 ?side4 A9.out).mono ?_); (case side1 => repeat (first | exact (Kd.C_below HR0.out HB.out) | (with_reducible refine Kd.C_alloc ?_ _) | (with_reducible refine Kd.C_drewN ?_ _) | (with_reducible refine Kd.C_drew ?_))); (case side2 => exact HC0.out); (case side3 => repeat (first | exact (Kd.C_below HR1.out HB.out) | (with_reducible refine Kd.C_alloc ?_ _) | (with_reducible refine Kd.C_drewN ?_ _) | (with_reducible refine Kd.C_drew ?_))); (case side4 => exact HC1.out); rintro e w' ⟨rfl, ⟨nd, rfl⟩⟩; refine ⟨_, rfl, ?_⟩))
   go_meet
   case rel => exact ⟨_, (true), (by first | rfl | (simp; done) | (simp [*]; done)), H', ⟨by first | omega | exact Nat.le_refl _⟩, ⟨by repeat (first | (with_reducible first | exact HB.out | apply below_alloc | apply pw_below_drewN | apply below_drew1) | exact HB.out)⟩⟩
 case rest =>
  as_aux_lemma =>
  clear HC7
  try clear c1
  try clear p2
  try clear c4
  try clear c10
  try clear c11
  try clear c11b0
  try clear c12
  try clear c12b0
  try clear c13
  try clear c13b0
  try clear c14
  try clear c14b0
  try clear c15
  try clear c15b0
  try clear c16
  try clear c16b0
  obtain ⟨kq, x58_6, rfl, HA, HJ6, HB⟩ := hcut
  cases kq with
  | zero => exact absurd HA.out (by simp [fringelaw41_SkyPlaces.j0])
  | succ kj6 =>
   have H := HA.out
   clear HA
   simp only [fringelaw41_SkyPlaces.j0] at H
   by_cases c17 : x58_6 = true
   ·as_aux_lemma =>
    subst c17
    have H1 : (some t285) = some true := by first | (with_reducible rfl) | (rw [if_pos rfl] at H; exact H)
    clear H
    have H := H1
    clear H1
    have hend := Aside0.mk (Option.some.inj H)
    clear H
    go_wp2
    go_ret
    exact ⟨by first | rfl | (rw [hend.out]; done) | (simp only [hend.out]; done) | (simp [*]; first | exact hend.out | exact eq_of_beq hend.out | exact of_decide_eq_true hend.out) | (have h_ := hend.out; simp_all; done) | (simp [*, errW_none, errW_some] <;> rfl), by repeat (first | (with_reducible first | exact HB.out | apply below_alloc | apply pw_below_drewN | apply below_drew1) | exact HB.out)⟩
   ·as_aux_lemma =>
    replace c17 := Bool.eq_false_iff.mpr c17
    subst c17
    have H1 : ((sky_See.f kj6 l0 l1).bind fun bt287 => (if bt287.2 = 0 then ((some (([] : List (S41)) : List (S41))).bind fun y291 => (if y291.length + l0.length < 8796093022208 then ((some (([] : List (S41)) : List (S41))).bind fun y297 => (if y297.length + l0.length < 8796093022208 then (fringelaw41_SkyPlaces.l0 kj6 l0 l1 a2 a3 a4 t285 bt287.1 (y291 ++ l0) (y297 ++ l0) 0) else (none))) else (none))) else (some false))) = some true := by first | (with_reducible rfl) | (rw [if_neg (show ¬ (false = true) by decide)] at H; exact H)
    clear H
    have H := H1
    clear H1
    replace H := Option.bind_eq_some_iff.mp H
    obtain ⟨⟨t287, t288⟩, A180, H⟩ := H
    replace H : (if t288 = 0 then ((some (([] : List (S41)) : List (S41))).bind fun y291 => (if y291.length + l0.length < 8796093022208 then ((some (([] : List (S41)) : List (S41))).bind fun y297 => (if y297.length + l0.length < 8796093022208 then (fringelaw41_SkyPlaces.l0 kj6 l0 l1 a2 a3 a4 t285 t287 (y291 ++ l0) (y297 ++ l0) 0) else (none))) else (none))) else (some false)) = some true := H
    have A18 := Aside0.mk A180
    clear A180
    by_cases c19 : t288 = 0
    ·as_aux_lemma =>
     rw [if_pos c19] at H
     have c19b0 : (t288 == 0) = true := beq_iff_eq.mpr c19
     have c19b1 : (t288 != 0) = false := bne_eq_false_iff_eq.mpr c19
     clear c19
     obtain ⟨y291, hy291⟩ : ∃ y_ : List (S41), y_ = (([] : List (S41))) := ⟨_, rfl⟩
     replace H : (if y291.length + l0.length < 8796093022208 then ((some (([] : List (S41)) : List (S41))).bind fun y297 => (if y297.length + l0.length < 8796093022208 then (fringelaw41_SkyPlaces.l0 kj6 l0 l1 a2 a3 a4 t285 t287 (y291 ++ l0) (y297 ++ l0) 0) else (none))) else (none)) = some true := by first | (rw [hy291]; with_reducible exact H) | (have H2_ := (Option.bind_some _ _).symm.trans H; rw [hy291]; with_reducible exact H2_) | (have H2_ := (Option.bind_some _ _).symm.trans H; with_reducible exact H2_) | with_reducible exact H | (rw [hy291]; exact H) | exact H
     have Ny291 := Aside0.mk hy291
     clear hy291
     by_cases c20 : y291.length + l0.length < 8796093022208
     ·as_aux_lemma =>
      rw [if_pos c20] at H
      have LMc20 := Aside0.mk c20
      clear c20
      obtain ⟨y294, hy294⟩ : ∃ y_ : List (S41), y_ = (y291 ++ l0) := ⟨_, rfl⟩
      replace H : ((some (([] : List (S41)) : List (S41))).bind fun y297 => (if y297.length + l0.length < 8796093022208 then (fringelaw41_SkyPlaces.l0 kj6 l0 l1 a2 a3 a4 t285 t287 y294 (y297 ++ l0) 0) else (none))) = some true := by first | (rw [hy294]; with_reducible exact H) | (have H2_ := (Option.bind_some _ _).symm.trans H; rw [hy294]; with_reducible exact H2_) | (have H2_ := (Option.bind_some _ _).symm.trans H; with_reducible exact H2_) | with_reducible exact H | (rw [hy294]; exact H) | exact H
      have Ny294 := Aside0.mk hy294
      clear hy294
      obtain ⟨y297, hy297⟩ : ∃ y_ : List (S41), y_ = (([] : List (S41))) := ⟨_, rfl⟩
      replace H : (if y297.length + l0.length < 8796093022208 then (fringelaw41_SkyPlaces.l0 kj6 l0 l1 a2 a3 a4 t285 t287 y294 (y297 ++ l0) 0) else (none)) = some true := by first | (rw [hy297]; with_reducible exact H) | (have H2_ := (Option.bind_some _ _).symm.trans H; rw [hy297]; with_reducible exact H2_) | (have H2_ := (Option.bind_some _ _).symm.trans H; with_reducible exact H2_) | with_reducible exact H | (rw [hy297]; exact H) | exact H
      have Ny297 := Aside0.mk hy297
      clear hy297
      by_cases c21 : y297.length + l0.length < 8796093022208
      ·as_aux_lemma =>
       rw [if_pos c21] at H
       have LMc21 := Aside0.mk c21
       clear c21
       obtain ⟨y300, hy300⟩ : ∃ y_ : List (S41), y_ = (y297 ++ l0) := ⟨_, rfl⟩
       replace H : (fringelaw41_SkyPlaces.l0 kj6 l0 l1 a2 a3 a4 t285 t287 y294 y300 0) = some true := by first | (rw [hy300]; with_reducible exact H) | (have H2_ := (Option.bind_some _ _).symm.trans H; rw [hy300]; with_reducible exact H2_) | (have H2_ := (Option.bind_some _ _).symm.trans H; with_reducible exact H2_) | with_reducible exact H | (rw [hy300]; exact H) | exact H
       have Ny300 := Aside0.mk hy300
       clear hy300
       have H' := Aside0.mk H
       clear H
       go_wp2_with (first | ((with_reducible refine gate_callee (f := 18) rfl ?_); refine goesL_ (some 63) rfl rfl Try.func18 (by kernel_rfl) rfl #[.slice A0 l0.length c0, .slice A1 l1.length c1] rfl (by (try simp only [List.map_toArray, List.map_cons, List.map_nil]); first | done | rfl | (simp only [List.length_drop, List.length_take]; rfl)) ?_; (with_reducible refine (sky_See.calls kj6 _ _ l0 _ _ l1 t287 t288 _ ?side1 ?side2 ?side3 ?side4 A18.out).mono ?_); (case side1 => repeat (first | exact (Kd.C_below HR0.out HB.out) | (with_reducible refine Kd.C_alloc ?_ _) | (with_reducible refine Kd.C_drewN ?_ _) | (with_reducible refine Kd.C_drew ?_))); (case side2 => exact HC0.out); (case side3 => repeat (first | exact (Kd.C_below HR1.out HB.out) | (with_reducible refine Kd.C_alloc ?_ _) | (with_reducible refine Kd.C_drewN ?_ _) | (with_reducible refine Kd.C_drew ?_))); (case side4 => exact HC1.out); rintro e w22 ⟨v289, rfl, ho0, hb⟩; refine ⟨_, rfl, ?_⟩; have n0_ := Aside0.mk (Kd.R_lower ho0 (below_size (by repeat (first | (with_reducible first | exact HB.out | apply below_alloc | apply pw_below_drewN | apply below_drew1) | exact HB.out)))); have n1_ := Aside0.mk (below_step (by repeat (first | (with_reducible first | exact HB.out | apply below_alloc | apply pw_below_drewN | apply below_drew1) | exact HB.out)) hb); clear HB; have HO290 := n0_; have HB := n1_; clear n0_ n1_; (try clear hb); (try clear hb2); (try clear hk); (try clear hi); (try clear ho0)) | ((with_reducible refine gate_dst (N := 68) rfl ?_); (try (refine gate_guard (by rfl) ?_; dsimp only)); refine Kd.R_lit k41 _ 41 ?hg (N := 68) ?hd (xs := ([] : List (S41))) (inner := []) (ok := fun _ => True) (okp := fun _ => True) ?hr ?hp (fun _ hk => hk) trivial (Below.refl _ _) (Nat.le_refl _) (by simp) ?_; (case hd => rfl); (case hg => rfl); (case hr => first | (go_simp; done) | (go_simp; rfl)); (case hp => exact (Reps.none _ _)); intro v292 w23 ho24 hb hg_ hnew_; clear hg_ hnew_; (first | rw [← Ny291.out] at ho24 | (simp only [Int.reduceToNat] at ho24; rw [← Ny291.out] at ho24)); have n0_ := Aside0.mk (Kd.R_below (by (with_reducible repeat (first | apply Kd.R_alloc | apply Kd.R_drewN | apply Kd.R_drew)); exact HO290.out) hb); have n1_ := Aside0.mk (Kd.R_lower ho24 (below_size (by repeat (first | (with_reducible first | exact HB.out | apply below_alloc | apply pw_below_drewN | apply below_drew1) | exact HB.out)))); have n2_ := Aside0.mk (below_step (by repeat (first | (with_reducible first | exact HB.out | apply below_alloc | apply pw_below_drewN | apply below_drew1) | exact HB.out)) hb); clear HO290; clear HB; have HO290 := n0_; have HO293 := n1_; have HB := n2_; clear n0_ n1_ n2_; clear hb ho24) | ((with_reducible refine gate_builtin (b := .append) (xs := #[.tmp 68, .tmp 69]) rfl ?_); (try (refine gate_guard (by rfl) ?_; dsimp only)); at_builtin; refine Kd.R_append_rows k41 (w0 := w) w.heap.size rfl (.tmp 68) (.tmp 69) 35 41 (.agg #[(.int .i64 0), (.int .i64 0)]) 16 rfl Try.underlying35 info41 rfl (by decide) (by omega) v292 y291 l0 _ _ _ (fun _ => True) (fun _ => False) rfl rfl ?aO ?aR (fun _ _ h => h) (fun _ h => h.elim) ?aF ?aB ?aS ?aL ?_; (case aR => repeat (first | exact (Kd.C_below HR0.out HB.out) | (with_reducible refine Kd.C_alloc ?_ _) | (with_reducible refine Kd.C_drewN ?_ _) | (with_reducible refine Kd.C_drew ?_))); (case aB => exact (by repeat (first | (with_reducible first | exact HB.out | apply below_alloc | apply pw_below_drewN | apply below_drew1) | exact HB.out))); (case aF => exact (fun _ _ => trivial)); (case aO => exact (by (with_reducible repeat (first | apply Kd.R_alloc | apply Kd.R_drewN | apply Kd.R_drew)); exact HO293.out)); (case aS => exact (below_size (by repeat (first | (with_reducible first | exact HB.out | apply below_alloc | apply pw_below_drewN | apply below_drew1) | exact HB.out)))); (case aL => have := LMc20.out; omega); intro v295 w25 ho hb hg hat; rw [← Ny294.out] at ho; have n0_ := Aside0.mk (Kd.R_over' (by (with_reducible repeat (first | apply Kd.R_alloc | apply Kd.R_drewN | apply Kd.R_drew)); exact HO290.out) (Kd.R_typed (by (with_reducible repeat (first | apply Kd.R_alloc | apply Kd.R_drewN | apply Kd.R_drew)); exact HO293.out)) (by decide) hg); have n1_ := Aside0.mk (hb); have n2_ := Aside0.mk (ho); clear HO290; clear HB; clear HO293; have HO290 := n0_; have HB := n1_; have HO296 := n2_; clear n0_ n1_ n2_; clear ho hb hg hat) | ((with_reducible refine gate_dst (N := 71) rfl ?_); (try (refine gate_guard (by rfl) ?_; dsimp only)); refine Kd.R_lit k41 _ 41 ?hg (N := 71) ?hd (xs := ([] : List (S41))) (inner := []) (ok := fun _ => True) (okp := fun _ => True) ?hr ?hp (fun _ hk => hk) trivial (Below.refl _ _) (Nat.le_refl _) (by simp) ?_; (case hd => rfl); (case hg => rfl); (case hr => first | (go_simp; done) | (go_simp; rfl)); (case hp => exact (Reps.none _ _)); intro v298 w26 ho27 hb hg_ hnew_; clear hg_ hnew_; (first | rw [← Ny297.out] at ho27 | (simp only [Int.reduceToNat] at ho27; rw [← Ny297.out] at ho27)); have n0_ := Aside0.mk (Kd.R_below (by (with_reducible repeat (first | apply Kd.R_alloc | apply Kd.R_drewN | apply Kd.R_drew)); exact HO290.out) hb); have n1_ := Aside0.mk (Kd.R_elder' (by (with_reducible repeat (first | apply Kd.R_alloc | apply Kd.R_drewN | apply Kd.R_drew)); exact HO296.out) (Kd.R_base ho27) hb); have n2_ := Aside0.mk (Kd.R_lower (Kd.R_new' ho27 (Kd.R_lt (by (with_reducible repeat (first | apply Kd.R_alloc | apply Kd.R_drewN | apply Kd.R_drew)); exact HO296.out))) (below_size (by repeat (first | (with_reducible first | exact HB.out | apply below_alloc | apply pw_below_drewN | apply below_drew1) | exact HB.out)))); have n3_ := Aside0.mk (below_step (by repeat (first | (with_reducible first | exact HB.out | apply below_alloc | apply pw_below_drewN | apply below_drew1) | exact HB.out)) hb); clear HO290; clear HO296; clear HB; have HO290 := n0_; have HO296 := n1_; have HO299 := n2_; have HB := n3_; clear n0_ n1_ n2_ n3_; clear hb ho27) | ((with_reducible refine gate_builtin (b := .append) (xs := #[.tmp 71, .tmp 72]) rfl ?_); (try (refine gate_guard (by rfl) ?_; dsimp only)); at_builtin; refine Kd.R_append_rows k41 (w0 := w) w.heap.size rfl (.tmp 71) (.tmp 72) 35 41 (.agg #[(.int .i64 0), (.int .i64 0)]) 16 rfl Try.underlying35 info41 rfl (by decide) (by omega) v298 y297 l0 _ _ _ (fun k_ => some k_ ≠ (v295 : Value).ownBlock) (fun _ => False) rfl rfl ?aO ?aR (fun _ _ h => h) (fun _ h => h.elim) ?aF ?aB ?aS ?aL ?_; (case aR => repeat (first | exact (Kd.C_below HR0.out HB.out) | (with_reducible refine Kd.C_alloc ?_ _) | (with_reducible refine Kd.C_drewN ?_ _) | (with_reducible refine Kd.C_drew ?_))); (case aB => exact (by repeat (first | (with_reducible first | exact HB.out | apply below_alloc | apply pw_below_drewN | apply below_drew1) | exact HB.out))); (case aF => exact (fun k_ hk => Kd.fresh' (Kd.R_lt (by (with_reducible repeat (first | apply Kd.R_alloc | apply Kd.R_drewN | apply Kd.R_drew)); exact HO296.out)) k_ hk)); (case aO => exact (by (with_reducible repeat (first | apply Kd.R_alloc | apply Kd.R_drewN | apply Kd.R_drew)); exact Kd.R_mono HO299.out (fun _ hk => hk.2))); (case aS => exact (below_size (by repeat (first | (with_reducible first | exact HB.out | apply below_alloc | apply pw_below_drewN | apply below_drew1) | exact HB.out)))); (case aL => have := LMc21.out; omega); intro v301 w28 ho hb hg hat; rw [← Ny300.out] at ho; have n0_ := Aside0.mk (Kd.R_over' (by (with_reducible repeat (first | apply Kd.R_alloc | apply Kd.R_drewN | apply Kd.R_drew)); exact HO290.out) (Kd.R_typed (by (with_reducible repeat (first | apply Kd.R_alloc | apply Kd.R_drewN | apply Kd.R_drew)); exact HO299.out)) (by decide) hg); have n1_ := Aside0.mk (Kd.R_after (ok := (fun _ => True)) (by (with_reducible repeat (first | apply Kd.R_alloc | apply Kd.R_drewN | apply Kd.R_drew)); exact HO296.out) hg hat); have n2_ := Aside0.mk (hb); have n3_ := Aside0.mk (ho); clear HO290; clear HO296; clear HB; clear HO299; have HO290 := n0_; have HO296 := n1_; have HB := n2_; have HO302 := n3_; clear n0_ n1_ n2_ n3_; clear ho hb hg hat))
       go_loopg [16] kj6 (fun kq v16 w' => ∃ (x14_2 : List (S41)) (x16_2 : Int), v16 = .int .i64 x16_2 ∧ Aside0 (fringelaw41_SkyPlaces.l0 kq l0 l1 a2 a3 a4 t285 t287 x14_2 y300 x16_2 = some true) ∧ Aside0 (kq ≤ kj6) ∧ Aside0 (Kd.R k47 47 w' w.heap.size (fun _ => True) v289 t287) ∧ Aside0 (Kd.R k41 41 w' w.heap.size (fun k_ => some k_ ≠ (v301 : Value).ownBlock) v295 x14_2) ∧ Aside0 (Kd.R k41 41 w' w.heap.size (fun k_ => some k_ ≠ (v295 : Value).ownBlock) v301 y300) ∧ Aside0 (Below w.heap.size w w'))
       case atStart => exact ⟨(y294), (0), (by first | rfl | (simp; done) | (simp [*]; done)), H', ⟨Nat.le_refl _⟩, ⟨by (with_reducible repeat (first | apply Kd.R_alloc | apply Kd.R_drewN | apply Kd.R_drew)); exact HO290.out⟩, ⟨by (with_reducible repeat (first | apply Kd.R_alloc | apply Kd.R_drewN | apply Kd.R_drew)); exact Kd.R_mono HO296.out (fun _ hk => hk.2)⟩, ⟨by (with_reducible repeat (first | apply Kd.R_alloc | apply Kd.R_drewN | apply Kd.R_drew)); exact HO302.out⟩, ⟨by repeat (first | (with_reducible first | exact HB.out | apply below_alloc | apply pw_below_drewN | apply below_drew1) | exact HB.out)⟩⟩
       case round =>
        as_aux_lemma =>
        clear H'
        try clear c1
        try clear c2
        try clear p2
        try clear c4
        try clear c10
        try clear c11
        try clear c11b0
        try clear c12
        try clear c12b0
        try clear c13
        try clear c13b0
        try clear c14
        try clear c14b0
        try clear c15
        try clear c15b0
        try clear c16
        try clear c16b0
        try clear c17
        try clear c18
        try clear c19
        try clear c19b0
        try clear c19b1
        try clear c20
        try clear c21
        try clear p2
        obtain ⟨x14_2, x16_2, rfl, HA, HK2, HO_12, HO_14, HO_15, HB⟩ := hrel
        cases gk with
        | zero => exact absurd HA.out (by simp [fringelaw41_SkyPlaces.l0])
        | succ k2 =>
         have H := HA.out
         clear HA
         simp only [fringelaw41_SkyPlaces.l0] at H
         by_cases c29 : x16_2 < (l0.length : Int)
         ·as_aux_lemma =>
          rw [if_pos c29] at H
          have c29b0 : decide (x16_2 < (l0.length : Int)) = true := decide_eq_true c29
          clear c29
          by_cases c30 : 0 ≤ x16_2
          ·as_aux_lemma =>
           rw [if_pos c30] at H
           have c30b0 : decide (0 ≤ x16_2) = true := decide_eq_true c30
           clear c30
           by_cases c31 : x16_2 < (x14_2.length : Int)
           ·as_aux_lemma =>
            rw [if_pos c31] at H
            have c31b0 : decide (x16_2 < (x14_2.length : Int)) = true := decide_eq_true c31
            clear c31
            obtain ⟨y305, hy305⟩ : ∃ y_ : List (S41), y_ = (x14_2.set (x16_2 : Int).toNat (⟨wrap64 (((rd_T41 l0 x16_2).f0) + a2), wrap64 (((rd_T41 l0 x16_2).f1) + a3)⟩ : S41)) := ⟨_, rfl⟩
            replace H : (fringelaw41_SkyPlaces.l0 k2 l0 l1 a2 a3 a4 t285 t287 y305 y300 (wrap64 (x16_2 + 1))) = some true := by first | (rw [hy305]; with_reducible exact H) | (have H2_ := (Option.bind_some _ _).symm.trans H; rw [hy305]; with_reducible exact H2_) | (have H2_ := (Option.bind_some _ _).symm.trans H; with_reducible exact H2_) | with_reducible exact H | (rw [hy305]; exact H) | exact H
            have Ny305 := Aside0.mk hy305
            clear hy305
            have H' := Aside0.mk H
            clear H
            try go_wp2
            have n0_ := Aside0.mk (Kd.R_drew HO_12.out)
            have n1_ := Aside0.mk (Kd.R_drew HO_14.out)
            have n2_ := Aside0.mk (Kd.R_drew HO_15.out)
            have n3_ := Aside0.mk (below_drew1 HB.out)
            clear HO_12
            clear HO_14
            clear HO_15
            clear HB
            have HO_12 := n0_
            have HO_14 := n1_
            have HO_15 := n2_
            have HB := n3_
            clear n0_ n1_ n2_ n3_
            have p303 : 0 ≤ (x16_2 : Int) := of_decide_eq_true (by first | (with_reducible assumption) | assumption)
            have q303 : x16_2 < (l0.length : Int) := of_decide_eq_true (by first | (with_reducible assumption) | assumption)
            obtain ⟨ad303, e303, hx303_0, hx303_1⟩ := at_T41 HR0.out x16_2 p303 q303
            have hw303_1 := hx303_1
            have hw303_0 := hx303_0
            cases e303
            replace hx303_0 := (HB.out.cell (World.block_lt_of_cell? w _ hx303_0)).trans hx303_0
            replace hx303_1 := (HB.out.cell (World.block_lt_of_cell? w _ hx303_1)).trans hx303_1
            replace p303 := eq_true p303
            replace q303 := eq_true q303
            have p304 : 0 ≤ (x16_2 : Int) := of_decide_eq_true (by first | (with_reducible assumption) | assumption)
            have q304 : x16_2 < (l0.length : Int) := of_decide_eq_true (by first | (with_reducible assumption) | assumption)
            obtain ⟨ad304, e304, hx304_0, hx304_1⟩ := at_T41 HR0.out x16_2 p304 q304
            have hw304_1 := hx304_1
            have hw304_0 := hx304_0
            obtain rfl : ad303 = ad304 := (by injection e304)
            replace hx304_0 := (HB.out.cell (World.block_lt_of_cell? w _ hx304_0)).trans hx304_0
            replace hx304_1 := (HB.out.cell (World.block_lt_of_cell? w _ hx304_1)).trans hx304_1
            replace p304 := eq_true p304
            replace q304 := eq_true q304
            have p32 : 0 ≤ (x16_2 : Int) := of_decide_eq_true (by first | (with_reducible assumption) | assumption)
            have q32 : (x16_2 : Int) < ((x14_2.length : Int) : Int) := of_decide_eq_true (by first | (with_reducible assumption) | assumption)
            obtain ⟨go32, co32, eo32, gb32, gl32, cl32, HG32⟩ := Kd.R_form HO_14.out (by omega)
            (first | cases eo32 | (injection eo32 with ea_ en_ ec_; (first | subst ea_ | (injection ea_ with ea_; subst ea_)); subst ec_; clear en_))
            have GB32 := Aside0.mk gb32
            have GG32 := Aside0.mk HG32
            clear gb32 gl32 HG32
            obtain ⟨ce32, hcl32, hM32, hcc32, hfr32⟩ := Kd.R_elem HO_14.out z41 (x16_2 : Int) p32 q32
            obtain rfl := k41_openM hM32
            have hx32_0 : World.cell? _ ⟨go32, (x16_2 : Int).toNat * 2, none⟩ = some (.int .i64 ((rd_T41 x14_2 x16_2).f0)) := hcc32 0 _ rfl
            have hx32_1 : World.cell? _ ⟨go32, (x16_2 : Int).toNat * 2 + 1, none⟩ = some (.int .i64 ((rd_T41 x14_2 x16_2).f1)) := hcc32 1 _ rfl
            have hf32_0 : World.frozen? _ ⟨go32, (x16_2 : Int).toNat * 2, none⟩ = false := hfr32 0
            have hf32_1 : World.frozen? _ ⟨go32, (x16_2 : Int).toNat * 2 + 1, none⟩ = false := hfr32 1
            clear hcl32 hcc32 hfr32 hM32
            replace p32 := eq_true p32
            replace q32 := eq_true q32
            obtain ⟨ce34, hcl34, hM34, hcc34, hfr34⟩ := Kd.R_elem HO_14.out z41 (x16_2 : Int) (of_decide_eq_true (by first | (with_reducible assumption) | assumption)) (by have h_ : (x16_2 : Int) < ((x14_2.length : Int) : Int) := of_decide_eq_true (by first | (with_reducible assumption) | assumption); first | exact h_ | (have e_ := (Kd.R_reads' HO_14.out).1; omega) | simpa using h_)
            obtain rfl := k41_openM hM34
            have HP34 := (Kd.R_seg HO_14.out (x16_2 : Int) (of_decide_eq_true (by first | (with_reducible assumption) | assumption)) (by have h_ : (x16_2 : Int) < ((x14_2.length : Int) : Int) := of_decide_eq_true (by first | (with_reducible assumption) | assumption); first | exact h_ | (have e_ := (Kd.R_reads' HO_14.out).1; omega) | simpa using h_) (seg := [.int .i64 (wrap64 (((rd_T41 l0 x16_2).f0) + a2)), .int .i64 (wrap64 (((rd_T41 l0 x16_2).f1) + a3))]) (j := 0) hcl34 hcc34 (show 2 ≤ 2 from by decide) (x' := (⟨wrap64 (((rd_T41 l0 x16_2).f0) + a2), wrap64 (((rd_T41 l0 x16_2).f1) + a3)⟩ : S41)) (k41_mkM _ _ _ (⟨wrap64 (((rd_T41 l0 x16_2).f0) + a2), wrap64 (((rd_T41 l0 x16_2).f1) + a3)⟩ : S41) ) (fun _ hk => hk)).1
            rw [← Ny305.out] at HP34
            have HQ34 := Aside0.mk HP34
            clear hcl34 hcc34 hfr34 hM34 HP34
            refine start_ (n := 19) (S := fun w' => w'.cell? (ad303.add ((x16_2).toNat * 2)) = some (.int .i64 ((rd_T41 l0 x16_2).f0)) ∧ w'.cell? ⟨(ad303.add ((x16_2).toNat * 2)).block, (ad303.add ((x16_2).toNat * 2)).off + 1, none⟩ = some (.int .i64 ((rd_T41 l0 x16_2).f1)) ∧ w'.cell? (ad303.add ((x16_2).toNat * 2)) = some (.int .i64 ((rd_T41 l0 x16_2).f0)) ∧ w'.cell? ⟨(ad303.add ((x16_2).toNat * 2)).block, (ad303.add ((x16_2).toNat * 2)).off + 1, none⟩ = some (.int .i64 ((rd_T41 l0 x16_2).f1))) (ds := [18]) #[false, false, false, false, false, false, false, false, false, false, false, false, false, false, false, false, false, false, false] (by kernel_rfl) rfl rfl ⟨((HB.out.cell (World.block_lt_of_cell? w _ hw303_0)).trans hw303_0), ((HB.out.cell (World.block_lt_of_cell? w _ hw303_1)).trans hw303_1), ((HB.out.cell (World.block_lt_of_cell? w _ hw304_0)).trans hw304_0), ((HB.out.cell (World.block_lt_of_cell? w _ hw304_1)).trans hw304_1)⟩ (fun hHeld => ?_); refine with_tabW fringelaw41_SkyPlaces.tab12 fringelaw41_SkyPlaces.bits12 (fun HT_ HW_ => ?_)
            generalize wr.drew = w33 at HO_12 HO_14 HO_15 HB GG32 HQ34 hf32_0 hf32_1 hx303_0 hx303_1 hx304_0 hx304_1 hx32_0 hx32_1 hHeld ⊢
            refine pure_ (i := 0) (N := some 80) (v := ?_) (a' := ?_) #[true, false, false, false, false, false, false, false, false, false, false, false, false, false, false, false, false, false, false] rfl rfl (any_of HT_.out (by kernel_rfl)) (fun _ _ _ h => h) (Or.inl ⟨by rfl, ?_⟩) ?_ ?_
            rotate_left
            ·as_aux_lemma =>
             intro w'
             go_simp
             with_reducible rfl
            rotate_left
            ·as_aux_lemma =>
             simp only [Act.put, List.setIfInBounds_toArray, List.set_cons_zero, List.set_cons_succ, i64_w, i32_w]
             rfl
            refine pure_ (i := 1) (N := some 81) (v := ?_) (a' := ?_) #[true, true, false, false, false, false, false, false, false, false, false, false, false, false, false, false, false, false, false] rfl rfl (any_of HT_.out (by kernel_rfl)) (fun _ _ _ h => h) (Or.inl ⟨by rfl, ?_⟩) ?_ ?_
            rotate_left
            ·as_aux_lemma =>
             intro w'
             go_simp
             with_reducible rfl
            rotate_left
            ·as_aux_lemma =>
             simp only [Act.put, List.setIfInBounds_toArray, List.set_cons_zero, List.set_cons_succ, i64_w, i32_w]
             rfl
            refine pure_ (i := 2) (N := some 82) (v := ?_) (a' := ?_) #[true, true, true, false, false, false, false, false, false, false, false, false, false, false, false, false, false, false, false] rfl rfl (any_of HT_.out (by kernel_rfl)) (fun _ _ _ h => h) (Or.inl ⟨by rfl, ?_⟩) ?_ ?_
            rotate_left
            ·as_aux_lemma =>
             intro w'
             go_simp
             with_reducible rfl
            rotate_left
            ·as_aux_lemma =>
             simp only [Act.put, List.setIfInBounds_toArray, List.set_cons_zero, List.set_cons_succ, i64_w, i32_w]
             rfl
            refine pure_ (i := 3) (N := some 83) (v := ?_) (a' := ?_) #[true, true, true, true, false, false, false, false, false, false, false, false, false, false, false, false, false, false, false] rfl rfl (any_of HT_.out (by kernel_rfl)) (fun _ _ _ h => h) (Or.inl ⟨by rfl, ?_⟩) ?_ ?_
            rotate_left
            ·as_aux_lemma =>
             intro w'
             go_simp
             with_reducible rfl
            rotate_left
            ·as_aux_lemma =>
             simp only [Act.put, List.setIfInBounds_toArray, List.set_cons_zero, List.set_cons_succ, i64_w, i32_w]
             rfl
            refine pure_ (i := 4) (N := some 84) (v := ?_) (a' := ?_) #[true, true, true, true, true, false, false, false, false, false, false, false, false, false, false, false, false, false, false] rfl rfl (any_of HT_.out (by kernel_rfl)) (fun _ _ _ h => h) (Or.inl ⟨by rfl, ?_⟩) ?_ ?_
            rotate_left
            ·as_aux_lemma =>
             intro w'
             go_simp
             with_reducible rfl
            rotate_left
            ·as_aux_lemma =>
             simp only [Act.put, List.setIfInBounds_toArray, List.set_cons_zero, List.set_cons_succ, i64_w, i32_w]
             rfl
            refine pure_ (i := 5) (N := some 85) (v := ?_) (a' := ?_) #[true, true, true, true, true, true, false, false, false, false, false, false, false, false, false, false, false, false, false] rfl rfl (any_of HT_.out (by kernel_rfl)) (fun _ _ _ h => h) (Or.inl ⟨by rfl, ?_⟩) ?_ ?_
            rotate_left
            ·as_aux_lemma =>
             intro w'
             go_simp
             with_reducible rfl
            rotate_left
            ·as_aux_lemma =>
             simp only [Act.put, List.setIfInBounds_toArray, List.set_cons_zero, List.set_cons_succ, i64_w, i32_w]
             rfl
            refine pure_ (i := 7) (N := some 87) (v := ?_) (a' := ?_) #[true, true, true, true, true, true, false, true, false, false, false, false, false, false, false, false, false, false, false] rfl rfl (any_of HT_.out (by kernel_rfl)) (fun _ _ _ h => h) (Or.inl ⟨by rfl, ?_⟩) ?_ ?_
            rotate_left
            ·as_aux_lemma =>
             intro w'
             go_simp
             with_reducible rfl
            rotate_left
            ·as_aux_lemma =>
             simp only [Act.put, List.setIfInBounds_toArray, List.set_cons_zero, List.set_cons_succ, i64_w, i32_w]
             rfl
            refine pure_ (i := 9) (N := some 89) (v := ?_) (a' := ?_) #[true, true, true, true, true, true, false, true, false, true, false, false, false, false, false, false, false, false, false] rfl rfl (any_of HT_.out (by kernel_rfl)) (fun _ _ _ h => h) (Or.inl ⟨by rfl, ?_⟩) ?_ ?_
            rotate_left
            ·as_aux_lemma =>
             intro w'
             go_simp
             with_reducible rfl
            rotate_left
            ·as_aux_lemma =>
             simp only [Act.put, List.setIfInBounds_toArray, List.set_cons_zero, List.set_cons_succ, i64_w, i32_w]
             rfl
            refine pure_ (i := 10) (N := some 90) (v := ?_) (a' := ?_) #[true, true, true, true, true, true, false, true, false, true, true, false, false, false, false, false, false, false, false] rfl rfl (any_of HT_.out (by kernel_rfl)) (fun _ _ _ h => h) (Or.inl ⟨by rfl, ?_⟩) ?_ ?_
            rotate_left
            ·as_aux_lemma =>
             intro w'
             go_simp
             with_reducible rfl
            rotate_left
            ·as_aux_lemma =>
             simp only [Act.put, List.setIfInBounds_toArray, List.set_cons_zero, List.set_cons_succ, i64_w, i32_w]
             rfl
            refine pure_ (i := 11) (N := some 91) (v := ?_) (a' := ?_) #[true, true, true, true, true, true, false, true, false, true, true, true, false, false, false, false, false, false, false] rfl rfl (any_of HT_.out (by kernel_rfl)) (fun _ _ _ h => h) (Or.inl ⟨by rfl, ?_⟩) ?_ ?_
            rotate_left
            ·as_aux_lemma =>
             intro w'
             go_simp
             with_reducible rfl
            rotate_left
            ·as_aux_lemma =>
             simp only [Act.put, List.setIfInBounds_toArray, List.set_cons_zero, List.set_cons_succ, i64_w, i32_w]
             rfl
            refine pure_ (i := 12) (N := some 92) (v := ?_) (a' := ?_) #[true, true, true, true, true, true, false, true, false, true, true, true, true, false, false, false, false, false, false] rfl rfl (any_of HT_.out (by kernel_rfl)) (fun _ _ _ h => h) (Or.inl ⟨by rfl, ?_⟩) ?_ ?_
            rotate_left
            ·as_aux_lemma =>
             intro w'
             go_simp
             with_reducible rfl
            rotate_left
            ·as_aux_lemma =>
             simp only [Act.put, List.setIfInBounds_toArray, List.set_cons_zero, List.set_cons_succ, i64_w, i32_w]
             rfl
            refine pure_ (i := 14) (N := some 94) (v := ?_) (a' := ?_) #[true, true, true, true, true, true, false, true, false, true, true, true, true, false, true, false, false, false, false] rfl rfl (any_of HT_.out (by kernel_rfl)) (fun _ _ _ h => h) (Or.inl ⟨by rfl, ?_⟩) ?_ ?_
            rotate_left
            ·as_aux_lemma =>
             intro w'
             go_simp
             with_reducible rfl
            rotate_left
            ·as_aux_lemma =>
             simp only [Act.put, List.setIfInBounds_toArray, List.set_cons_zero, List.set_cons_succ, i64_w, i32_w]
             rfl
            refine take_ (i := 6) (N := some 86) (v := ?_) (a' := ?_) #[true, true, true, true, true, true, true, true, false, true, true, true, true, false, true, false, false, false, false] rfl rfl (take_ofW HT_.out HW_.out (by kernel_rfl)) (fun _ _ _ h => h) (Or.inl ⟨by rfl, ?_⟩) hHeld ?_ ?_
            rotate_left
            ·as_aux_lemma =>
             rintro w' ⟨s0, s1, s2, s3⟩
             go_simp
             with_reducible rfl
            rotate_left
            ·as_aux_lemma =>
             simp only [Act.put, List.setIfInBounds_toArray, List.set_cons_zero, List.set_cons_succ, i64_w, i32_w]
             rfl
            refine pure_ (i := 8) (N := some 88) (v := ?_) (a' := ?_) #[true, true, true, true, true, true, true, true, true, true, true, true, true, false, true, false, false, false, false] rfl rfl (any_of HT_.out (by kernel_rfl)) (fun _ _ _ h => h) (Or.inl ⟨by rfl, ?_⟩) ?_ ?_
            rotate_left
            ·as_aux_lemma =>
             intro w'
             go_simp
             with_reducible rfl
            rotate_left
            ·as_aux_lemma =>
             simp only [Act.put, List.setIfInBounds_toArray, List.set_cons_zero, List.set_cons_succ, i64_w, i32_w]
             rfl
            refine take_ (i := 13) (N := some 93) (v := ?_) (a' := ?_) #[true, true, true, true, true, true, true, true, true, true, true, true, true, true, true, false, false, false, false] rfl rfl (take_ofW HT_.out HW_.out (by kernel_rfl)) (fun _ _ _ h => h) (Or.inl ⟨by rfl, ?_⟩) hHeld ?_ ?_
            rotate_left
            ·as_aux_lemma =>
             rintro w' ⟨s0, s1, s2, s3⟩
             go_simp
             with_reducible rfl
            rotate_left
            ·as_aux_lemma =>
             simp only [Act.put, List.setIfInBounds_toArray, List.set_cons_zero, List.set_cons_succ, i64_w, i32_w]
             rfl
            refine pure_ (i := 15) (N := some 95) (v := ?_) (a' := ?_) #[true, true, true, true, true, true, true, true, true, true, true, true, true, true, true, true, false, false, false] rfl rfl (any_of HT_.out (by kernel_rfl)) (fun _ _ _ h => h) (Or.inl ⟨by rfl, ?_⟩) ?_ ?_
            rotate_left
            ·as_aux_lemma =>
             intro w'
             go_simp
             with_reducible rfl
            rotate_left
            ·as_aux_lemma =>
             simp only [Act.put, List.setIfInBounds_toArray, List.set_cons_zero, List.set_cons_succ, i64_w, i32_w]
             rfl
            refine pure_ (i := 16) (N := some 96) (v := ?_) (a' := ?_) #[true, true, true, true, true, true, true, true, true, true, true, true, true, true, true, true, true, false, false] rfl rfl (any_of HT_.out (by kernel_rfl)) (fun _ _ _ h => h) (Or.inl ⟨by rfl, ?_⟩) ?_ ?_
            rotate_left
            ·as_aux_lemma =>
             intro w'
             go_simp
             with_reducible rfl
            rotate_left
            ·as_aux_lemma =>
             simp only [Act.put, List.setIfInBounds_toArray, List.set_cons_zero, List.set_cons_succ, i64_w, i32_w]
             rfl
            refine pure_ (i := 17) (N := some 97) (v := ?_) (a' := ?_) #[true, true, true, true, true, true, true, true, true, true, true, true, true, true, true, true, true, true, false] rfl rfl (any_of HT_.out (by kernel_rfl)) (fun _ _ _ h => h) (Or.inl ⟨by rfl, ?_⟩) ?_ ?_
            rotate_left
            ·as_aux_lemma =>
             intro w'
             go_simp
             with_reducible rfl
            rotate_left
            ·as_aux_lemma =>
             simp only [Act.put, List.setIfInBounds_toArray, List.set_cons_zero, List.set_cons_succ, i64_w, i32_w]
             rfl
            refine last_ (i := 18) (N := none) #[true, true, true, true, true, true, true, true, true, true, true, true, true, true, true, true, true, true, true] rfl rfl (one_of HT_.out (by kernel_rfl)) (by decide) (fun K hK => ?_)
            refine skip_ (w1 := ?_) (by rfl) rfl ?_ ?_
            rotate_left
            ·as_aux_lemma =>
             go_simp
             rfl
            refine hK.out _ _ ?_
            clear hK K
            refine done_ (done_of HT_.out (by kernel_rfl)) ?_
            try go_wp2
            go_roundg k2
            case measure => have := HJ6.out; have := HK2.out; omega
            case rel => exact ⟨(y305), (wrap64 (x16_2 + 1)), (by first | rfl | (simp; done) | (simp [*]; done)), H', ⟨by have := HJ6.out; have := HK2.out; omega⟩, ⟨by (with_reducible repeat (first | apply Kd.R_alloc | apply Kd.R_drewN | apply Kd.R_drew)); exact Kd.R_mono (Kd.R_far (p := ⟨go32, (x16_2 : Int).toNat * 2 + 1, none⟩) (Kd.R_far (p := ⟨go32, (x16_2 : Int).toNat * 2, none⟩) (Kd.R_types HO_12.out GG32.out (by decide)) (fun _ hk => hk.2) (.int .i64 (wrap64 (((rd_T41 l0 x16_2).f0) + a2)))) (fun _ hk => hk.2) (.int .i64 (wrap64 (((rd_T41 l0 x16_2).f1) + a3)))) (fun _ hk => trivial)⟩, ⟨by (with_reducible repeat (first | apply Kd.R_alloc | apply Kd.R_drewN | apply Kd.R_drew)); exact HQ34.out⟩, ⟨by (with_reducible repeat (first | apply Kd.R_alloc | apply Kd.R_drewN | apply Kd.R_drew)); exact Kd.R_mono (Kd.R_far (p := ⟨go32, (x16_2 : Int).toNat * 2 + 1, none⟩) (Kd.R_far (p := ⟨go32, (x16_2 : Int).toNat * 2, none⟩) (Kd.R_mono HO_15.out (fun k_ hk => (⟨hk, fun e_ => hk (by rw [e_]; rfl)⟩ : _ ∧ k_ ≠ go32))) (fun _ hk => hk.2) (.int .i64 (wrap64 (((rd_T41 l0 x16_2).f0) + a2)))) (fun _ hk => hk.2) (.int .i64 (wrap64 (((rd_T41 l0 x16_2).f1) + a3)))) (fun _ hk => hk.1)⟩, ⟨by repeat (first | (with_reducible first | exact HB.out | apply below_alloc | apply pw_below_drewN | apply below_drew1 | refine below_set ?_ GB32.out | refine below_set ?_ GB32.out) | exact HB.out)⟩⟩
           ·as_aux_lemma =>
            rw [if_neg c31] at H
            exact absurd H (by simp)
          ·as_aux_lemma =>
           rw [if_neg c30] at H
           exact absurd H (by simp)
         ·as_aux_lemma =>
          rw [if_neg c29] at H
          have c29b0 : decide (x16_2 < (l0.length : Int)) = false := decide_eq_false c29
          clear c29
          by_cases c35 : 0 ≤ a4
          ·as_aux_lemma =>
           rw [if_pos c35] at H
           have c35b0 : decide (0 ≤ a4) = true := decide_eq_true c35
           clear c35
           by_cases c36 : a4 < (l0.length : Int)
           ·as_aux_lemma =>
            rw [if_pos c36] at H
            have c36b0 : decide (a4 < (l0.length : Int)) = true := decide_eq_true c36
            clear c36
            by_cases c37 : a4 < (y300.length : Int)
            ·as_aux_lemma =>
             rw [if_pos c37] at H
             have c37b0 : decide (a4 < (y300.length : Int)) = true := decide_eq_true c37
             clear c37
             obtain ⟨y308, hy308⟩ : ∃ y_ : List (S41), y_ = (y300.set (a4 : Int).toNat (⟨wrap64 (((rd_T41 l0 a4).f0) + (wrap64 (4 * a2))), wrap64 (((rd_T41 l0 a4).f1) - (wrap64 (4 * a3)))⟩ : S41)) := ⟨_, rfl⟩
             replace H : ((fringeref41_Places.f k2 x14_2).bind fun t309 => (if t309 = 0 then ((sky_See.f k2 x14_2 l1).bind fun bt310 => (if bt310.2 = 0 then ((fringeref41_SameVis.f k2 t287 bt310.1).bind fun t314 => (if t314 = true then (fringelaw41_SkyPlaces.j2 k2 l0 l1 t285 t287 y308) else (some false))) else (some false))) else (fringelaw41_SkyPlaces.j2 k2 l0 l1 t285 t287 y308))) = some true := by first | (rw [hy308]; with_reducible exact H) | (have H2_ := (Option.bind_some _ _).symm.trans H; rw [hy308]; with_reducible exact H2_) | (have H2_ := (Option.bind_some _ _).symm.trans H; with_reducible exact H2_) | with_reducible exact H | (rw [hy308]; exact H) | exact H
             have Ny308 := Aside0.mk hy308
             clear hy308
             replace H := Option.bind_eq_some_iff.mp H
             obtain ⟨t309, A390, H⟩ := H
             replace H : (if t309 = 0 then ((sky_See.f k2 x14_2 l1).bind fun bt310 => (if bt310.2 = 0 then ((fringeref41_SameVis.f k2 t287 bt310.1).bind fun t314 => (if t314 = true then (fringelaw41_SkyPlaces.j2 k2 l0 l1 t285 t287 y308) else (some false))) else (some false))) else (fringelaw41_SkyPlaces.j2 k2 l0 l1 t285 t287 y308)) = some true := H
             have A39 := Aside0.mk A390
             clear A390
             have HC40 := Aside0.mk H
             clear H
             try go_wp2
             have n0_ := Aside0.mk (Kd.R_drew HO_12.out)
             have n1_ := Aside0.mk (Kd.R_drew HO_14.out)
             have n2_ := Aside0.mk (Kd.R_drew HO_15.out)
             have n3_ := Aside0.mk (below_drew1 HB.out)
             clear HO_12
             clear HO_14
             clear HO_15
             clear HB
             have HO_12 := n0_
             have HO_14 := n1_
             have HO_15 := n2_
             have HB := n3_
             clear n0_ n1_ n2_ n3_
             have p306 : 0 ≤ (a4 : Int) := of_decide_eq_true (by first | (with_reducible assumption) | assumption)
             have q306 : a4 < (l0.length : Int) := of_decide_eq_true (by first | (with_reducible assumption) | assumption)
             obtain ⟨ad306, e306, hx306_0, hx306_1⟩ := at_T41 HR0.out a4 p306 q306
             have hw306_1 := hx306_1
             have hw306_0 := hx306_0
             cases e306
             replace hx306_0 := (HB.out.cell (World.block_lt_of_cell? w _ hx306_0)).trans hx306_0
             replace hx306_1 := (HB.out.cell (World.block_lt_of_cell? w _ hx306_1)).trans hx306_1
             replace p306 := eq_true p306
             replace q306 := eq_true q306
             have p307 : 0 ≤ (a4 : Int) := of_decide_eq_true (by first | (with_reducible assumption) | assumption)
             have q307 : a4 < (l0.length : Int) := of_decide_eq_true (by first | (with_reducible assumption) | assumption)
             obtain ⟨ad307, e307, hx307_0, hx307_1⟩ := at_T41 HR0.out a4 p307 q307
             have hw307_1 := hx307_1
             have hw307_0 := hx307_0
             obtain rfl : ad306 = ad307 := (by injection e307)
             replace hx307_0 := (HB.out.cell (World.block_lt_of_cell? w _ hx307_0)).trans hx307_0
             replace hx307_1 := (HB.out.cell (World.block_lt_of_cell? w _ hx307_1)).trans hx307_1
             replace p307 := eq_true p307
             replace q307 := eq_true q307
             have p38 : 0 ≤ (a4 : Int) := of_decide_eq_true (by first | (with_reducible assumption) | assumption)
             have q38 : (a4 : Int) < ((y300.length : Int) : Int) := of_decide_eq_true (by first | (with_reducible assumption) | assumption)
             obtain ⟨go38, co38, eo38, gb38, gl38, cl38, HG38⟩ := Kd.R_form HO_15.out (by omega)
             (first | cases eo38 | (injection eo38 with ea_ en_ ec_; (first | subst ea_ | (injection ea_ with ea_; subst ea_)); subst ec_; clear en_))
             have GB38 := Aside0.mk gb38
             have GG38 := Aside0.mk HG38
             clear gb38 gl38 HG38
             obtain ⟨ce38, hcl38, hM38, hcc38, hfr38⟩ := Kd.R_elem HO_15.out z41 (a4 : Int) p38 q38
             obtain rfl := k41_openM hM38
             have hx38_0 : World.cell? _ ⟨go38, (a4 : Int).toNat * 2, none⟩ = some (.int .i64 ((rd_T41 y300 a4).f0)) := hcc38 0 _ rfl
             have hx38_1 : World.cell? _ ⟨go38, (a4 : Int).toNat * 2 + 1, none⟩ = some (.int .i64 ((rd_T41 y300 a4).f1)) := hcc38 1 _ rfl
             have hf38_0 : World.frozen? _ ⟨go38, (a4 : Int).toNat * 2, none⟩ = false := hfr38 0
             have hf38_1 : World.frozen? _ ⟨go38, (a4 : Int).toNat * 2 + 1, none⟩ = false := hfr38 1
             clear hcl38 hcc38 hfr38 hM38
             replace p38 := eq_true p38
             replace q38 := eq_true q38
             obtain ⟨ce42, hcl42, hM42, hcc42, hfr42⟩ := Kd.R_elem HO_15.out z41 (a4 : Int) (of_decide_eq_true (by first | (with_reducible assumption) | assumption)) (by have h_ : (a4 : Int) < ((y300.length : Int) : Int) := of_decide_eq_true (by first | (with_reducible assumption) | assumption); first | exact h_ | (have e_ := (Kd.R_reads' HO_15.out).1; omega) | simpa using h_)
             obtain rfl := k41_openM hM42
             have HP42 := (Kd.R_seg HO_15.out (a4 : Int) (of_decide_eq_true (by first | (with_reducible assumption) | assumption)) (by have h_ : (a4 : Int) < ((y300.length : Int) : Int) := of_decide_eq_true (by first | (with_reducible assumption) | assumption); first | exact h_ | (have e_ := (Kd.R_reads' HO_15.out).1; omega) | simpa using h_) (seg := [.int .i64 (wrap64 (((rd_T41 l0 a4).f0) + (wrap64 (4 * a2)))), .int .i64 (wrap64 (((rd_T41 l0 a4).f1) - (wrap64 (4 * a3))))]) (j := 0) hcl42 hcc42 (show 2 ≤ 2 from by decide) (x' := (⟨wrap64 (((rd_T41 l0 a4).f0) + (wrap64 (4 * a2))), wrap64 (((rd_T41 l0 a4).f1) - (wrap64 (4 * a3)))⟩ : S41)) (k41_mkM _ _ _ (⟨wrap64 (((rd_T41 l0 a4).f0) + (wrap64 (4 * a2))), wrap64 (((rd_T41 l0 a4).f1) - (wrap64 (4 * a3)))⟩ : S41) ) (fun _ hk => hk)).1
             rw [← Ny308.out] at HP42
             have HQ42 := Aside0.mk HP42
             clear hcl42 hcc42 hfr42 hM42 HP42
             refine start_ (n := 21) (S := fun w' => w'.cell? (ad306.add ((a4).toNat * 2)) = some (.int .i64 ((rd_T41 l0 a4).f0)) ∧ w'.cell? ⟨(ad306.add ((a4).toNat * 2)).block, (ad306.add ((a4).toNat * 2)).off + 1, none⟩ = some (.int .i64 ((rd_T41 l0 a4).f1)) ∧ w'.cell? (ad306.add ((a4).toNat * 2)) = some (.int .i64 ((rd_T41 l0 a4).f0)) ∧ w'.cell? ⟨(ad306.add ((a4).toNat * 2)).block, (ad306.add ((a4).toNat * 2)).off + 1, none⟩ = some (.int .i64 ((rd_T41 l0 a4).f1))) (ds := [20]) #[false, false, false, false, false, false, false, false, false, false, false, false, false, false, false, false, false, false, false, false, false] (by kernel_rfl) rfl rfl ⟨((HB.out.cell (World.block_lt_of_cell? w _ hw306_0)).trans hw306_0), ((HB.out.cell (World.block_lt_of_cell? w _ hw306_1)).trans hw306_1), ((HB.out.cell (World.block_lt_of_cell? w _ hw307_0)).trans hw307_0), ((HB.out.cell (World.block_lt_of_cell? w _ hw307_1)).trans hw307_1)⟩ (fun hHeld => ?_); refine with_tabW fringelaw41_SkyPlaces.tab13 fringelaw41_SkyPlaces.bits13 (fun HT_ HW_ => ?_)
             generalize wr.drew = w41 at HO_12 HO_14 HO_15 HB GG38 HQ42 hf38_0 hf38_1 hx306_0 hx306_1 hx307_0 hx307_1 hx38_0 hx38_1 hHeld ⊢
             refine pure_ (i := 0) (N := some 98) (v := ?_) (a' := ?_) #[true, false, false, false, false, false, false, false, false, false, false, false, false, false, false, false, false, false, false, false, false] rfl rfl (any_of HT_.out (by kernel_rfl)) (fun _ _ _ h => h) (Or.inl ⟨by rfl, ?_⟩) ?_ ?_
             rotate_left
             ·as_aux_lemma =>
              intro w'
              go_simp
              with_reducible rfl
             rotate_left
             ·as_aux_lemma =>
              simp only [Act.put, List.setIfInBounds_toArray, List.set_cons_zero, List.set_cons_succ, i64_w, i32_w]
              rfl
             refine pure_ (i := 1) (N := some 99) (v := ?_) (a' := ?_) #[true, true, false, false, false, false, false, false, false, false, false, false, false, false, false, false, false, false, false, false, false] rfl rfl (any_of HT_.out (by kernel_rfl)) (fun _ _ _ h => h) (Or.inl ⟨by rfl, ?_⟩) ?_ ?_
             rotate_left
             ·as_aux_lemma =>
              intro w'
              go_simp
              with_reducible rfl
             rotate_left
             ·as_aux_lemma =>
              simp only [Act.put, List.setIfInBounds_toArray, List.set_cons_zero, List.set_cons_succ, i64_w, i32_w]
              rfl
             refine pure_ (i := 2) (N := some 100) (v := ?_) (a' := ?_) #[true, true, true, false, false, false, false, false, false, false, false, false, false, false, false, false, false, false, false, false, false] rfl rfl (any_of HT_.out (by kernel_rfl)) (fun _ _ _ h => h) (Or.inl ⟨by rfl, ?_⟩) ?_ ?_
             rotate_left
             ·as_aux_lemma =>
              intro w'
              go_simp
              with_reducible rfl
             rotate_left
             ·as_aux_lemma =>
              simp only [Act.put, List.setIfInBounds_toArray, List.set_cons_zero, List.set_cons_succ, i64_w, i32_w]
              rfl
             refine pure_ (i := 3) (N := some 101) (v := ?_) (a' := ?_) #[true, true, true, true, false, false, false, false, false, false, false, false, false, false, false, false, false, false, false, false, false] rfl rfl (any_of HT_.out (by kernel_rfl)) (fun _ _ _ h => h) (Or.inl ⟨by rfl, ?_⟩) ?_ ?_
             rotate_left
             ·as_aux_lemma =>
              intro w'
              go_simp
              with_reducible rfl
             rotate_left
             ·as_aux_lemma =>
              simp only [Act.put, List.setIfInBounds_toArray, List.set_cons_zero, List.set_cons_succ, i64_w, i32_w]
              rfl
             refine pure_ (i := 4) (N := some 102) (v := ?_) (a' := ?_) #[true, true, true, true, true, false, false, false, false, false, false, false, false, false, false, false, false, false, false, false, false] rfl rfl (any_of HT_.out (by kernel_rfl)) (fun _ _ _ h => h) (Or.inl ⟨by rfl, ?_⟩) ?_ ?_
             rotate_left
             ·as_aux_lemma =>
              intro w'
              go_simp
              with_reducible rfl
             rotate_left
             ·as_aux_lemma =>
              simp only [Act.put, List.setIfInBounds_toArray, List.set_cons_zero, List.set_cons_succ, i64_w, i32_w]
              rfl
             refine pure_ (i := 5) (N := some 103) (v := ?_) (a' := ?_) #[true, true, true, true, true, true, false, false, false, false, false, false, false, false, false, false, false, false, false, false, false] rfl rfl (any_of HT_.out (by kernel_rfl)) (fun _ _ _ h => h) (Or.inl ⟨by rfl, ?_⟩) ?_ ?_
             rotate_left
             ·as_aux_lemma =>
              intro w'
              go_simp
              with_reducible rfl
             rotate_left
             ·as_aux_lemma =>
              simp only [Act.put, List.setIfInBounds_toArray, List.set_cons_zero, List.set_cons_succ, i64_w, i32_w]
              rfl
             refine pure_ (i := 7) (N := some 105) (v := ?_) (a' := ?_) #[true, true, true, true, true, true, false, true, false, false, false, false, false, false, false, false, false, false, false, false, false] rfl rfl (any_of HT_.out (by kernel_rfl)) (fun _ _ _ h => h) (Or.inl ⟨by rfl, ?_⟩) ?_ ?_
             rotate_left
             ·as_aux_lemma =>
              intro w'
              go_simp
              with_reducible rfl
             rotate_left
             ·as_aux_lemma =>
              simp only [Act.put, List.setIfInBounds_toArray, List.set_cons_zero, List.set_cons_succ, i64_w, i32_w]
              rfl
             refine pure_ (i := 8) (N := some 106) (v := ?_) (a' := ?_) #[true, true, true, true, true, true, false, true, true, false, false, false, false, false, false, false, false, false, false, false, false] rfl rfl (any_of HT_.out (by kernel_rfl)) (fun _ _ _ h => h) (Or.inl ⟨by rfl, ?_⟩) ?_ ?_
             rotate_left
             ·as_aux_lemma =>
              intro w'
              go_simp
              with_reducible rfl
             rotate_left
             ·as_aux_lemma =>
              simp only [Act.put, List.setIfInBounds_toArray, List.set_cons_zero, List.set_cons_succ, i64_w, i32_w]
              rfl
             refine pure_ (i := 10) (N := some 108) (v := ?_) (a' := ?_) #[true, true, true, true, true, true, false, true, true, false, true, false, false, false, false, false, false, false, false, false, false] rfl rfl (any_of HT_.out (by kernel_rfl)) (fun _ _ _ h => h) (Or.inl ⟨by rfl, ?_⟩) ?_ ?_
             rotate_left
             ·as_aux_lemma =>
              intro w'
              go_simp
              with_reducible rfl
             rotate_left
             ·as_aux_lemma =>
              simp only [Act.put, List.setIfInBounds_toArray, List.set_cons_zero, List.set_cons_succ, i64_w, i32_w]
              rfl
             refine pure_ (i := 11) (N := some 109) (v := ?_) (a' := ?_) #[true, true, true, true, true, true, false, true, true, false, true, true, false, false, false, false, false, false, false, false, false] rfl rfl (any_of HT_.out (by kernel_rfl)) (fun _ _ _ h => h) (Or.inl ⟨by rfl, ?_⟩) ?_ ?_
             rotate_left
             ·as_aux_lemma =>
              intro w'
              go_simp
              with_reducible rfl
             rotate_left
             ·as_aux_lemma =>
              simp only [Act.put, List.setIfInBounds_toArray, List.set_cons_zero, List.set_cons_succ, i64_w, i32_w]
              rfl
             refine pure_ (i := 12) (N := some 110) (v := ?_) (a' := ?_) #[true, true, true, true, true, true, false, true, true, false, true, true, true, false, false, false, false, false, false, false, false] rfl rfl (any_of HT_.out (by kernel_rfl)) (fun _ _ _ h => h) (Or.inl ⟨by rfl, ?_⟩) ?_ ?_
             rotate_left
             ·as_aux_lemma =>
              intro w'
              go_simp
              with_reducible rfl
             rotate_left
             ·as_aux_lemma =>
              simp only [Act.put, List.setIfInBounds_toArray, List.set_cons_zero, List.set_cons_succ, i64_w, i32_w]
              rfl
             refine pure_ (i := 13) (N := some 111) (v := ?_) (a' := ?_) #[true, true, true, true, true, true, false, true, true, false, true, true, true, true, false, false, false, false, false, false, false] rfl rfl (any_of HT_.out (by kernel_rfl)) (fun _ _ _ h => h) (Or.inl ⟨by rfl, ?_⟩) ?_ ?_
             rotate_left
             ·as_aux_lemma =>
              intro w'
              go_simp
              with_reducible rfl
             rotate_left
             ·as_aux_lemma =>
              simp only [Act.put, List.setIfInBounds_toArray, List.set_cons_zero, List.set_cons_succ, i64_w, i32_w]
              rfl
             refine pure_ (i := 15) (N := some 113) (v := ?_) (a' := ?_) #[true, true, true, true, true, true, false, true, true, false, true, true, true, true, false, true, false, false, false, false, false] rfl rfl (any_of HT_.out (by kernel_rfl)) (fun _ _ _ h => h) (Or.inl ⟨by rfl, ?_⟩) ?_ ?_
             rotate_left
             ·as_aux_lemma =>
              intro w'
              go_simp
              with_reducible rfl
             rotate_left
             ·as_aux_lemma =>
              simp only [Act.put, List.setIfInBounds_toArray, List.set_cons_zero, List.set_cons_succ, i64_w, i32_w]
              rfl
             refine pure_ (i := 16) (N := some 114) (v := ?_) (a' := ?_) #[true, true, true, true, true, true, false, true, true, false, true, true, true, true, false, true, true, false, false, false, false] rfl rfl (any_of HT_.out (by kernel_rfl)) (fun _ _ _ h => h) (Or.inl ⟨by rfl, ?_⟩) ?_ ?_
             rotate_left
             ·as_aux_lemma =>
              intro w'
              go_simp
              with_reducible rfl
             rotate_left
             ·as_aux_lemma =>
              simp only [Act.put, List.setIfInBounds_toArray, List.set_cons_zero, List.set_cons_succ, i64_w, i32_w]
              rfl
             refine take_ (i := 6) (N := some 104) (v := ?_) (a' := ?_) #[true, true, true, true, true, true, true, true, true, false, true, true, true, true, false, true, true, false, false, false, false] rfl rfl (take_ofW HT_.out HW_.out (by kernel_rfl)) (fun _ _ _ h => h) (Or.inl ⟨by rfl, ?_⟩) hHeld ?_ ?_
             rotate_left
             ·as_aux_lemma =>
              rintro w' ⟨s0, s1, s2, s3⟩
              go_simp
              with_reducible rfl
             rotate_left
             ·as_aux_lemma =>
              simp only [Act.put, List.setIfInBounds_toArray, List.set_cons_zero, List.set_cons_succ, i64_w, i32_w]
              rfl
             refine pure_ (i := 9) (N := some 107) (v := ?_) (a' := ?_) #[true, true, true, true, true, true, true, true, true, true, true, true, true, true, false, true, true, false, false, false, false] rfl rfl (any_of HT_.out (by kernel_rfl)) (fun _ _ _ h => h) (Or.inl ⟨by rfl, ?_⟩) ?_ ?_
             rotate_left
             ·as_aux_lemma =>
              intro w'
              go_simp
              with_reducible rfl
             rotate_left
             ·as_aux_lemma =>
              simp only [Act.put, List.setIfInBounds_toArray, List.set_cons_zero, List.set_cons_succ, i64_w, i32_w]
              rfl
             refine take_ (i := 14) (N := some 112) (v := ?_) (a' := ?_) #[true, true, true, true, true, true, true, true, true, true, true, true, true, true, true, true, true, false, false, false, false] rfl rfl (take_ofW HT_.out HW_.out (by kernel_rfl)) (fun _ _ _ h => h) (Or.inl ⟨by rfl, ?_⟩) hHeld ?_ ?_
             rotate_left
             ·as_aux_lemma =>
              rintro w' ⟨s0, s1, s2, s3⟩
              go_simp
              with_reducible rfl
             rotate_left
             ·as_aux_lemma =>
              simp only [Act.put, List.setIfInBounds_toArray, List.set_cons_zero, List.set_cons_succ, i64_w, i32_w]
              rfl
             refine pure_ (i := 17) (N := some 115) (v := ?_) (a' := ?_) #[true, true, true, true, true, true, true, true, true, true, true, true, true, true, true, true, true, true, false, false, false] rfl rfl (any_of HT_.out (by kernel_rfl)) (fun _ _ _ h => h) (Or.inl ⟨by rfl, ?_⟩) ?_ ?_
             rotate_left
             ·as_aux_lemma =>
              intro w'
              go_simp
              with_reducible rfl
             rotate_left
             ·as_aux_lemma =>
              simp only [Act.put, List.setIfInBounds_toArray, List.set_cons_zero, List.set_cons_succ, i64_w, i32_w]
              rfl
             refine pure_ (i := 18) (N := some 116) (v := ?_) (a' := ?_) #[true, true, true, true, true, true, true, true, true, true, true, true, true, true, true, true, true, true, true, false, false] rfl rfl (any_of HT_.out (by kernel_rfl)) (fun _ _ _ h => h) (Or.inl ⟨by rfl, ?_⟩) ?_ ?_
             rotate_left
             ·as_aux_lemma =>
              intro w'
              go_simp
              with_reducible rfl
             rotate_left
             ·as_aux_lemma =>
              simp only [Act.put, List.setIfInBounds_toArray, List.set_cons_zero, List.set_cons_succ, i64_w, i32_w]
              rfl
             refine pure_ (i := 19) (N := some 117) (v := ?_) (a' := ?_) #[true, true, true, true, true, true, true, true, true, true, true, true, true, true, true, true, true, true, true, true, false] rfl rfl (any_of HT_.out (by kernel_rfl)) (fun _ _ _ h => h) (Or.inl ⟨by rfl, ?_⟩) ?_ ?_
             rotate_left
             ·as_aux_lemma =>
              intro w'
              go_simp
              with_reducible rfl
             rotate_left
             ·as_aux_lemma =>
              simp only [Act.put, List.setIfInBounds_toArray, List.set_cons_zero, List.set_cons_succ, i64_w, i32_w]
              rfl
             refine last_ (i := 20) (N := none) #[true, true, true, true, true, true, true, true, true, true, true, true, true, true, true, true, true, true, true, true, true] rfl rfl (one_of HT_.out (by kernel_rfl)) (by decide) (fun K hK => ?_)
             refine skip_ (w1 := ?_) (by rfl) rfl ?_ ?_
             rotate_left
             ·as_aux_lemma =>
              go_simp
              rfl
             refine hK.out _ _ ?_
             clear hK K
             refine done_ (done_of HT_.out (by kernel_rfl)) ?_
             obtain ⟨Ao43, co43, eo43⟩ := Kd.R_slice HO_14.out
             subst eo43
             go_upto_if 120 with (first | ((with_reducible refine gate_callee (f := 19) rfl ?_); refine goesL_ (some 119) rfl rfl Try.func19 (by kernel_rfl) rfl #[.slice Ao43 x14_2.length co43] rfl (by (try simp only [List.map_toArray, List.map_cons, List.map_nil]); first | done | rfl | (simp only [List.length_drop, List.length_take]; rfl)) ?_; (with_reducible refine (fringeref41_Places.calls k2 _ _ x14_2 t309 _ ?side1 ?side2 A39.out).mono ?_); (case side1 => refine (Kd.R_reads' (e := 41) (base := w.heap.size) (ok := fun k_ => some k_ ≠ (.slice (some ⟨go38, 0, none⟩) y300.length co38 : Value).ownBlock) (n := x14_2.length) (c := co43) ?_).2.2; exact (by (with_reducible repeat (first | apply Kd.R_alloc | apply Kd.R_drewN | apply Kd.R_drew)); exact (Kd.R_mono (Kd.R_far (p := ⟨go38, (a4 : Int).toNat * 2 + 1, none⟩) (Kd.R_far (p := ⟨go38, (a4 : Int).toNat * 2, none⟩) (Kd.R_mono HO_14.out (fun k_ hk => (⟨hk, fun e_ => hk (by rw [e_]; rfl)⟩ : _ ∧ k_ ≠ go38))) (fun _ hk => hk.2) (.int .i64 (wrap64 (((rd_T41 l0 a4).f0) + (wrap64 (4 * a2)))))) (fun _ hk => hk.2) (.int .i64 (wrap64 (((rd_T41 l0 a4).f1) - (wrap64 (4 * a3)))))) (fun _ h_ => h_.1)))); (case side2 => exact (Kd.R_reads' HO_14.out).2.1); rintro e w' ⟨rfl, ⟨nd, rfl⟩⟩; refine ⟨_, rfl, ?_⟩))
             (try simp only [Act.put, List.setIfInBounds_toArray, List.set_cons_zero, List.set_cons_succ])
             go_cut [] (fun wc => ∃ (kq : Nat), Aside0 (fringelaw41_SkyPlaces.j2 kq l0 l1 t285 t287 y308 = some true) ∧ Aside0 (kq ≤ k2) ∧ Aside0 (Kd.R k47 47 wc w.heap.size (fun _ => True) v289 t287) ∧ Aside0 (Kd.R k41 41 wc w.heap.size (fun _ => True) (.slice (some ⟨go38, 0, none⟩) y300.length co38) y308) ∧ Aside0 (Below w.heap.size w wc))
             case first =>
              as_aux_lemma =>
              have H := HC40.out
              clear HC40
              by_cases c44 : t309 = 0
              ·as_aux_lemma =>
               rw [if_pos c44] at H
               have c44b0 : (t309 == 0) = true := beq_iff_eq.mpr c44
               have c44b1 : (t309 != 0) = false := bne_eq_false_iff_eq.mpr c44
               clear c44
               (first | rw [c44b0] | (simp only [i64_w, i32_w]; rw [c44b0]) | skip)
               replace H := Option.bind_eq_some_iff.mp H
               obtain ⟨⟨t310, t311⟩, A450, H⟩ := H
               replace H : (if t311 = 0 then ((fringeref41_SameVis.f k2 t287 t310).bind fun t314 => (if t314 = true then (fringelaw41_SkyPlaces.j2 k2 l0 l1 t285 t287 y308) else (some false))) else (some false)) = some true := H
               have A45 := Aside0.mk A450
               clear A450
               by_cases c46 : t311 = 0
               ·as_aux_lemma =>
                rw [if_pos c46] at H
                have c46b0 : (t311 == 0) = true := beq_iff_eq.mpr c46
                have c46b1 : (t311 != 0) = false := bne_eq_false_iff_eq.mpr c46
                clear c46
                replace H := Option.bind_eq_some_iff.mp H
                obtain ⟨t314, A470, H⟩ := H
                replace H : (if t314 = true then (fringelaw41_SkyPlaces.j2 k2 l0 l1 t285 t287 y308) else (some false)) = some true := H
                have A47 := Aside0.mk A470
                clear A470
                by_cases c48 : t314 = true
                ·as_aux_lemma =>
                 subst c48
                 have H1 : (fringelaw41_SkyPlaces.j2 k2 l0 l1 t285 t287 y308) = some true := by first | (with_reducible rfl) | (rw [if_pos rfl] at H; exact H)
                 clear H
                 have H := H1
                 clear H1
                 have H' := Aside0.mk H
                 clear H
                 go_wp2_with (first | ((with_reducible refine gate_callee (f := 18) rfl ?_); refine goesL_ (some 124) rfl rfl Try.func18 (by kernel_rfl) rfl #[.slice Ao43 x14_2.length co43, .slice A1 l1.length c1] rfl (by (try simp only [List.map_toArray, List.map_cons, List.map_nil]); first | done | rfl | (simp only [List.length_drop, List.length_take]; rfl)) ?_; (with_reducible refine (sky_See.calls k2 _ _ x14_2 _ _ l1 t310 t311 _ ?side1 ?side2 ?side3 ?side4 A45.out).mono ?_); (case side1 => refine (Kd.R_reads' (e := 41) (base := w.heap.size) (ok := fun k_ => some k_ ≠ (.slice (some ⟨go38, 0, none⟩) y300.length co38 : Value).ownBlock) (n := x14_2.length) (c := co43) ?_).2.2; exact (by (with_reducible repeat (first | apply Kd.R_alloc | apply Kd.R_drewN | apply Kd.R_drew)); exact (Kd.R_mono (Kd.R_far (p := ⟨go38, (a4 : Int).toNat * 2 + 1, none⟩) (Kd.R_far (p := ⟨go38, (a4 : Int).toNat * 2, none⟩) (Kd.R_mono HO_14.out (fun k_ hk => (⟨hk, fun e_ => hk (by rw [e_]; rfl)⟩ : _ ∧ k_ ≠ go38))) (fun _ hk => hk.2) (.int .i64 (wrap64 (((rd_T41 l0 a4).f0) + (wrap64 (4 * a2)))))) (fun _ hk => hk.2) (.int .i64 (wrap64 (((rd_T41 l0 a4).f1) - (wrap64 (4 * a3)))))) (fun _ h_ => h_.1)))); (case side2 => exact (Kd.R_reads' HO_14.out).2.1); (case side3 => exact Kd.C_below HR1.out (by repeat (first | (with_reducible first | exact HB.out | apply below_alloc | apply pw_below_drewN | apply below_drew1 | refine below_set ?_ GB38.out | refine below_set ?_ GB38.out) | exact HB.out))); (case side4 => exact HC1.out); rintro e w49 ⟨v312, rfl, ho0, hb⟩; refine ⟨_, rfl, ?_⟩; have n0_ := Aside0.mk (Kd.R_elder' (by (with_reducible repeat (first | apply Kd.R_alloc | apply Kd.R_drewN | apply Kd.R_drew)); exact (Kd.R_mono (Kd.R_far (p := ⟨go38, (a4 : Int).toNat * 2 + 1, none⟩) (Kd.R_far (p := ⟨go38, (a4 : Int).toNat * 2, none⟩) (Kd.R_types HO_12.out GG38.out (by decide)) (fun _ hk => hk.2) (.int .i64 (wrap64 (((rd_T41 l0 a4).f0) + (wrap64 (4 * a2)))))) (fun _ hk => hk.2) (.int .i64 (wrap64 (((rd_T41 l0 a4).f1) - (wrap64 (4 * a3)))))) (fun _ h_ => h_.1))) (Kd.R_base ho0) hb); have n1_ := Aside0.mk (Kd.R_below (by (with_reducible repeat (first | apply Kd.R_alloc | apply Kd.R_drewN | apply Kd.R_drew)); exact (Kd.R_mono (Kd.R_far (p := ⟨go38, (a4 : Int).toNat * 2 + 1, none⟩) (Kd.R_far (p := ⟨go38, (a4 : Int).toNat * 2, none⟩) (Kd.R_mono HO_14.out (fun k_ hk => (⟨hk, fun e_ => hk (by rw [e_]; rfl)⟩ : _ ∧ k_ ≠ go38))) (fun _ hk => hk.2) (.int .i64 (wrap64 (((rd_T41 l0 a4).f0) + (wrap64 (4 * a2)))))) (fun _ hk => hk.2) (.int .i64 (wrap64 (((rd_T41 l0 a4).f1) - (wrap64 (4 * a3)))))) (fun _ h_ => h_.1))) hb); have n2_ := Aside0.mk (Kd.R_below (by (with_reducible repeat (first | apply Kd.R_alloc | apply Kd.R_drewN | apply Kd.R_drew)); exact HQ42.out) hb); have n3_ := Aside0.mk (Kd.R_lower (Kd.R_new' ho0 (Kd.R_lt (by (with_reducible repeat (first | apply Kd.R_alloc | apply Kd.R_drewN | apply Kd.R_drew)); exact (Kd.R_mono (Kd.R_far (p := ⟨go38, (a4 : Int).toNat * 2 + 1, none⟩) (Kd.R_far (p := ⟨go38, (a4 : Int).toNat * 2, none⟩) (Kd.R_types HO_12.out GG38.out (by decide)) (fun _ hk => hk.2) (.int .i64 (wrap64 (((rd_T41 l0 a4).f0) + (wrap64 (4 * a2)))))) (fun _ hk => hk.2) (.int .i64 (wrap64 (((rd_T41 l0 a4).f1) - (wrap64 (4 * a3)))))) (fun _ h_ => h_.1))))) (below_size (by repeat (first | (with_reducible first | exact HB.out | apply below_alloc | apply pw_below_drewN | apply below_drew1 | refine below_set ?_ GB38.out | refine below_set ?_ GB38.out) | exact HB.out)))); have n4_ := Aside0.mk (below_step (by repeat (first | (with_reducible first | exact HB.out | apply below_alloc | apply pw_below_drewN | apply below_drew1 | refine below_set ?_ GB38.out | refine below_set ?_ GB38.out) | exact HB.out)) hb); clear HO_12; clear HO_14; clear HO_15; clear HB; have HO_12 := n0_; have HO_14 := n1_; have HO_15 := n2_; have HO313 := n3_; have HB := n4_; clear n0_ n1_ n2_ n3_ n4_; (try clear hb); (try clear hb2); (try clear hk); (try clear hi); (try clear ho0); obtain ⟨Ao50, co50, eo50⟩ := Kd.R_slice HO_12.out; subst eo50; obtain ⟨Ao51, co51, eo51⟩ := Kd.R_slice HO313.out; subst eo51) | (go_at_call 20; (with_reducible refine (fringeref41_SameVis.calls k2 _ _ t287 _ _ t310 true _ ?side1 ?side2 ?side3 ?side4 A47.out).mono ?_); (case side1 => repeat (first | exact (Kd.R_reads' HO_12.out).2.2 | (with_reducible refine Kd.C_alloc ?_ _) | (with_reducible refine Kd.C_drewN ?_ _) | (with_reducible refine Kd.C_drew ?_))); (case side2 => exact (Kd.R_reads' HO_12.out).2.1); (case side3 => repeat (first | exact (Kd.R_reads' HO313.out).2.2 | (with_reducible refine Kd.C_alloc ?_ _) | (with_reducible refine Kd.C_drewN ?_ _) | (with_reducible refine Kd.C_drew ?_))); (case side4 => exact (Kd.R_reads' HO313.out).2.1); rintro e w' ⟨rfl, ⟨nd, rfl⟩⟩))
                 go_meet
                 case rel => exact ⟨_, H', ⟨by have := HJ6.out; have := HK2.out; first | omega | exact Nat.le_refl _⟩, ⟨by (with_reducible repeat (first | apply Kd.R_alloc | apply Kd.R_drewN | apply Kd.R_drew)); exact Kd.R_mono HO_12.out (fun _ hk => trivial)⟩, ⟨by (with_reducible repeat (first | apply Kd.R_alloc | apply Kd.R_drewN | apply Kd.R_drew)); exact Kd.R_mono HO_15.out (fun _ hk => trivial)⟩, ⟨by repeat (first | (with_reducible first | exact HB.out | apply below_alloc | apply pw_below_drewN | apply below_drew1) | exact HB.out)⟩⟩
                ·as_aux_lemma =>
                 replace c48 := Bool.eq_false_iff.mpr c48
                 subst c48
                 have H1 : (some false) = some true := by first | (with_reducible rfl) | (rw [if_neg (show ¬ (false = true) by decide)] at H; exact H)
                 clear H
                 have H := H1
                 clear H1
                 exact absurd H (by simp)
               ·as_aux_lemma =>
                rw [if_neg c46] at H
                have c46b0 : (t311 == 0) = false := beq_eq_false_iff_ne.mpr c46
                have c46b1 : (t311 != 0) = true := bne_iff_ne.mpr c46
                exact absurd H (by simp)
              ·as_aux_lemma =>
               rw [if_neg c44] at H
               have c44b0 : (t309 == 0) = false := beq_eq_false_iff_ne.mpr c44
               have c44b1 : (t309 != 0) = true := bne_iff_ne.mpr c44
               (first | rw [c44b0] | (simp only [i64_w, i32_w]; rw [c44b0]) | skip)
               have H' := Aside0.mk H
               clear H
               go_wp2
               go_meet
               case rel => exact ⟨_, H', ⟨by have := HJ6.out; have := HK2.out; first | omega | exact Nat.le_refl _⟩, ⟨by (with_reducible repeat (first | apply Kd.R_alloc | apply Kd.R_drewN | apply Kd.R_drew)); exact Kd.R_mono (Kd.R_far (p := ⟨go38, (a4 : Int).toNat * 2 + 1, none⟩) (Kd.R_far (p := ⟨go38, (a4 : Int).toNat * 2, none⟩) (Kd.R_types HO_12.out GG38.out (by decide)) (fun _ hk => hk.2) (.int .i64 (wrap64 (((rd_T41 l0 a4).f0) + (wrap64 (4 * a2)))))) (fun _ hk => hk.2) (.int .i64 (wrap64 (((rd_T41 l0 a4).f1) - (wrap64 (4 * a3)))))) (fun _ hk => trivial)⟩, ⟨by (with_reducible repeat (first | apply Kd.R_alloc | apply Kd.R_drewN | apply Kd.R_drew)); exact Kd.R_mono HQ42.out (fun _ hk => trivial)⟩, ⟨by repeat (first | (with_reducible first | exact HB.out | apply below_alloc | apply pw_below_drewN | apply below_drew1 | refine below_set ?_ GB38.out | refine below_set ?_ GB38.out) | exact HB.out)⟩⟩
             case rest =>
              as_aux_lemma =>
              clear HC40
              try clear c1
              try clear c2
              try clear p2
              try clear c3
              try clear p3
              try clear q3
              try clear hx3
              try clear c4
              try clear p6
              try clear c10
              try clear c11
              try clear c11b0
              try clear c12
              try clear c12b0
              try clear c13
              try clear c13b0
              try clear c14
              try clear c14b0
              try clear c15
              try clear c15b0
              try clear c16
              try clear c16b0
              try clear c17
              try clear c18
              try clear c19
              try clear c19b0
              try clear c19b1
              try clear c20
              try clear c21
              try clear c29
              try clear c29b0
              try clear c30
              try clear c30b0
              try clear p30
              try clear q30
              try clear hx30
              try clear c31
              try clear c31b0
              try clear c32
              try clear p32
              try clear q32
              try clear hx32
              try clear hf32
              try clear c34
              try clear c35
              try clear c35b0
              try clear c36
              try clear c36b0
              try clear c37
              try clear c37b0
              try clear c38
              try clear p38
              try clear q38
              try clear hx38
              try clear hf38
              try clear c42
              try clear c44
              try clear c44b0
              try clear c44b1
              try clear c46
              try clear c46b0
              try clear c46b1
              try clear c48
              try clear hx303_0
              try clear hx303_1
              try clear hx304_0
              try clear hx304_1
              try clear hx306_0
              try clear hx306_1
              try clear hx307_0
              try clear hx307_1
              try clear hx32_0
              try clear hx32_1
              try clear hx38_0
              try clear hx38_1
              try clear p2
              try clear p303
              try clear p304
              try clear p306
              try clear p307
              try clear p32
              try clear p38
              try clear q303
              try clear q304
              try clear q306
              try clear q307
              try clear q32
              try clear q38
              obtain ⟨kq, HA, HJ39, HO_12, HO_15, HB⟩ := hcut
              have hl15_39 := (Kd.R_reads' HO_15.out).1
              rw [hl15_39] at HO_15
              (try simp only [hl15_39])
              (try simp only [hl15_39] at HO_12)
              cases kq with
              | zero => exact absurd HA.out (by simp [fringelaw41_SkyPlaces.j2])
              | succ kj39 =>
               have H := HA.out
               clear HA
               simp only [fringelaw41_SkyPlaces.j2] at H
               replace H := Option.bind_eq_some_iff.mp H
               obtain ⟨t315, A520, H⟩ := H
               replace H : (if t315 = 0 then ((sky_See.f kj39 y308 l1).bind fun bt316 => (if bt316.2 = 0 then ((fringeref41_SameVis.f kj39 t287 bt316.1).bind fun t320 => (if t320 = true then (fringelaw41_SkyPlaces.j3 kj39 l0 l1 t285 t287) else (some false))) else (some false))) else (fringelaw41_SkyPlaces.j3 kj39 l0 l1 t285 t287)) = some true := H
               have A52 := Aside0.mk A520
               clear A520
               have HC53 := Aside0.mk H
               clear H
               go_upto_if 137 with (first | ((with_reducible refine gate_callee (f := 19) rfl ?_); refine goesL_ (some 136) rfl rfl Try.func19 (by kernel_rfl) rfl #[.slice (some ⟨go38, 0, none⟩) y308.length co38] rfl (by (try simp only [List.map_toArray, List.map_cons, List.map_nil]); first | done | rfl | (simp only [List.length_drop, List.length_take]; rfl)) ?_; (with_reducible refine (fringeref41_Places.calls kj39 _ _ y308 t315 _ ?side1 ?side2 A52.out).mono ?_); (case side1 => repeat (first | exact (Kd.R_reads' HO_15.out).2.2 | (with_reducible refine Kd.C_alloc ?_ _) | (with_reducible refine Kd.C_drewN ?_ _) | (with_reducible refine Kd.C_drew ?_))); (case side2 => exact (Kd.R_reads' HO_15.out).2.1); rintro e w' ⟨rfl, ⟨nd, rfl⟩⟩; refine ⟨_, rfl, ?_⟩))
               (try simp only [Act.put, List.setIfInBounds_toArray, List.set_cons_zero, List.set_cons_succ])
               go_cut [] (fun wc => ∃ (kq : Nat), Aside0 (fringelaw41_SkyPlaces.j3 kq l0 l1 t285 t287 = some true) ∧ Aside0 (kq ≤ kj39) ∧ Aside0 (Kd.R k47 47 wc w.heap.size (fun _ => True) v289 t287) ∧ Aside0 (Below w.heap.size w wc))
               case first =>
                as_aux_lemma =>
                have H := HC53.out
                clear HC53
                by_cases c54 : t315 = 0
                ·as_aux_lemma =>
                 rw [if_pos c54] at H
                 have c54b0 : (t315 == 0) = true := beq_iff_eq.mpr c54
                 have c54b1 : (t315 != 0) = false := bne_eq_false_iff_eq.mpr c54
                 (try simp only [hl15_39] at c54b0)
                 (try simp only [hl15_39] at c54b1)
                 clear c54
                 (first | rw [c54b0] | (simp only [i64_w, i32_w]; rw [c54b0]) | skip)
                 replace H := Option.bind_eq_some_iff.mp H
                 obtain ⟨⟨t316, t317⟩, A550, H⟩ := H
                 replace H : (if t317 = 0 then ((fringeref41_SameVis.f kj39 t287 t316).bind fun t320 => (if t320 = true then (fringelaw41_SkyPlaces.j3 kj39 l0 l1 t285 t287) else (some false))) else (some false)) = some true := H
                 have A55 := Aside0.mk A550
                 clear A550
                 by_cases c56 : t317 = 0
                 ·as_aux_lemma =>
                  rw [if_pos c56] at H
                  have c56b0 : (t317 == 0) = true := beq_iff_eq.mpr c56
                  have c56b1 : (t317 != 0) = false := bne_eq_false_iff_eq.mpr c56
                  (try simp only [hl15_39] at c56b0)
                  (try simp only [hl15_39] at c56b1)
                  clear c56
                  replace H := Option.bind_eq_some_iff.mp H
                  obtain ⟨t320, A570, H⟩ := H
                  replace H : (if t320 = true then (fringelaw41_SkyPlaces.j3 kj39 l0 l1 t285 t287) else (some false)) = some true := H
                  have A57 := Aside0.mk A570
                  clear A570
                  by_cases c58 : t320 = true
                  ·as_aux_lemma =>
                   subst c58
                   have H1 : (fringelaw41_SkyPlaces.j3 kj39 l0 l1 t285 t287) = some true := by first | (with_reducible rfl) | (rw [if_pos rfl] at H; exact H)
                   clear H
                   have H := H1
                   clear H1
                   have H' := Aside0.mk H
                   clear H
                   go_wp2_with (first | ((with_reducible refine gate_callee (f := 18) rfl ?_); refine goesL_ (some 141) rfl rfl Try.func18 (by kernel_rfl) rfl #[.slice (some ⟨go38, 0, none⟩) y308.length co38, .slice A1 l1.length c1] rfl (by (try simp only [List.map_toArray, List.map_cons, List.map_nil]); first | done | rfl | (simp only [List.length_drop, List.length_take]; rfl)) ?_; (with_reducible refine (sky_See.calls kj39 _ _ y308 _ _ l1 t316 t317 _ ?side1 ?side2 ?side3 ?side4 A55.out).mono ?_); (case side1 => repeat (first | exact (Kd.R_reads' HO_15.out).2.2 | (with_reducible refine Kd.C_alloc ?_ _) | (with_reducible refine Kd.C_drewN ?_ _) | (with_reducible refine Kd.C_drew ?_))); (case side2 => exact (Kd.R_reads' HO_15.out).2.1); (case side3 => repeat (first | exact (Kd.C_below HR1.out HB.out) | (with_reducible refine Kd.C_alloc ?_ _) | (with_reducible refine Kd.C_drewN ?_ _) | (with_reducible refine Kd.C_drew ?_))); (case side4 => exact HC1.out); rintro e w59 ⟨v318, rfl, ho0, hb⟩; refine ⟨_, rfl, ?_⟩; have n0_ := Aside0.mk (Kd.R_elder' (by (with_reducible repeat (first | apply Kd.R_alloc | apply Kd.R_drewN | apply Kd.R_drew)); exact HO_12.out) (Kd.R_base ho0) hb); have n1_ := Aside0.mk (Kd.R_below (by (with_reducible repeat (first | apply Kd.R_alloc | apply Kd.R_drewN | apply Kd.R_drew)); exact HO_15.out) hb); have n2_ := Aside0.mk (Kd.R_lower (Kd.R_new' ho0 (Kd.R_lt (by (with_reducible repeat (first | apply Kd.R_alloc | apply Kd.R_drewN | apply Kd.R_drew)); exact HO_12.out))) (below_size (by repeat (first | (with_reducible first | exact HB.out | apply below_alloc | apply pw_below_drewN | apply below_drew1) | exact HB.out)))); have n3_ := Aside0.mk (below_step (by repeat (first | (with_reducible first | exact HB.out | apply below_alloc | apply pw_below_drewN | apply below_drew1) | exact HB.out)) hb); clear HO_12; clear HO_15; clear HB; have HO_12 := n0_; have HO_15 := n1_; have HO319 := n2_; have HB := n3_; clear n0_ n1_ n2_ n3_; (try clear hb); (try clear hb2); (try clear hk); (try clear hi); (try clear ho0); obtain ⟨Ao60, co60, eo60⟩ := Kd.R_slice HO_12.out; subst eo60; obtain ⟨Ao61, co61, eo61⟩ := Kd.R_slice HO319.out; subst eo61) | (go_at_call 20; (with_reducible refine (fringeref41_SameVis.calls kj39 _ _ t287 _ _ t316 true _ ?side1 ?side2 ?side3 ?side4 A57.out).mono ?_); (case side1 => repeat (first | exact (Kd.R_reads' HO_12.out).2.2 | (with_reducible refine Kd.C_alloc ?_ _) | (with_reducible refine Kd.C_drewN ?_ _) | (with_reducible refine Kd.C_drew ?_))); (case side2 => exact (Kd.R_reads' HO_12.out).2.1); (case side3 => repeat (first | exact (Kd.R_reads' HO319.out).2.2 | (with_reducible refine Kd.C_alloc ?_ _) | (with_reducible refine Kd.C_drewN ?_ _) | (with_reducible refine Kd.C_drew ?_))); (case side4 => exact (Kd.R_reads' HO319.out).2.1); rintro e w' ⟨rfl, ⟨nd, rfl⟩⟩))
                   go_meet
                   case rel => exact ⟨_, H', ⟨by have := HJ6.out; have := HK2.out; have := HJ39.out; first | omega | exact Nat.le_refl _⟩, ⟨by (try simp only [hl15_39]); (with_reducible repeat (first | apply Kd.R_alloc | apply Kd.R_drewN | apply Kd.R_drew)); exact Kd.R_mono HO_12.out (fun _ hk => trivial)⟩, ⟨by repeat (first | (with_reducible first | exact HB.out | apply below_alloc | apply pw_below_drewN | apply below_drew1) | exact HB.out)⟩⟩
                  ·as_aux_lemma =>
                   replace c58 := Bool.eq_false_iff.mpr c58
                   subst c58
                   have H1 : (some false) = some true := by first | (with_reducible rfl) | (rw [if_neg (show ¬ (false = true) by decide)] at H; exact H)
                   clear H
                   have H := H1
                   clear H1
                   exact absurd H (by simp)
                 ·as_aux_lemma =>
                  rw [if_neg c56] at H
                  have c56b0 : (t317 == 0) = false := beq_eq_false_iff_ne.mpr c56
                  have c56b1 : (t317 != 0) = true := bne_iff_ne.mpr c56
                  (try simp only [hl15_39] at c56b0)
                  (try simp only [hl15_39] at c56b1)
                  exact absurd H (by simp)
                ·as_aux_lemma =>
                 rw [if_neg c54] at H
                 have c54b0 : (t315 == 0) = false := beq_eq_false_iff_ne.mpr c54
                 have c54b1 : (t315 != 0) = true := bne_iff_ne.mpr c54
                 (try simp only [hl15_39] at c54b0)
                 (try simp only [hl15_39] at c54b1)
                 (first | rw [c54b0] | (simp only [i64_w, i32_w]; rw [c54b0]) | skip)
                 have H' := Aside0.mk H
                 clear H
                 go_wp2
                 go_meet
                 case rel => exact ⟨_, H', ⟨by have := HJ6.out; have := HK2.out; have := HJ39.out; first | omega | exact Nat.le_refl _⟩, ⟨by (try simp only [hl15_39]); (with_reducible repeat (first | apply Kd.R_alloc | apply Kd.R_drewN | apply Kd.R_drew)); exact HO_12.out⟩, ⟨by repeat (first | (with_reducible first | exact HB.out | apply below_alloc | apply pw_below_drewN | apply below_drew1) | exact HB.out)⟩⟩
               case rest =>
                as_aux_lemma =>
                clear HC53
                try clear c1
                try clear c2
                try clear p2
                try clear c3
                try clear p3
                try clear q3
                try clear hx3
                try clear c4
                try clear c5
                try clear p6
                try clear c10
                try clear c11
                try clear c11b0
                try clear c12
                try clear c12b0
                try clear c13
                try clear c13b0
                try clear c14
                try clear c14b0
                try clear c15
                try clear c15b0
                try clear c16
                try clear c16b0
                try clear c17
                try clear c18
                try clear c19
                try clear c19b0
                try clear c19b1
                try clear c20
                try clear c21
                try clear c29
                try clear c29b0
                try clear c30
                try clear c30b0
                try clear p30
                try clear q30
                try clear hx30
                try clear c31
                try clear c31b0
                try clear c32
                try clear p32
                try clear q32
                try clear hx32
                try clear hf32
                try clear c34
                try clear c35
                try clear c35b0
                try clear c36
                try clear c36b0
                try clear c37
                try clear c37b0
                try clear c38
                try clear p38
                try clear q38
                try clear hx38
                try clear hf38
                try clear c42
                try clear c44
                try clear c44b0
                try clear c44b1
                try clear c46
                try clear c46b0
                try clear c46b1
                try clear c48
                try clear c54
                try clear c54b0
                try clear c54b1
                try clear c56
                try clear c56b0
                try clear c56b1
                try clear c58
                try clear hx303_0
                try clear hx303_1
                try clear hx304_0
                try clear hx304_1
                try clear hx306_0
                try clear hx306_1
                try clear hx307_0
                try clear hx307_1
                try clear hx32_0
                try clear hx32_1
                try clear hx38_0
                try clear hx38_1
                try clear p2
                try clear p3
                try clear p30
                try clear p303
                try clear p304
                try clear p306
                try clear p307
                try clear p32
                try clear p38
                try clear p6
                try clear q3
                try clear q30
                try clear q303
                try clear q304
                try clear q306
                try clear q307
                try clear q32
                try clear q38
                obtain ⟨kq, HA, HJ52, HO_12, HB⟩ := hcut
                cases kq with
                | zero => exact absurd HA.out (by simp [fringelaw41_SkyPlaces.j3])
                | succ kj52 =>
                 have H := HA.out
                 clear HA
                 simp only [fringelaw41_SkyPlaces.j3] at H
                 have H' := Aside0.mk H
                 clear H
                 go_wp2
                 go_loopg [21] kj52 (fun kq v21 w' => ∃ (x21_5 : Int), v21 = .int .i64 x21_5 ∧ Aside0 (fringelaw41_SkyPlaces.l1 kq l0 l1 t285 t287 x21_5 = some true) ∧ Aside0 (kq ≤ kj52) ∧ Aside0 (Kd.R k47 47 w' w.heap.size (fun _ => True) v289 t287) ∧ Aside0 (Below w.heap.size w w'))
                 case atStart => exact ⟨(0), (by first | rfl | (simp; done) | (simp [*]; done)), H', ⟨Nat.le_refl _⟩, ⟨by (try simp only [hl15_39]); (with_reducible repeat (first | apply Kd.R_alloc | apply Kd.R_drewN | apply Kd.R_drew)); exact HO_12.out⟩, ⟨by repeat (first | (with_reducible first | exact HB.out | apply below_alloc | apply pw_below_drewN | apply below_drew1) | exact HB.out)⟩⟩
                 case round =>
                  as_aux_lemma =>
                  clear H'
                  try clear c1
                  try clear c2
                  try clear p2
                  try clear c3
                  try clear p3
                  try clear q3
                  try clear hx3
                  try clear c4
                  try clear c5
                  try clear p6
                  try clear c10
                  try clear c11
                  try clear c11b0
                  try clear c12
                  try clear c12b0
                  try clear c13
                  try clear c13b0
                  try clear c14
                  try clear c14b0
                  try clear c15
                  try clear c15b0
                  try clear c16
                  try clear c16b0
                  try clear c17
                  try clear c18
                  try clear c19
                  try clear c19b0
                  try clear c19b1
                  try clear c20
                  try clear c21
                  try clear c29
                  try clear c29b0
                  try clear c30
                  try clear c30b0
                  try clear p30
                  try clear q30
                  try clear hx30
                  try clear c31
                  try clear c31b0
                  try clear c32
                  try clear p32
                  try clear q32
                  try clear hx32
                  try clear hf32
                  try clear c34
                  try clear c35
                  try clear c35b0
                  try clear c36
                  try clear c36b0
                  try clear c37
                  try clear c37b0
                  try clear c38
                  try clear p38
                  try clear q38
                  try clear hx38
                  try clear hf38
                  try clear c42
                  try clear c44
                  try clear c44b0
                  try clear c44b1
                  try clear c46
                  try clear c46b0
                  try clear c46b1
                  try clear c48
                  try clear c54
                  try clear c54b0
                  try clear c54b1
                  try clear c56
                  try clear c56b0
                  try clear c56b1
                  try clear c58
                  try clear hx303_0
                  try clear hx303_1
                  try clear hx304_0
                  try clear hx304_1
                  try clear hx306_0
                  try clear hx306_1
                  try clear hx307_0
                  try clear hx307_1
                  try clear hx32_0
                  try clear hx32_1
                  try clear hx38_0
                  try clear hx38_1
                  try clear p2
                  try clear p3
                  try clear p30
                  try clear p303
                  try clear p304
                  try clear p306
                  try clear p307
                  try clear p32
                  try clear p38
                  try clear p6
                  try clear q3
                  try clear q30
                  try clear q303
                  try clear q304
                  try clear q306
                  try clear q307
                  try clear q32
                  try clear q38
                  obtain ⟨x21_5, rfl, HA, HK5, HO_12, HB⟩ := hrel
                  cases gk with
                  | zero => exact absurd HA.out (by simp [fringelaw41_SkyPlaces.l1])
                  | succ k5 =>
                   have H := HA.out
                   clear HA
                   simp only [fringelaw41_SkyPlaces.l1] at H
                   by_cases c62 : x21_5 < (t287.length : Int)
                   ·as_aux_lemma =>
                    rw [if_pos c62] at H
                    have c62b0 : decide (x21_5 < (t287.length : Int)) = true := decide_eq_true c62
                    (try simp only [hl15_39] at c62b0)
                    clear c62
                    have HC63 := Aside0.mk H
                    clear H
                    obtain ⟨Ao64, co64, eo64⟩ := Kd.R_slice HO_12.out
                    subst eo64
                    go_upto_region 25 with (fail)
                    go_cut [186] (fun v186 wc => ∃ (kq : Nat) (x186_62 : Bool), v186 = .bool x186_62 ∧ Aside0 (fringelaw41_SkyPlaces.j5 kq l0 l1 t285 t287 x21_5 x186_62 = some true) ∧ Aside0 (kq ≤ k5) ∧ Aside0 (Kd.R k47 47 wc w.heap.size (fun _ => True) (.slice Ao64 t287.length co64) t287) ∧ Aside0 (Below w.heap.size w wc))
                    case first =>
                     as_aux_lemma =>
                     have H := HC63.out
                     clear HC63
                     by_cases c65 : 0 ≤ x21_5
                     ·as_aux_lemma =>
                      rw [if_pos c65] at H
                      have c65b0 : decide (0 ≤ x21_5) = true := decide_eq_true c65
                      (try simp only [hl15_39] at c65b0)
                      clear c65
                      (first | rw [c65b0] | (simp only [i64_w, i32_w]; rw [c65b0]) | skip)
                      by_cases c66 : ((rd_T47 t287 x21_5).f0) < 0
                      ·as_aux_lemma =>
                       rw [if_pos c66] at H
                       have c66b0 : decide (((rd_T47 t287 x21_5).f0) < 0) = true := decide_eq_true c66
                       (try simp only [hl15_39] at c66b0)
                       clear c66
                       have H' := Aside0.mk H
                       clear H
                       try go_wp2
                       have n0_ := Aside0.mk (Kd.R_drew HO_12.out)
                       have n1_ := Aside0.mk (below_drew1 HB.out)
                       clear HO_12
                       clear HB
                       have HO_12 := n0_
                       have HB := n1_
                       clear n0_ n1_
                       have p321 : 0 ≤ (x21_5 : Int) := of_decide_eq_true (by first | (with_reducible assumption) | assumption)
                       have q321 : x21_5 < (t287.length : Int) := of_decide_eq_true (by first | (with_reducible assumption) | assumption)
                       obtain ⟨ad321, e321, hx321_0, hx321_1, hx321_2, hx321_3, hx321_4, hx321_5⟩ := at_T47 (Kd.R_reads' HO_12.out).2.2 x21_5 p321 q321
                       cases e321
                       replace p321 := eq_true p321
                       replace q321 := eq_true q321
                       refine start_ (n := 29) (S := fun w' => w'.cell? (ad321.add ((x21_5).toNat * 6)) = some (.int .i64 ((rd_T47 t287 x21_5).f0)) ∧ w'.cell? ⟨(ad321.add ((x21_5).toNat * 6)).block, (ad321.add ((x21_5).toNat * 6)).off + 1, none⟩ = some (.int .i64 ((rd_T47 t287 x21_5).f1)) ∧ w'.cell? ⟨(ad321.add ((x21_5).toNat * 6)).block, (ad321.add ((x21_5).toNat * 6)).off + 2, none⟩ = some (.int .i64 ((rd_T47 t287 x21_5).f2.f0)) ∧ w'.cell? ⟨(ad321.add ((x21_5).toNat * 6)).block, (ad321.add ((x21_5).toNat * 6)).off + 3, none⟩ = some (.int .i64 ((rd_T47 t287 x21_5).f2.f1)) ∧ w'.cell? ⟨(ad321.add ((x21_5).toNat * 6)).block, (ad321.add ((x21_5).toNat * 6)).off + 4, none⟩ = some (.int .i64 ((rd_T47 t287 x21_5).f2.f2)) ∧ w'.cell? ⟨(ad321.add ((x21_5).toNat * 6)).block, (ad321.add ((x21_5).toNat * 6)).off + 5, none⟩ = some (.int .i64 ((rd_T47 t287 x21_5).f3))) (ds := []) #[false, false, false, false, false, false, false, false, false, false, false, false, false, false, false, false, false, false, false, false, false, false, false, false, false, false, false, false, false] (by kernel_rfl) rfl rfl ⟨hx321_0, hx321_1, hx321_2, hx321_3, hx321_4, hx321_5⟩ (fun hHeld => ?_); refine with_tabW fringelaw41_SkyPlaces.tab25 fringelaw41_SkyPlaces.bits25 (fun HT_ HW_ => ?_)
                       generalize wr.drew = w67 at HO_12 HB hx321_0 hx321_1 hx321_2 hx321_3 hx321_4 hx321_5 hHeld ⊢
                       refine pure_ (i := 0) (N := some 158) (v := ?_) (a' := ?_) #[true, false, false, false, false, false, false, false, false, false, false, false, false, false, false, false, false, false, false, false, false, false, false, false, false, false, false, false, false] rfl rfl (any_of HT_.out (by kernel_rfl)) (fun _ _ _ h => h) (Or.inl ⟨by rfl, ?_⟩) ?_ ?_
                       rotate_left
                       ·as_aux_lemma =>
                        intro w'
                        go_simp
                        with_reducible rfl
                       rotate_left
                       ·as_aux_lemma =>
                        simp only [Act.put, List.setIfInBounds_toArray, List.set_cons_zero, List.set_cons_succ, i64_w, i32_w]
                        rfl
                       refine pure_ (i := 1) (N := some 159) (v := ?_) (a' := ?_) #[true, true, false, false, false, false, false, false, false, false, false, false, false, false, false, false, false, false, false, false, false, false, false, false, false, false, false, false, false] rfl rfl (any_of HT_.out (by kernel_rfl)) (fun _ _ _ h => h) (Or.inl ⟨by rfl, ?_⟩) ?_ ?_
                       rotate_left
                       ·as_aux_lemma =>
                        intro w'
                        go_simp
                        with_reducible rfl
                       rotate_left
                       ·as_aux_lemma =>
                        simp only [Act.put, List.setIfInBounds_toArray, List.set_cons_zero, List.set_cons_succ, i64_w, i32_w]
                        rfl
                       refine pure_ (i := 2) (N := some 160) (v := ?_) (a' := ?_) #[true, true, true, false, false, false, false, false, false, false, false, false, false, false, false, false, false, false, false, false, false, false, false, false, false, false, false, false, false] rfl rfl (any_of HT_.out (by kernel_rfl)) (fun _ _ _ h => h) (Or.inl ⟨by rfl, ?_⟩) ?_ ?_
                       rotate_left
                       ·as_aux_lemma =>
                        intro w'
                        go_simp
                        with_reducible rfl
                       rotate_left
                       ·as_aux_lemma =>
                        simp only [Act.put, List.setIfInBounds_toArray, List.set_cons_zero, List.set_cons_succ, i64_w, i32_w]
                        rfl
                       refine pure_ (i := 3) (N := some 161) (v := ?_) (a' := ?_) #[true, true, true, true, false, false, false, false, false, false, false, false, false, false, false, false, false, false, false, false, false, false, false, false, false, false, false, false, false] rfl rfl (any_of HT_.out (by kernel_rfl)) (fun _ _ _ h => h) (Or.inl ⟨by rfl, ?_⟩) ?_ ?_
                       rotate_left
                       ·as_aux_lemma =>
                        intro w'
                        go_simp
                        with_reducible rfl
                       rotate_left
                       ·as_aux_lemma =>
                        simp only [Act.put, List.setIfInBounds_toArray, List.set_cons_zero, List.set_cons_succ, i64_w, i32_w]
                        rfl
                       refine take_ (i := 4) (N := some 162) (v := ?_) (a' := ?_) #[true, true, true, true, true, false, false, false, false, false, false, false, false, false, false, false, false, false, false, false, false, false, false, false, false, false, false, false, false] rfl rfl (take_ofW HT_.out HW_.out (by kernel_rfl)) (fun _ _ _ h => h) (Or.inl ⟨by rfl, ?_⟩) hHeld ?_ ?_
                       rotate_left
                       ·as_aux_lemma =>
                        rintro w' ⟨s0, s1, s2, s3, s4, s5⟩
                        go_simp
                        with_reducible rfl
                       rotate_left
                       ·as_aux_lemma =>
                        simp only [Act.put, List.setIfInBounds_toArray, List.set_cons_zero, List.set_cons_succ, i64_w, i32_w]
                        rfl
                       refine pure_ (i := 5) (N := some 163) (v := ?_) (a' := ?_) #[true, true, true, true, true, true, false, false, false, false, false, false, false, false, false, false, false, false, false, false, false, false, false, false, false, false, false, false, false] rfl rfl (any_of HT_.out (by kernel_rfl)) (fun _ _ _ h => h) (Or.inl ⟨by rfl, ?_⟩) ?_ ?_
                       rotate_left
                       ·as_aux_lemma =>
                        intro w'
                        go_simp
                        with_reducible rfl
                       rotate_left
                       ·as_aux_lemma =>
                        simp only [Act.put, List.setIfInBounds_toArray, List.set_cons_zero, List.set_cons_succ, i64_w, i32_w]
                        rfl
                       refine pure_ (i := 6) (N := some 164) (v := ?_) (a' := ?_) #[true, true, true, true, true, true, true, false, false, false, false, false, false, false, false, false, false, false, false, false, false, false, false, false, false, false, false, false, false] rfl rfl (any_of HT_.out (by kernel_rfl)) (fun _ _ _ h => h) (Or.inl ⟨by rfl, ?_⟩) ?_ ?_
                       rotate_left
                       ·as_aux_lemma =>
                        intro w'
                        go_simp
                        with_reducible rfl
                       rotate_left
                       ·as_aux_lemma =>
                        simp only [Act.put, List.setIfInBounds_toArray, List.set_cons_zero, List.set_cons_succ, i64_w, i32_w]
                        rfl
                       refine pure_ (i := 7) (N := some 165) (v := undef) (a' := ?_) #[true, true, true, true, true, true, true, true, false, false, false, false, false, false, false, false, false, false, false, false, false, false, false, false, false, false, false, false, false] rfl rfl (any_of HT_.out (by kernel_rfl)) (fun _ _ _ h => h) (Or.inr ⟨by rfl, rfl⟩) ?_ ?_
                       rotate_left
                       ·as_aux_lemma =>
                        simp only [Act.put, List.setIfInBounds_toArray, List.set_cons_zero, List.set_cons_succ, i64_w, i32_w]
                        rfl
                       refine pure_ (i := 8) (N := some 166) (v := undef) (a' := ?_) #[true, true, true, true, true, true, true, true, true, false, false, false, false, false, false, false, false, false, false, false, false, false, false, false, false, false, false, false, false] rfl rfl (any_of HT_.out (by kernel_rfl)) (fun _ _ _ h => h) (Or.inr ⟨by rfl, rfl⟩) ?_ ?_
                       rotate_left
                       ·as_aux_lemma =>
                        simp only [Act.put, List.setIfInBounds_toArray, List.set_cons_zero, List.set_cons_succ, i64_w, i32_w]
                        rfl
                       refine pure_ (i := 9) (N := some 167) (v := undef) (a' := ?_) #[true, true, true, true, true, true, true, true, true, true, false, false, false, false, false, false, false, false, false, false, false, false, false, false, false, false, false, false, false] rfl rfl (any_of HT_.out (by kernel_rfl)) (fun _ _ _ h => h) (Or.inr ⟨by rfl, rfl⟩) ?_ ?_
                       rotate_left
                       ·as_aux_lemma =>
                        simp only [Act.put, List.setIfInBounds_toArray, List.set_cons_zero, List.set_cons_succ, i64_w, i32_w]
                        rfl
                       refine pure_ (i := 10) (N := some 168) (v := undef) (a' := ?_) #[true, true, true, true, true, true, true, true, true, true, true, false, false, false, false, false, false, false, false, false, false, false, false, false, false, false, false, false, false] rfl rfl (any_of HT_.out (by kernel_rfl)) (fun _ _ _ h => h) (Or.inr ⟨by rfl, rfl⟩) ?_ ?_
                       rotate_left
                       ·as_aux_lemma =>
                        simp only [Act.put, List.setIfInBounds_toArray, List.set_cons_zero, List.set_cons_succ, i64_w, i32_w]
                        rfl
                       refine pure_ (i := 11) (N := some 169) (v := undef) (a' := ?_) #[true, true, true, true, true, true, true, true, true, true, true, true, false, false, false, false, false, false, false, false, false, false, false, false, false, false, false, false, false] rfl rfl (any_of HT_.out (by kernel_rfl)) (fun _ _ _ h => h) (Or.inr ⟨by rfl, rfl⟩) ?_ ?_
                       rotate_left
                       ·as_aux_lemma =>
                        simp only [Act.put, List.setIfInBounds_toArray, List.set_cons_zero, List.set_cons_succ, i64_w, i32_w]
                        rfl
                       refine pure_ (i := 12) (N := some 170) (v := undef) (a' := ?_) #[true, true, true, true, true, true, true, true, true, true, true, true, true, false, false, false, false, false, false, false, false, false, false, false, false, false, false, false, false] rfl rfl (any_of HT_.out (by kernel_rfl)) (fun _ _ _ h => h) (Or.inr ⟨by rfl, rfl⟩) ?_ ?_
                       rotate_left
                       ·as_aux_lemma =>
                        simp only [Act.put, List.setIfInBounds_toArray, List.set_cons_zero, List.set_cons_succ, i64_w, i32_w]
                        rfl
                       refine pure_ (i := 13) (N := some 171) (v := undef) (a' := ?_) #[true, true, true, true, true, true, true, true, true, true, true, true, true, true, false, false, false, false, false, false, false, false, false, false, false, false, false, false, false] rfl rfl (any_of HT_.out (by kernel_rfl)) (fun _ _ _ h => h) (Or.inr ⟨by rfl, rfl⟩) ?_ ?_
                       rotate_left
                       ·as_aux_lemma =>
                        simp only [Act.put, List.setIfInBounds_toArray, List.set_cons_zero, List.set_cons_succ, i64_w, i32_w]
                        rfl
                       refine pure_ (i := 14) (N := some 172) (v := undef) (a' := ?_) #[true, true, true, true, true, true, true, true, true, true, true, true, true, true, true, false, false, false, false, false, false, false, false, false, false, false, false, false, false] rfl rfl (any_of HT_.out (by kernel_rfl)) (fun _ _ _ h => h) (Or.inr ⟨by rfl, rfl⟩) ?_ ?_
                       rotate_left
                       ·as_aux_lemma =>
                        simp only [Act.put, List.setIfInBounds_toArray, List.set_cons_zero, List.set_cons_succ, i64_w, i32_w]
                        rfl
                       refine pure_ (i := 15) (N := some 173) (v := ?_) (a' := ?_) #[true, true, true, true, true, true, true, true, true, true, true, true, true, true, true, true, false, false, false, false, false, false, false, false, false, false, false, false, false] rfl rfl (any_of HT_.out (by kernel_rfl)) (fun _ _ _ h => h) (Or.inl ⟨by rfl, ?_⟩) ?_ ?_
                       rotate_left
                       ·as_aux_lemma =>
                        intro w'
                        go_simp
                        with_reducible rfl
                       rotate_left
                       ·as_aux_lemma =>
                        simp only [Act.put, List.setIfInBounds_toArray, List.set_cons_zero, List.set_cons_succ, i64_w, i32_w]
                        rfl
                       refine pure_ (i := 16) (N := some 174) (v := ?_) (a' := ?_) #[true, true, true, true, true, true, true, true, true, true, true, true, true, true, true, true, true, false, false, false, false, false, false, false, false, false, false, false, false] rfl rfl (any_of HT_.out (by kernel_rfl)) (fun _ _ _ h => h) (Or.inl ⟨by rfl, ?_⟩) ?_ ?_
                       rotate_left
                       ·as_aux_lemma =>
                        intro w'
                        go_simp
                        with_reducible rfl
                       rotate_left
                       ·as_aux_lemma =>
                        simp only [Act.put, List.setIfInBounds_toArray, List.set_cons_zero, List.set_cons_succ, i64_w, i32_w]
                        rfl
                       refine pure_ (i := 17) (N := some 175) (v := undef) (a' := ?_) #[true, true, true, true, true, true, true, true, true, true, true, true, true, true, true, true, true, true, false, false, false, false, false, false, false, false, false, false, false] rfl rfl (any_of HT_.out (by kernel_rfl)) (fun _ _ _ h => h) (Or.inr ⟨by rfl, rfl⟩) ?_ ?_
                       rotate_left
                       ·as_aux_lemma =>
                        simp only [Act.put, List.setIfInBounds_toArray, List.set_cons_zero, List.set_cons_succ, i64_w, i32_w]
                        rfl
                       refine pure_ (i := 18) (N := some 176) (v := undef) (a' := ?_) #[true, true, true, true, true, true, true, true, true, true, true, true, true, true, true, true, true, true, true, false, false, false, false, false, false, false, false, false, false] rfl rfl (any_of HT_.out (by kernel_rfl)) (fun _ _ _ h => h) (Or.inr ⟨by rfl, rfl⟩) ?_ ?_
                       rotate_left
                       ·as_aux_lemma =>
                        simp only [Act.put, List.setIfInBounds_toArray, List.set_cons_zero, List.set_cons_succ, i64_w, i32_w]
                        rfl
                       refine pure_ (i := 19) (N := some 177) (v := undef) (a' := ?_) #[true, true, true, true, true, true, true, true, true, true, true, true, true, true, true, true, true, true, true, true, false, false, false, false, false, false, false, false, false] rfl rfl (any_of HT_.out (by kernel_rfl)) (fun _ _ _ h => h) (Or.inr ⟨by rfl, rfl⟩) ?_ ?_
                       rotate_left
                       ·as_aux_lemma =>
                        simp only [Act.put, List.setIfInBounds_toArray, List.set_cons_zero, List.set_cons_succ, i64_w, i32_w]
                        rfl
                       refine pure_ (i := 20) (N := some 178) (v := undef) (a' := ?_) #[true, true, true, true, true, true, true, true, true, true, true, true, true, true, true, true, true, true, true, true, true, false, false, false, false, false, false, false, false] rfl rfl (any_of HT_.out (by kernel_rfl)) (fun _ _ _ h => h) (Or.inr ⟨by rfl, rfl⟩) ?_ ?_
                       rotate_left
                       ·as_aux_lemma =>
                        simp only [Act.put, List.setIfInBounds_toArray, List.set_cons_zero, List.set_cons_succ, i64_w, i32_w]
                        rfl
                       refine pure_ (i := 21) (N := some 179) (v := undef) (a' := ?_) #[true, true, true, true, true, true, true, true, true, true, true, true, true, true, true, true, true, true, true, true, true, true, false, false, false, false, false, false, false] rfl rfl (any_of HT_.out (by kernel_rfl)) (fun _ _ _ h => h) (Or.inr ⟨by rfl, rfl⟩) ?_ ?_
                       rotate_left
                       ·as_aux_lemma =>
                        simp only [Act.put, List.setIfInBounds_toArray, List.set_cons_zero, List.set_cons_succ, i64_w, i32_w]
                        rfl
                       refine pure_ (i := 22) (N := some 180) (v := undef) (a' := ?_) #[true, true, true, true, true, true, true, true, true, true, true, true, true, true, true, true, true, true, true, true, true, true, true, false, false, false, false, false, false] rfl rfl (any_of HT_.out (by kernel_rfl)) (fun _ _ _ h => h) (Or.inr ⟨by rfl, rfl⟩) ?_ ?_
                       rotate_left
                       ·as_aux_lemma =>
                        simp only [Act.put, List.setIfInBounds_toArray, List.set_cons_zero, List.set_cons_succ, i64_w, i32_w]
                        rfl
                       refine pure_ (i := 23) (N := some 181) (v := undef) (a' := ?_) #[true, true, true, true, true, true, true, true, true, true, true, true, true, true, true, true, true, true, true, true, true, true, true, true, false, false, false, false, false] rfl rfl (any_of HT_.out (by kernel_rfl)) (fun _ _ _ h => h) (Or.inr ⟨by rfl, rfl⟩) ?_ ?_
                       rotate_left
                       ·as_aux_lemma =>
                        simp only [Act.put, List.setIfInBounds_toArray, List.set_cons_zero, List.set_cons_succ, i64_w, i32_w]
                        rfl
                       refine pure_ (i := 24) (N := some 182) (v := undef) (a' := ?_) #[true, true, true, true, true, true, true, true, true, true, true, true, true, true, true, true, true, true, true, true, true, true, true, true, true, false, false, false, false] rfl rfl (any_of HT_.out (by kernel_rfl)) (fun _ _ _ h => h) (Or.inr ⟨by rfl, rfl⟩) ?_ ?_
                       rotate_left
                       ·as_aux_lemma =>
                        simp only [Act.put, List.setIfInBounds_toArray, List.set_cons_zero, List.set_cons_succ, i64_w, i32_w]
                        rfl
                       refine pure_ (i := 25) (N := some 183) (v := undef) (a' := ?_) #[true, true, true, true, true, true, true, true, true, true, true, true, true, true, true, true, true, true, true, true, true, true, true, true, true, true, false, false, false] rfl rfl (any_of HT_.out (by kernel_rfl)) (fun _ _ _ h => h) (Or.inr ⟨by rfl, rfl⟩) ?_ ?_
                       rotate_left
                       ·as_aux_lemma =>
                        simp only [Act.put, List.setIfInBounds_toArray, List.set_cons_zero, List.set_cons_succ, i64_w, i32_w]
                        rfl
                       refine pure_ (i := 26) (N := some 184) (v := undef) (a' := ?_) #[true, true, true, true, true, true, true, true, true, true, true, true, true, true, true, true, true, true, true, true, true, true, true, true, true, true, true, false, false] rfl rfl (any_of HT_.out (by kernel_rfl)) (fun _ _ _ h => h) (Or.inr ⟨by rfl, rfl⟩) ?_ ?_
                       rotate_left
                       ·as_aux_lemma =>
                        simp only [Act.put, List.setIfInBounds_toArray, List.set_cons_zero, List.set_cons_succ, i64_w, i32_w]
                        rfl
                       refine pure_ (i := 27) (N := some 185) (v := undef) (a' := ?_) #[true, true, true, true, true, true, true, true, true, true, true, true, true, true, true, true, true, true, true, true, true, true, true, true, true, true, true, true, false] rfl rfl (any_of HT_.out (by kernel_rfl)) (fun _ _ _ h => h) (Or.inr ⟨by rfl, rfl⟩) ?_ ?_
                       rotate_left
                       ·as_aux_lemma =>
                        simp only [Act.put, List.setIfInBounds_toArray, List.set_cons_zero, List.set_cons_succ, i64_w, i32_w]
                        rfl
                       refine pure_ (i := 28) (N := some 186) (v := ?_) (a' := ?_) #[true, true, true, true, true, true, true, true, true, true, true, true, true, true, true, true, true, true, true, true, true, true, true, true, true, true, true, true, true] rfl rfl (any_of HT_.out (by kernel_rfl)) (fun _ _ _ h => h) (Or.inl ⟨by rfl, ?_⟩) ?_ ?_
                       rotate_left
                       ·as_aux_lemma =>
                        intro w'
                        go_simp
                        with_reducible rfl
                       rotate_left
                       ·as_aux_lemma =>
                        simp only [Act.put, List.setIfInBounds_toArray, List.set_cons_zero, List.set_cons_succ, i64_w, i32_w]
                        rfl
                       refine done_ (done_of HT_.out (by kernel_rfl)) ?_
                       try go_wp2
                       go_meet
                       case rel => exact ⟨_, (true), (by first | rfl | (simp; done) | (simp [*]; done)), H', ⟨by have := HJ6.out; have := HK2.out; have := HJ39.out; have := HJ52.out; have := HK5.out; first | omega | exact Nat.le_refl _⟩, ⟨by (try simp only [hl15_39]); (with_reducible repeat (first | apply Kd.R_alloc | apply Kd.R_drewN | apply Kd.R_drew)); exact HO_12.out⟩, ⟨by repeat (first | (with_reducible first | exact HB.out | apply below_alloc | apply pw_below_drewN | apply below_drew1) | exact HB.out)⟩⟩
                      ·as_aux_lemma =>
                       rw [if_neg c66] at H
                       have c66b0 : decide (((rd_T47 t287 x21_5).f0) < 0) = false := decide_eq_false c66
                       (try simp only [hl15_39] at c66b0)
                       clear c66
                       by_cases c68 : ((rd_T47 t287 x21_5).f1) ≥ (l0.length : Int)
                       ·as_aux_lemma =>
                        rw [if_pos c68] at H
                        have c68b0 : decide ((l0.length : Int) ≤ ((rd_T47 t287 x21_5).f1)) = true := decide_eq_true c68
                        (try simp only [hl15_39] at c68b0)
                        clear c68
                        have H' := Aside0.mk H
                        clear H
                        try go_wp2
                        have n0_ := Aside0.mk (Kd.R_drew HO_12.out)
                        have n1_ := Aside0.mk (below_drew1 HB.out)
                        clear HO_12
                        clear HB
                        have HO_12 := n0_
                        have HB := n1_
                        clear n0_ n1_
                        have p321 : 0 ≤ (x21_5 : Int) := of_decide_eq_true (by first | (with_reducible assumption) | assumption)
                        have q321 : x21_5 < (t287.length : Int) := of_decide_eq_true (by first | (with_reducible assumption) | assumption)
                        obtain ⟨ad321, e321, hx321_0, hx321_1, hx321_2, hx321_3, hx321_4, hx321_5⟩ := at_T47 (Kd.R_reads' HO_12.out).2.2 x21_5 p321 q321
                        cases e321
                        replace p321 := eq_true p321
                        replace q321 := eq_true q321
                        have p322 : 0 ≤ (x21_5 : Int) := of_decide_eq_true (by first | (with_reducible assumption) | assumption)
                        have q322 : x21_5 < (t287.length : Int) := of_decide_eq_true (by first | (with_reducible assumption) | assumption)
                        obtain ⟨ad322, e322, hx322_0, hx322_1, hx322_2, hx322_3, hx322_4, hx322_5⟩ := at_T47 (Kd.R_reads' HO_12.out).2.2 x21_5 p322 q322
                        obtain rfl : ad321 = ad322 := (by injection e322)
                        replace p322 := eq_true p322
                        replace q322 := eq_true q322
                        refine start_ (n := 29) (S := fun w' => w'.cell? (ad321.add ((x21_5).toNat * 6)) = some (.int .i64 ((rd_T47 t287 x21_5).f0)) ∧ w'.cell? ⟨(ad321.add ((x21_5).toNat * 6)).block, (ad321.add ((x21_5).toNat * 6)).off + 1, none⟩ = some (.int .i64 ((rd_T47 t287 x21_5).f1)) ∧ w'.cell? ⟨(ad321.add ((x21_5).toNat * 6)).block, (ad321.add ((x21_5).toNat * 6)).off + 2, none⟩ = some (.int .i64 ((rd_T47 t287 x21_5).f2.f0)) ∧ w'.cell? ⟨(ad321.add ((x21_5).toNat * 6)).block, (ad321.add ((x21_5).toNat * 6)).off + 3, none⟩ = some (.int .i64 ((rd_T47 t287 x21_5).f2.f1)) ∧ w'.cell? ⟨(ad321.add ((x21_5).toNat * 6)).block, (ad321.add ((x21_5).toNat * 6)).off + 4, none⟩ = some (.int .i64 ((rd_T47 t287 x21_5).f2.f2)) ∧ w'.cell? ⟨(ad321.add ((x21_5).toNat * 6)).block, (ad321.add ((x21_5).toNat * 6)).off + 5, none⟩ = some (.int .i64 ((rd_T47 t287 x21_5).f3)) ∧ w'.cell? (ad321.add ((x21_5).toNat * 6)) = some (.int .i64 ((rd_T47 t287 x21_5).f0)) ∧ w'.cell? ⟨(ad321.add ((x21_5).toNat * 6)).block, (ad321.add ((x21_5).toNat * 6)).off + 1, none⟩ = some (.int .i64 ((rd_T47 t287 x21_5).f1)) ∧ w'.cell? ⟨(ad321.add ((x21_5).toNat * 6)).block, (ad321.add ((x21_5).toNat * 6)).off + 2, none⟩ = some (.int .i64 ((rd_T47 t287 x21_5).f2.f0)) ∧ w'.cell? ⟨(ad321.add ((x21_5).toNat * 6)).block, (ad321.add ((x21_5).toNat * 6)).off + 3, none⟩ = some (.int .i64 ((rd_T47 t287 x21_5).f2.f1)) ∧ w'.cell? ⟨(ad321.add ((x21_5).toNat * 6)).block, (ad321.add ((x21_5).toNat * 6)).off + 4, none⟩ = some (.int .i64 ((rd_T47 t287 x21_5).f2.f2)) ∧ w'.cell? ⟨(ad321.add ((x21_5).toNat * 6)).block, (ad321.add ((x21_5).toNat * 6)).off + 5, none⟩ = some (.int .i64 ((rd_T47 t287 x21_5).f3))) (ds := []) #[false, false, false, false, false, false, false, false, false, false, false, false, false, false, false, false, false, false, false, false, false, false, false, false, false, false, false, false, false] (by kernel_rfl) rfl rfl ⟨hx321_0, hx321_1, hx321_2, hx321_3, hx321_4, hx321_5, hx322_0, hx322_1, hx322_2, hx322_3, hx322_4, hx322_5⟩ (fun hHeld => ?_); refine with_tabW fringelaw41_SkyPlaces.tab25 fringelaw41_SkyPlaces.bits25 (fun HT_ HW_ => ?_)
                        generalize wr.drew = w69 at HO_12 HB hx321_0 hx321_1 hx321_2 hx321_3 hx321_4 hx321_5 hx322_0 hx322_1 hx322_2 hx322_3 hx322_4 hx322_5 hHeld ⊢
                        refine pure_ (i := 0) (N := some 158) (v := ?_) (a' := ?_) #[true, false, false, false, false, false, false, false, false, false, false, false, false, false, false, false, false, false, false, false, false, false, false, false, false, false, false, false, false] rfl rfl (any_of HT_.out (by kernel_rfl)) (fun _ _ _ h => h) (Or.inl ⟨by rfl, ?_⟩) ?_ ?_
                        rotate_left
                        ·as_aux_lemma =>
                         intro w'
                         go_simp
                         with_reducible rfl
                        rotate_left
                        ·as_aux_lemma =>
                         simp only [Act.put, List.setIfInBounds_toArray, List.set_cons_zero, List.set_cons_succ, i64_w, i32_w]
                         rfl
                        refine pure_ (i := 1) (N := some 159) (v := ?_) (a' := ?_) #[true, true, false, false, false, false, false, false, false, false, false, false, false, false, false, false, false, false, false, false, false, false, false, false, false, false, false, false, false] rfl rfl (any_of HT_.out (by kernel_rfl)) (fun _ _ _ h => h) (Or.inl ⟨by rfl, ?_⟩) ?_ ?_
                        rotate_left
                        ·as_aux_lemma =>
                         intro w'
                         go_simp
                         with_reducible rfl
                        rotate_left
                        ·as_aux_lemma =>
                         simp only [Act.put, List.setIfInBounds_toArray, List.set_cons_zero, List.set_cons_succ, i64_w, i32_w]
                         rfl
                        refine pure_ (i := 2) (N := some 160) (v := ?_) (a' := ?_) #[true, true, true, false, false, false, false, false, false, false, false, false, false, false, false, false, false, false, false, false, false, false, false, false, false, false, false, false, false] rfl rfl (any_of HT_.out (by kernel_rfl)) (fun _ _ _ h => h) (Or.inl ⟨by rfl, ?_⟩) ?_ ?_
                        rotate_left
                        ·as_aux_lemma =>
                         intro w'
                         go_simp
                         with_reducible rfl
                        rotate_left
                        ·as_aux_lemma =>
                         simp only [Act.put, List.setIfInBounds_toArray, List.set_cons_zero, List.set_cons_succ, i64_w, i32_w]
                         rfl
                        refine pure_ (i := 3) (N := some 161) (v := ?_) (a' := ?_) #[true, true, true, true, false, false, false, false, false, false, false, false, false, false, false, false, false, false, false, false, false, false, false, false, false, false, false, false, false] rfl rfl (any_of HT_.out (by kernel_rfl)) (fun _ _ _ h => h) (Or.inl ⟨by rfl, ?_⟩) ?_ ?_
                        rotate_left
                        ·as_aux_lemma =>
                         intro w'
                         go_simp
                         with_reducible rfl
                        rotate_left
                        ·as_aux_lemma =>
                         simp only [Act.put, List.setIfInBounds_toArray, List.set_cons_zero, List.set_cons_succ, i64_w, i32_w]
                         rfl
                        refine take_ (i := 4) (N := some 162) (v := ?_) (a' := ?_) #[true, true, true, true, true, false, false, false, false, false, false, false, false, false, false, false, false, false, false, false, false, false, false, false, false, false, false, false, false] rfl rfl (take_ofW HT_.out HW_.out (by kernel_rfl)) (fun _ _ _ h => h) (Or.inl ⟨by rfl, ?_⟩) hHeld ?_ ?_
                        rotate_left
                        ·as_aux_lemma =>
                         rintro w' ⟨s0, s1, s2, s3, s4, s5, s6, s7, s8, s9, s10, s11⟩
                         go_simp
                         with_reducible rfl
                        rotate_left
                        ·as_aux_lemma =>
                         simp only [Act.put, List.setIfInBounds_toArray, List.set_cons_zero, List.set_cons_succ, i64_w, i32_w]
                         rfl
                        refine pure_ (i := 5) (N := some 163) (v := ?_) (a' := ?_) #[true, true, true, true, true, true, false, false, false, false, false, false, false, false, false, false, false, false, false, false, false, false, false, false, false, false, false, false, false] rfl rfl (any_of HT_.out (by kernel_rfl)) (fun _ _ _ h => h) (Or.inl ⟨by rfl, ?_⟩) ?_ ?_
                        rotate_left
                        ·as_aux_lemma =>
                         intro w'
                         go_simp
                         with_reducible rfl
                        rotate_left
                        ·as_aux_lemma =>
                         simp only [Act.put, List.setIfInBounds_toArray, List.set_cons_zero, List.set_cons_succ, i64_w, i32_w]
                         rfl
                        refine pure_ (i := 6) (N := some 164) (v := ?_) (a' := ?_) #[true, true, true, true, true, true, true, false, false, false, false, false, false, false, false, false, false, false, false, false, false, false, false, false, false, false, false, false, false] rfl rfl (any_of HT_.out (by kernel_rfl)) (fun _ _ _ h => h) (Or.inl ⟨by rfl, ?_⟩) ?_ ?_
                        rotate_left
                        ·as_aux_lemma =>
                         intro w'
                         go_simp
                         with_reducible rfl
                        rotate_left
                        ·as_aux_lemma =>
                         simp only [Act.put, List.setIfInBounds_toArray, List.set_cons_zero, List.set_cons_succ, i64_w, i32_w]
                         rfl
                        refine pure_ (i := 7) (N := some 165) (v := ?_) (a' := ?_) #[true, true, true, true, true, true, true, true, false, false, false, false, false, false, false, false, false, false, false, false, false, false, false, false, false, false, false, false, false] rfl rfl (any_of HT_.out (by kernel_rfl)) (fun _ _ _ h => h) (Or.inl ⟨by rfl, ?_⟩) ?_ ?_
                        rotate_left
                        ·as_aux_lemma =>
                         intro w'
                         go_simp
                         with_reducible rfl
                        rotate_left
                        ·as_aux_lemma =>
                         simp only [Act.put, List.setIfInBounds_toArray, List.set_cons_zero, List.set_cons_succ, i64_w, i32_w]
                         rfl
                        refine pure_ (i := 8) (N := some 166) (v := ?_) (a' := ?_) #[true, true, true, true, true, true, true, true, true, false, false, false, false, false, false, false, false, false, false, false, false, false, false, false, false, false, false, false, false] rfl rfl (any_of HT_.out (by kernel_rfl)) (fun _ _ _ h => h) (Or.inl ⟨by rfl, ?_⟩) ?_ ?_
                        rotate_left
                        ·as_aux_lemma =>
                         intro w'
                         go_simp
                         with_reducible rfl
                        rotate_left
                        ·as_aux_lemma =>
                         simp only [Act.put, List.setIfInBounds_toArray, List.set_cons_zero, List.set_cons_succ, i64_w, i32_w]
                         rfl
                        refine pure_ (i := 9) (N := some 167) (v := ?_) (a' := ?_) #[true, true, true, true, true, true, true, true, true, true, false, false, false, false, false, false, false, false, false, false, false, false, false, false, false, false, false, false, false] rfl rfl (any_of HT_.out (by kernel_rfl)) (fun _ _ _ h => h) (Or.inl ⟨by rfl, ?_⟩) ?_ ?_
                        rotate_left
                        ·as_aux_lemma =>
                         intro w'
                         go_simp
                         with_reducible rfl
                        rotate_left
                        ·as_aux_lemma =>
                         simp only [Act.put, List.setIfInBounds_toArray, List.set_cons_zero, List.set_cons_succ, i64_w, i32_w]
                         rfl
                        refine pure_ (i := 10) (N := some 168) (v := ?_) (a' := ?_) #[true, true, true, true, true, true, true, true, true, true, true, false, false, false, false, false, false, false, false, false, false, false, false, false, false, false, false, false, false] rfl rfl (any_of HT_.out (by kernel_rfl)) (fun _ _ _ h => h) (Or.inl ⟨by rfl, ?_⟩) ?_ ?_
                        rotate_left
                        ·as_aux_lemma =>
                         intro w'
                         go_simp
                         with_reducible rfl
                        rotate_left
                        ·as_aux_lemma =>
                         simp only [Act.put, List.setIfInBounds_toArray, List.set_cons_zero, List.set_cons_succ, i64_w, i32_w]
                         rfl
                        refine pure_ (i := 12) (N := some 170) (v := ?_) (a' := ?_) #[true, true, true, true, true, true, true, true, true, true, true, false, true, false, false, false, false, false, false, false, false, false, false, false, false, false, false, false, false] rfl rfl (any_of HT_.out (by kernel_rfl)) (fun _ _ _ h => h) (Or.inl ⟨by rfl, ?_⟩) ?_ ?_
                        rotate_left
                        ·as_aux_lemma =>
                         intro w'
                         go_simp
                         with_reducible rfl
                        rotate_left
                        ·as_aux_lemma =>
                         simp only [Act.put, List.setIfInBounds_toArray, List.set_cons_zero, List.set_cons_succ, i64_w, i32_w]
                         rfl
                        refine pure_ (i := 13) (N := some 171) (v := ?_) (a' := ?_) #[true, true, true, true, true, true, true, true, true, true, true, false, true, true, false, false, false, false, false, false, false, false, false, false, false, false, false, false, false] rfl rfl (any_of HT_.out (by kernel_rfl)) (fun _ _ _ h => h) (Or.inl ⟨by rfl, ?_⟩) ?_ ?_
                        rotate_left
                        ·as_aux_lemma =>
                         intro w'
                         go_simp
                         with_reducible rfl
                        rotate_left
                        ·as_aux_lemma =>
                         simp only [Act.put, List.setIfInBounds_toArray, List.set_cons_zero, List.set_cons_succ, i64_w, i32_w]
                         rfl
                        refine take_ (i := 11) (N := some 169) (v := ?_) (a' := ?_) #[true, true, true, true, true, true, true, true, true, true, true, true, true, true, false, false, false, false, false, false, false, false, false, false, false, false, false, false, false] rfl rfl (take_ofW HT_.out HW_.out (by kernel_rfl)) (fun _ _ _ h => h) (Or.inl ⟨by rfl, ?_⟩) hHeld ?_ ?_
                        rotate_left
                        ·as_aux_lemma =>
                         rintro w' ⟨s0, s1, s2, s3, s4, s5, s6, s7, s8, s9, s10, s11⟩
                         go_simp
                         with_reducible rfl
                        rotate_left
                        ·as_aux_lemma =>
                         simp only [Act.put, List.setIfInBounds_toArray, List.set_cons_zero, List.set_cons_succ, i64_w, i32_w]
                         rfl
                        refine pure_ (i := 14) (N := some 172) (v := ?_) (a' := ?_) #[true, true, true, true, true, true, true, true, true, true, true, true, true, true, true, false, false, false, false, false, false, false, false, false, false, false, false, false, false] rfl rfl (any_of HT_.out (by kernel_rfl)) (fun _ _ _ h => h) (Or.inl ⟨by rfl, ?_⟩) ?_ ?_
                        rotate_left
                        ·as_aux_lemma =>
                         intro w'
                         go_simp
                         with_reducible rfl
                        rotate_left
                        ·as_aux_lemma =>
                         simp only [Act.put, List.setIfInBounds_toArray, List.set_cons_zero, List.set_cons_succ, i64_w, i32_w]
                         rfl
                        refine pure_ (i := 15) (N := some 173) (v := ?_) (a' := ?_) #[true, true, true, true, true, true, true, true, true, true, true, true, true, true, true, true, false, false, false, false, false, false, false, false, false, false, false, false, false] rfl rfl (any_of HT_.out (by kernel_rfl)) (fun _ _ _ h => h) (Or.inl ⟨by rfl, ?_⟩) ?_ ?_
                        rotate_left
                        ·as_aux_lemma =>
                         intro w'
                         go_simp
                         with_reducible rfl
                        rotate_left
                        ·as_aux_lemma =>
                         simp only [Act.put, List.setIfInBounds_toArray, List.set_cons_zero, List.set_cons_succ, i64_w, i32_w]
                         rfl
                        refine pure_ (i := 16) (N := some 174) (v := ?_) (a' := ?_) #[true, true, true, true, true, true, true, true, true, true, true, true, true, true, true, true, true, false, false, false, false, false, false, false, false, false, false, false, false] rfl rfl (any_of HT_.out (by kernel_rfl)) (fun _ _ _ h => h) (Or.inl ⟨by rfl, ?_⟩) ?_ ?_
                        rotate_left
                        ·as_aux_lemma =>
                         intro w'
                         go_simp
                         with_reducible rfl
                        rotate_left
                        ·as_aux_lemma =>
                         simp only [Act.put, List.setIfInBounds_toArray, List.set_cons_zero, List.set_cons_succ, i64_w, i32_w]
                         rfl
                        refine pure_ (i := 17) (N := some 175) (v := undef) (a' := ?_) #[true, true, true, true, true, true, true, true, true, true, true, true, true, true, true, true, true, true, false, false, false, false, false, false, false, false, false, false, false] rfl rfl (any_of HT_.out (by kernel_rfl)) (fun _ _ _ h => h) (Or.inr ⟨by rfl, rfl⟩) ?_ ?_
                        rotate_left
                        ·as_aux_lemma =>
                         simp only [Act.put, List.setIfInBounds_toArray, List.set_cons_zero, List.set_cons_succ, i64_w, i32_w]
                         rfl
                        refine pure_ (i := 18) (N := some 176) (v := undef) (a' := ?_) #[true, true, true, true, true, true, true, true, true, true, true, true, true, true, true, true, true, true, true, false, false, false, false, false, false, false, false, false, false] rfl rfl (any_of HT_.out (by kernel_rfl)) (fun _ _ _ h => h) (Or.inr ⟨by rfl, rfl⟩) ?_ ?_
                        rotate_left
                        ·as_aux_lemma =>
                         simp only [Act.put, List.setIfInBounds_toArray, List.set_cons_zero, List.set_cons_succ, i64_w, i32_w]
                         rfl
                        refine pure_ (i := 19) (N := some 177) (v := undef) (a' := ?_) #[true, true, true, true, true, true, true, true, true, true, true, true, true, true, true, true, true, true, true, true, false, false, false, false, false, false, false, false, false] rfl rfl (any_of HT_.out (by kernel_rfl)) (fun _ _ _ h => h) (Or.inr ⟨by rfl, rfl⟩) ?_ ?_
                        rotate_left
                        ·as_aux_lemma =>
                         simp only [Act.put, List.setIfInBounds_toArray, List.set_cons_zero, List.set_cons_succ, i64_w, i32_w]
                         rfl
                        refine pure_ (i := 20) (N := some 178) (v := undef) (a' := ?_) #[true, true, true, true, true, true, true, true, true, true, true, true, true, true, true, true, true, true, true, true, true, false, false, false, false, false, false, false, false] rfl rfl (any_of HT_.out (by kernel_rfl)) (fun _ _ _ h => h) (Or.inr ⟨by rfl, rfl⟩) ?_ ?_
                        rotate_left
                        ·as_aux_lemma =>
                         simp only [Act.put, List.setIfInBounds_toArray, List.set_cons_zero, List.set_cons_succ, i64_w, i32_w]
                         rfl
                        refine pure_ (i := 21) (N := some 179) (v := undef) (a' := ?_) #[true, true, true, true, true, true, true, true, true, true, true, true, true, true, true, true, true, true, true, true, true, true, false, false, false, false, false, false, false] rfl rfl (any_of HT_.out (by kernel_rfl)) (fun _ _ _ h => h) (Or.inr ⟨by rfl, rfl⟩) ?_ ?_
                        rotate_left
                        ·as_aux_lemma =>
                         simp only [Act.put, List.setIfInBounds_toArray, List.set_cons_zero, List.set_cons_succ, i64_w, i32_w]
                         rfl
                        refine pure_ (i := 22) (N := some 180) (v := undef) (a' := ?_) #[true, true, true, true, true, true, true, true, true, true, true, true, true, true, true, true, true, true, true, true, true, true, true, false, false, false, false, false, false] rfl rfl (any_of HT_.out (by kernel_rfl)) (fun _ _ _ h => h) (Or.inr ⟨by rfl, rfl⟩) ?_ ?_
                        rotate_left
                        ·as_aux_lemma =>
                         simp only [Act.put, List.setIfInBounds_toArray, List.set_cons_zero, List.set_cons_succ, i64_w, i32_w]
                         rfl
                        refine pure_ (i := 23) (N := some 181) (v := undef) (a' := ?_) #[true, true, true, true, true, true, true, true, true, true, true, true, true, true, true, true, true, true, true, true, true, true, true, true, false, false, false, false, false] rfl rfl (any_of HT_.out (by kernel_rfl)) (fun _ _ _ h => h) (Or.inr ⟨by rfl, rfl⟩) ?_ ?_
                        rotate_left
                        ·as_aux_lemma =>
                         simp only [Act.put, List.setIfInBounds_toArray, List.set_cons_zero, List.set_cons_succ, i64_w, i32_w]
                         rfl
                        refine pure_ (i := 24) (N := some 182) (v := undef) (a' := ?_) #[true, true, true, true, true, true, true, true, true, true, true, true, true, true, true, true, true, true, true, true, true, true, true, true, true, false, false, false, false] rfl rfl (any_of HT_.out (by kernel_rfl)) (fun _ _ _ h => h) (Or.inr ⟨by rfl, rfl⟩) ?_ ?_
                        rotate_left
                        ·as_aux_lemma =>
                         simp only [Act.put, List.setIfInBounds_toArray, List.set_cons_zero, List.set_cons_succ, i64_w, i32_w]
                         rfl
                        refine pure_ (i := 25) (N := some 183) (v := undef) (a' := ?_) #[true, true, true, true, true, true, true, true, true, true, true, true, true, true, true, true, true, true, true, true, true, true, true, true, true, true, false, false, false] rfl rfl (any_of HT_.out (by kernel_rfl)) (fun _ _ _ h => h) (Or.inr ⟨by rfl, rfl⟩) ?_ ?_
                        rotate_left
                        ·as_aux_lemma =>
                         simp only [Act.put, List.setIfInBounds_toArray, List.set_cons_zero, List.set_cons_succ, i64_w, i32_w]
                         rfl
                        refine pure_ (i := 26) (N := some 184) (v := undef) (a' := ?_) #[true, true, true, true, true, true, true, true, true, true, true, true, true, true, true, true, true, true, true, true, true, true, true, true, true, true, true, false, false] rfl rfl (any_of HT_.out (by kernel_rfl)) (fun _ _ _ h => h) (Or.inr ⟨by rfl, rfl⟩) ?_ ?_
                        rotate_left
                        ·as_aux_lemma =>
                         simp only [Act.put, List.setIfInBounds_toArray, List.set_cons_zero, List.set_cons_succ, i64_w, i32_w]
                         rfl
                        refine pure_ (i := 27) (N := some 185) (v := undef) (a' := ?_) #[true, true, true, true, true, true, true, true, true, true, true, true, true, true, true, true, true, true, true, true, true, true, true, true, true, true, true, true, false] rfl rfl (any_of HT_.out (by kernel_rfl)) (fun _ _ _ h => h) (Or.inr ⟨by rfl, rfl⟩) ?_ ?_
                        rotate_left
                        ·as_aux_lemma =>
                         simp only [Act.put, List.setIfInBounds_toArray, List.set_cons_zero, List.set_cons_succ, i64_w, i32_w]
                         rfl
                        refine pure_ (i := 28) (N := some 186) (v := ?_) (a' := ?_) #[true, true, true, true, true, true, true, true, true, true, true, true, true, true, true, true, true, true, true, true, true, true, true, true, true, true, true, true, true] rfl rfl (any_of HT_.out (by kernel_rfl)) (fun _ _ _ h => h) (Or.inl ⟨by rfl, ?_⟩) ?_ ?_
                        rotate_left
                        ·as_aux_lemma =>
                         intro w'
                         go_simp
                         with_reducible rfl
                        rotate_left
                        ·as_aux_lemma =>
                         simp only [Act.put, List.setIfInBounds_toArray, List.set_cons_zero, List.set_cons_succ, i64_w, i32_w]
                         rfl
                        refine done_ (done_of HT_.out (by kernel_rfl)) ?_
                        try go_wp2
                        go_meet
                        case rel => exact ⟨_, (true), (by first | rfl | (simp; done) | (simp [*]; done)), H', ⟨by have := HJ6.out; have := HK2.out; have := HJ39.out; have := HJ52.out; have := HK5.out; first | omega | exact Nat.le_refl _⟩, ⟨by (try simp only [hl15_39]); (with_reducible repeat (first | apply Kd.R_alloc | apply Kd.R_drewN | apply Kd.R_drew)); exact HO_12.out⟩, ⟨by repeat (first | (with_reducible first | exact HB.out | apply below_alloc | apply pw_below_drewN | apply below_drew1) | exact HB.out)⟩⟩
                       ·as_aux_lemma =>
                        rw [if_neg c68] at H
                        have c68b0 : decide ((l0.length : Int) ≤ ((rd_T47 t287 x21_5).f1)) = false := decide_eq_false c68
                        (try simp only [hl15_39] at c68b0)
                        clear c68
                        have H' := Aside0.mk H
                        clear H
                        try go_wp2
                        have n0_ := Aside0.mk (Kd.R_drew HO_12.out)
                        have n1_ := Aside0.mk (below_drew1 HB.out)
                        clear HO_12
                        clear HB
                        have HO_12 := n0_
                        have HB := n1_
                        clear n0_ n1_
                        have p321 : 0 ≤ (x21_5 : Int) := of_decide_eq_true (by first | (with_reducible assumption) | assumption)
                        have q321 : x21_5 < (t287.length : Int) := of_decide_eq_true (by first | (with_reducible assumption) | assumption)
                        obtain ⟨ad321, e321, hx321_0, hx321_1, hx321_2, hx321_3, hx321_4, hx321_5⟩ := at_T47 (Kd.R_reads' HO_12.out).2.2 x21_5 p321 q321
                        cases e321
                        replace p321 := eq_true p321
                        replace q321 := eq_true q321
                        have p322 : 0 ≤ (x21_5 : Int) := of_decide_eq_true (by first | (with_reducible assumption) | assumption)
                        have q322 : x21_5 < (t287.length : Int) := of_decide_eq_true (by first | (with_reducible assumption) | assumption)
                        obtain ⟨ad322, e322, hx322_0, hx322_1, hx322_2, hx322_3, hx322_4, hx322_5⟩ := at_T47 (Kd.R_reads' HO_12.out).2.2 x21_5 p322 q322
                        obtain rfl : ad321 = ad322 := (by injection e322)
                        replace p322 := eq_true p322
                        replace q322 := eq_true q322
                        have p323 : 0 ≤ (x21_5 : Int) := of_decide_eq_true (by first | (with_reducible assumption) | assumption)
                        have q323 : x21_5 < (t287.length : Int) := of_decide_eq_true (by first | (with_reducible assumption) | assumption)
                        obtain ⟨ad323, e323, hx323_0, hx323_1, hx323_2, hx323_3, hx323_4, hx323_5⟩ := at_T47 (Kd.R_reads' HO_12.out).2.2 x21_5 p323 q323
                        obtain rfl : ad321 = ad323 := (by injection e323)
                        replace p323 := eq_true p323
                        replace q323 := eq_true q323
                        have p324 : 0 ≤ (x21_5 : Int) := of_decide_eq_true (by first | (with_reducible assumption) | assumption)
                        have q324 : x21_5 < (t287.length : Int) := of_decide_eq_true (by first | (with_reducible assumption) | assumption)
                        obtain ⟨ad324, e324, hx324_0, hx324_1, hx324_2, hx324_3, hx324_4, hx324_5⟩ := at_T47 (Kd.R_reads' HO_12.out).2.2 x21_5 p324 q324
                        obtain rfl : ad321 = ad324 := (by injection e324)
                        replace p324 := eq_true p324
                        replace q324 := eq_true q324
                        refine start_ (n := 29) (S := fun w' => w'.cell? (ad321.add ((x21_5).toNat * 6)) = some (.int .i64 ((rd_T47 t287 x21_5).f0)) ∧ w'.cell? ⟨(ad321.add ((x21_5).toNat * 6)).block, (ad321.add ((x21_5).toNat * 6)).off + 1, none⟩ = some (.int .i64 ((rd_T47 t287 x21_5).f1)) ∧ w'.cell? ⟨(ad321.add ((x21_5).toNat * 6)).block, (ad321.add ((x21_5).toNat * 6)).off + 2, none⟩ = some (.int .i64 ((rd_T47 t287 x21_5).f2.f0)) ∧ w'.cell? ⟨(ad321.add ((x21_5).toNat * 6)).block, (ad321.add ((x21_5).toNat * 6)).off + 3, none⟩ = some (.int .i64 ((rd_T47 t287 x21_5).f2.f1)) ∧ w'.cell? ⟨(ad321.add ((x21_5).toNat * 6)).block, (ad321.add ((x21_5).toNat * 6)).off + 4, none⟩ = some (.int .i64 ((rd_T47 t287 x21_5).f2.f2)) ∧ w'.cell? ⟨(ad321.add ((x21_5).toNat * 6)).block, (ad321.add ((x21_5).toNat * 6)).off + 5, none⟩ = some (.int .i64 ((rd_T47 t287 x21_5).f3)) ∧ w'.cell? (ad321.add ((x21_5).toNat * 6)) = some (.int .i64 ((rd_T47 t287 x21_5).f0)) ∧ w'.cell? ⟨(ad321.add ((x21_5).toNat * 6)).block, (ad321.add ((x21_5).toNat * 6)).off + 1, none⟩ = some (.int .i64 ((rd_T47 t287 x21_5).f1)) ∧ w'.cell? ⟨(ad321.add ((x21_5).toNat * 6)).block, (ad321.add ((x21_5).toNat * 6)).off + 2, none⟩ = some (.int .i64 ((rd_T47 t287 x21_5).f2.f0)) ∧ w'.cell? ⟨(ad321.add ((x21_5).toNat * 6)).block, (ad321.add ((x21_5).toNat * 6)).off + 3, none⟩ = some (.int .i64 ((rd_T47 t287 x21_5).f2.f1)) ∧ w'.cell? ⟨(ad321.add ((x21_5).toNat * 6)).block, (ad321.add ((x21_5).toNat * 6)).off + 4, none⟩ = some (.int .i64 ((rd_T47 t287 x21_5).f2.f2)) ∧ w'.cell? ⟨(ad321.add ((x21_5).toNat * 6)).block, (ad321.add ((x21_5).toNat * 6)).off + 5, none⟩ = some (.int .i64 ((rd_T47 t287 x21_5).f3)) ∧ w'.cell? (ad321.add ((x21_5).toNat * 6)) = some (.int .i64 ((rd_T47 t287 x21_5).f0)) ∧ w'.cell? ⟨(ad321.add ((x21_5).toNat * 6)).block, (ad321.add ((x21_5).toNat * 6)).off + 1, none⟩ = some (.int .i64 ((rd_T47 t287 x21_5).f1)) ∧ w'.cell? ⟨(ad321.add ((x21_5).toNat * 6)).block, (ad321.add ((x21_5).toNat * 6)).off + 2, none⟩ = some (.int .i64 ((rd_T47 t287 x21_5).f2.f0)) ∧ w'.cell? ⟨(ad321.add ((x21_5).toNat * 6)).block, (ad321.add ((x21_5).toNat * 6)).off + 3, none⟩ = some (.int .i64 ((rd_T47 t287 x21_5).f2.f1)) ∧ w'.cell? ⟨(ad321.add ((x21_5).toNat * 6)).block, (ad321.add ((x21_5).toNat * 6)).off + 4, none⟩ = some (.int .i64 ((rd_T47 t287 x21_5).f2.f2)) ∧ w'.cell? ⟨(ad321.add ((x21_5).toNat * 6)).block, (ad321.add ((x21_5).toNat * 6)).off + 5, none⟩ = some (.int .i64 ((rd_T47 t287 x21_5).f3)) ∧ w'.cell? (ad321.add ((x21_5).toNat * 6)) = some (.int .i64 ((rd_T47 t287 x21_5).f0)) ∧ w'.cell? ⟨(ad321.add ((x21_5).toNat * 6)).block, (ad321.add ((x21_5).toNat * 6)).off + 1, none⟩ = some (.int .i64 ((rd_T47 t287 x21_5).f1)) ∧ w'.cell? ⟨(ad321.add ((x21_5).toNat * 6)).block, (ad321.add ((x21_5).toNat * 6)).off + 2, none⟩ = some (.int .i64 ((rd_T47 t287 x21_5).f2.f0)) ∧ w'.cell? ⟨(ad321.add ((x21_5).toNat * 6)).block, (ad321.add ((x21_5).toNat * 6)).off + 3, none⟩ = some (.int .i64 ((rd_T47 t287 x21_5).f2.f1)) ∧ w'.cell? ⟨(ad321.add ((x21_5).toNat * 6)).block, (ad321.add ((x21_5).toNat * 6)).off + 4, none⟩ = some (.int .i64 ((rd_T47 t287 x21_5).f2.f2)) ∧ w'.cell? ⟨(ad321.add ((x21_5).toNat * 6)).block, (ad321.add ((x21_5).toNat * 6)).off + 5, none⟩ = some (.int .i64 ((rd_T47 t287 x21_5).f3))) (ds := []) #[false, false, false, false, false, false, false, false, false, false, false, false, false, false, false, false, false, false, false, false, false, false, false, false, false, false, false, false, false] (by kernel_rfl) rfl rfl ⟨hx321_0, hx321_1, hx321_2, hx321_3, hx321_4, hx321_5, hx322_0, hx322_1, hx322_2, hx322_3, hx322_4, hx322_5, hx323_0, hx323_1, hx323_2, hx323_3, hx323_4, hx323_5, hx324_0, hx324_1, hx324_2, hx324_3, hx324_4, hx324_5⟩ (fun hHeld => ?_); refine with_tabW fringelaw41_SkyPlaces.tab25 fringelaw41_SkyPlaces.bits25 (fun HT_ HW_ => ?_)
                        generalize wr.drew = w70 at HO_12 HB hx321_0 hx321_1 hx321_2 hx321_3 hx321_4 hx321_5 hx322_0 hx322_1 hx322_2 hx322_3 hx322_4 hx322_5 hx323_0 hx323_1 hx323_2 hx323_3 hx323_4 hx323_5 hx324_0 hx324_1 hx324_2 hx324_3 hx324_4 hx324_5 hHeld ⊢
                        refine pure_ (i := 0) (N := some 158) (v := ?_) (a' := ?_) #[true, false, false, false, false, false, false, false, false, false, false, false, false, false, false, false, false, false, false, false, false, false, false, false, false, false, false, false, false] rfl rfl (any_of HT_.out (by kernel_rfl)) (fun _ _ _ h => h) (Or.inl ⟨by rfl, ?_⟩) ?_ ?_
                        rotate_left
                        ·as_aux_lemma =>
                         intro w'
                         go_simp
                         with_reducible rfl
                        rotate_left
                        ·as_aux_lemma =>
                         simp only [Act.put, List.setIfInBounds_toArray, List.set_cons_zero, List.set_cons_succ, i64_w, i32_w]
                         rfl
                        refine pure_ (i := 1) (N := some 159) (v := ?_) (a' := ?_) #[true, true, false, false, false, false, false, false, false, false, false, false, false, false, false, false, false, false, false, false, false, false, false, false, false, false, false, false, false] rfl rfl (any_of HT_.out (by kernel_rfl)) (fun _ _ _ h => h) (Or.inl ⟨by rfl, ?_⟩) ?_ ?_
                        rotate_left
                        ·as_aux_lemma =>
                         intro w'
                         go_simp
                         with_reducible rfl
                        rotate_left
                        ·as_aux_lemma =>
                         simp only [Act.put, List.setIfInBounds_toArray, List.set_cons_zero, List.set_cons_succ, i64_w, i32_w]
                         rfl
                        refine pure_ (i := 2) (N := some 160) (v := ?_) (a' := ?_) #[true, true, true, false, false, false, false, false, false, false, false, false, false, false, false, false, false, false, false, false, false, false, false, false, false, false, false, false, false] rfl rfl (any_of HT_.out (by kernel_rfl)) (fun _ _ _ h => h) (Or.inl ⟨by rfl, ?_⟩) ?_ ?_
                        rotate_left
                        ·as_aux_lemma =>
                         intro w'
                         go_simp
                         with_reducible rfl
                        rotate_left
                        ·as_aux_lemma =>
                         simp only [Act.put, List.setIfInBounds_toArray, List.set_cons_zero, List.set_cons_succ, i64_w, i32_w]
                         rfl
                        refine pure_ (i := 3) (N := some 161) (v := ?_) (a' := ?_) #[true, true, true, true, false, false, false, false, false, false, false, false, false, false, false, false, false, false, false, false, false, false, false, false, false, false, false, false, false] rfl rfl (any_of HT_.out (by kernel_rfl)) (fun _ _ _ h => h) (Or.inl ⟨by rfl, ?_⟩) ?_ ?_
                        rotate_left
                        ·as_aux_lemma =>
                         intro w'
                         go_simp
                         with_reducible rfl
                        rotate_left
                        ·as_aux_lemma =>
                         simp only [Act.put, List.setIfInBounds_toArray, List.set_cons_zero, List.set_cons_succ, i64_w, i32_w]
                         rfl
                        refine take_ (i := 4) (N := some 162) (v := ?_) (a' := ?_) #[true, true, true, true, true, false, false, false, false, false, false, false, false, false, false, false, false, false, false, false, false, false, false, false, false, false, false, false, false] rfl rfl (take_ofW HT_.out HW_.out (by kernel_rfl)) (fun _ _ _ h => h) (Or.inl ⟨by rfl, ?_⟩) hHeld ?_ ?_
                        rotate_left
                        ·as_aux_lemma =>
                         rintro w' ⟨s0, s1, s2, s3, s4, s5, s6, s7, s8, s9, s10, s11, s12, s13, s14, s15, s16, s17, s18, s19, s20, s21, s22, s23⟩
                         go_simp
                         with_reducible rfl
                        rotate_left
                        ·as_aux_lemma =>
                         simp only [Act.put, List.setIfInBounds_toArray, List.set_cons_zero, List.set_cons_succ, i64_w, i32_w]
                         rfl
                        refine pure_ (i := 5) (N := some 163) (v := ?_) (a' := ?_) #[true, true, true, true, true, true, false, false, false, false, false, false, false, false, false, false, false, false, false, false, false, false, false, false, false, false, false, false, false] rfl rfl (any_of HT_.out (by kernel_rfl)) (fun _ _ _ h => h) (Or.inl ⟨by rfl, ?_⟩) ?_ ?_
                        rotate_left
                        ·as_aux_lemma =>
                         intro w'
                         go_simp
                         with_reducible rfl
                        rotate_left
                        ·as_aux_lemma =>
                         simp only [Act.put, List.setIfInBounds_toArray, List.set_cons_zero, List.set_cons_succ, i64_w, i32_w]
                         rfl
                        refine pure_ (i := 6) (N := some 164) (v := ?_) (a' := ?_) #[true, true, true, true, true, true, true, false, false, false, false, false, false, false, false, false, false, false, false, false, false, false, false, false, false, false, false, false, false] rfl rfl (any_of HT_.out (by kernel_rfl)) (fun _ _ _ h => h) (Or.inl ⟨by rfl, ?_⟩) ?_ ?_
                        rotate_left
                        ·as_aux_lemma =>
                         intro w'
                         go_simp
                         with_reducible rfl
                        rotate_left
                        ·as_aux_lemma =>
                         simp only [Act.put, List.setIfInBounds_toArray, List.set_cons_zero, List.set_cons_succ, i64_w, i32_w]
                         rfl
                        refine pure_ (i := 7) (N := some 165) (v := ?_) (a' := ?_) #[true, true, true, true, true, true, true, true, false, false, false, false, false, false, false, false, false, false, false, false, false, false, false, false, false, false, false, false, false] rfl rfl (any_of HT_.out (by kernel_rfl)) (fun _ _ _ h => h) (Or.inl ⟨by rfl, ?_⟩) ?_ ?_
                        rotate_left
                        ·as_aux_lemma =>
                         intro w'
                         go_simp
                         with_reducible rfl
                        rotate_left
                        ·as_aux_lemma =>
                         simp only [Act.put, List.setIfInBounds_toArray, List.set_cons_zero, List.set_cons_succ, i64_w, i32_w]
                         rfl
                        refine pure_ (i := 8) (N := some 166) (v := ?_) (a' := ?_) #[true, true, true, true, true, true, true, true, true, false, false, false, false, false, false, false, false, false, false, false, false, false, false, false, false, false, false, false, false] rfl rfl (any_of HT_.out (by kernel_rfl)) (fun _ _ _ h => h) (Or.inl ⟨by rfl, ?_⟩) ?_ ?_
                        rotate_left
                        ·as_aux_lemma =>
                         intro w'
                         go_simp
                         with_reducible rfl
                        rotate_left
                        ·as_aux_lemma =>
                         simp only [Act.put, List.setIfInBounds_toArray, List.set_cons_zero, List.set_cons_succ, i64_w, i32_w]
                         rfl
                        refine pure_ (i := 9) (N := some 167) (v := ?_) (a' := ?_) #[true, true, true, true, true, true, true, true, true, true, false, false, false, false, false, false, false, false, false, false, false, false, false, false, false, false, false, false, false] rfl rfl (any_of HT_.out (by kernel_rfl)) (fun _ _ _ h => h) (Or.inl ⟨by rfl, ?_⟩) ?_ ?_
                        rotate_left
                        ·as_aux_lemma =>
                         intro w'
                         go_simp
                         with_reducible rfl
                        rotate_left
                        ·as_aux_lemma =>
                         simp only [Act.put, List.setIfInBounds_toArray, List.set_cons_zero, List.set_cons_succ, i64_w, i32_w]
                         rfl
                        refine pure_ (i := 10) (N := some 168) (v := ?_) (a' := ?_) #[true, true, true, true, true, true, true, true, true, true, true, false, false, false, false, false, false, false, false, false, false, false, false, false, false, false, false, false, false] rfl rfl (any_of HT_.out (by kernel_rfl)) (fun _ _ _ h => h) (Or.inl ⟨by rfl, ?_⟩) ?_ ?_
                        rotate_left
                        ·as_aux_lemma =>
                         intro w'
                         go_simp
                         with_reducible rfl
                        rotate_left
                        ·as_aux_lemma =>
                         simp only [Act.put, List.setIfInBounds_toArray, List.set_cons_zero, List.set_cons_succ, i64_w, i32_w]
                         rfl
                        refine pure_ (i := 12) (N := some 170) (v := ?_) (a' := ?_) #[true, true, true, true, true, true, true, true, true, true, true, false, true, false, false, false, false, false, false, false, false, false, false, false, false, false, false, false, false] rfl rfl (any_of HT_.out (by kernel_rfl)) (fun _ _ _ h => h) (Or.inl ⟨by rfl, ?_⟩) ?_ ?_
                        rotate_left
                        ·as_aux_lemma =>
                         intro w'
                         go_simp
                         with_reducible rfl
                        rotate_left
                        ·as_aux_lemma =>
                         simp only [Act.put, List.setIfInBounds_toArray, List.set_cons_zero, List.set_cons_succ, i64_w, i32_w]
                         rfl
                        refine pure_ (i := 13) (N := some 171) (v := ?_) (a' := ?_) #[true, true, true, true, true, true, true, true, true, true, true, false, true, true, false, false, false, false, false, false, false, false, false, false, false, false, false, false, false] rfl rfl (any_of HT_.out (by kernel_rfl)) (fun _ _ _ h => h) (Or.inl ⟨by rfl, ?_⟩) ?_ ?_
                        rotate_left
                        ·as_aux_lemma =>
                         intro w'
                         go_simp
                         with_reducible rfl
                        rotate_left
                        ·as_aux_lemma =>
                         simp only [Act.put, List.setIfInBounds_toArray, List.set_cons_zero, List.set_cons_succ, i64_w, i32_w]
                         rfl
                        refine take_ (i := 11) (N := some 169) (v := ?_) (a' := ?_) #[true, true, true, true, true, true, true, true, true, true, true, true, true, true, false, false, false, false, false, false, false, false, false, false, false, false, false, false, false] rfl rfl (take_ofW HT_.out HW_.out (by kernel_rfl)) (fun _ _ _ h => h) (Or.inl ⟨by rfl, ?_⟩) hHeld ?_ ?_
                        rotate_left
                        ·as_aux_lemma =>
                         rintro w' ⟨s0, s1, s2, s3, s4, s5, s6, s7, s8, s9, s10, s11, s12, s13, s14, s15, s16, s17, s18, s19, s20, s21, s22, s23⟩
                         go_simp
                         with_reducible rfl
                        rotate_left
                        ·as_aux_lemma =>
                         simp only [Act.put, List.setIfInBounds_toArray, List.set_cons_zero, List.set_cons_succ, i64_w, i32_w]
                         rfl
                        refine pure_ (i := 14) (N := some 172) (v := ?_) (a' := ?_) #[true, true, true, true, true, true, true, true, true, true, true, true, true, true, true, false, false, false, false, false, false, false, false, false, false, false, false, false, false] rfl rfl (any_of HT_.out (by kernel_rfl)) (fun _ _ _ h => h) (Or.inl ⟨by rfl, ?_⟩) ?_ ?_
                        rotate_left
                        ·as_aux_lemma =>
                         intro w'
                         go_simp
                         with_reducible rfl
                        rotate_left
                        ·as_aux_lemma =>
                         simp only [Act.put, List.setIfInBounds_toArray, List.set_cons_zero, List.set_cons_succ, i64_w, i32_w]
                         rfl
                        refine pure_ (i := 15) (N := some 173) (v := ?_) (a' := ?_) #[true, true, true, true, true, true, true, true, true, true, true, true, true, true, true, true, false, false, false, false, false, false, false, false, false, false, false, false, false] rfl rfl (any_of HT_.out (by kernel_rfl)) (fun _ _ _ h => h) (Or.inl ⟨by rfl, ?_⟩) ?_ ?_
                        rotate_left
                        ·as_aux_lemma =>
                         intro w'
                         go_simp
                         with_reducible rfl
                        rotate_left
                        ·as_aux_lemma =>
                         simp only [Act.put, List.setIfInBounds_toArray, List.set_cons_zero, List.set_cons_succ, i64_w, i32_w]
                         rfl
                        refine pure_ (i := 16) (N := some 174) (v := ?_) (a' := ?_) #[true, true, true, true, true, true, true, true, true, true, true, true, true, true, true, true, true, false, false, false, false, false, false, false, false, false, false, false, false] rfl rfl (any_of HT_.out (by kernel_rfl)) (fun _ _ _ h => h) (Or.inl ⟨by rfl, ?_⟩) ?_ ?_
                        rotate_left
                        ·as_aux_lemma =>
                         intro w'
                         go_simp
                         with_reducible rfl
                        rotate_left
                        ·as_aux_lemma =>
                         simp only [Act.put, List.setIfInBounds_toArray, List.set_cons_zero, List.set_cons_succ, i64_w, i32_w]
                         rfl
                        refine pure_ (i := 17) (N := some 175) (v := ?_) (a' := ?_) #[true, true, true, true, true, true, true, true, true, true, true, true, true, true, true, true, true, true, false, false, false, false, false, false, false, false, false, false, false] rfl rfl (any_of HT_.out (by kernel_rfl)) (fun _ _ _ h => h) (Or.inl ⟨by rfl, ?_⟩) ?_ ?_
                        rotate_left
                        ·as_aux_lemma =>
                         intro w'
                         go_simp
                         with_reducible rfl
                        rotate_left
                        ·as_aux_lemma =>
                         simp only [Act.put, List.setIfInBounds_toArray, List.set_cons_zero, List.set_cons_succ, i64_w, i32_w]
                         rfl
                        refine pure_ (i := 18) (N := some 176) (v := ?_) (a' := ?_) #[true, true, true, true, true, true, true, true, true, true, true, true, true, true, true, true, true, true, true, false, false, false, false, false, false, false, false, false, false] rfl rfl (any_of HT_.out (by kernel_rfl)) (fun _ _ _ h => h) (Or.inl ⟨by rfl, ?_⟩) ?_ ?_
                        rotate_left
                        ·as_aux_lemma =>
                         intro w'
                         go_simp
                         with_reducible rfl
                        rotate_left
                        ·as_aux_lemma =>
                         simp only [Act.put, List.setIfInBounds_toArray, List.set_cons_zero, List.set_cons_succ, i64_w, i32_w]
                         rfl
                        refine pure_ (i := 19) (N := some 177) (v := ?_) (a' := ?_) #[true, true, true, true, true, true, true, true, true, true, true, true, true, true, true, true, true, true, true, true, false, false, false, false, false, false, false, false, false] rfl rfl (any_of HT_.out (by kernel_rfl)) (fun _ _ _ h => h) (Or.inl ⟨by rfl, ?_⟩) ?_ ?_
                        rotate_left
                        ·as_aux_lemma =>
                         intro w'
                         go_simp
                         with_reducible rfl
                        rotate_left
                        ·as_aux_lemma =>
                         simp only [Act.put, List.setIfInBounds_toArray, List.set_cons_zero, List.set_cons_succ, i64_w, i32_w]
                         rfl
                        refine pure_ (i := 20) (N := some 178) (v := ?_) (a' := ?_) #[true, true, true, true, true, true, true, true, true, true, true, true, true, true, true, true, true, true, true, true, true, false, false, false, false, false, false, false, false] rfl rfl (any_of HT_.out (by kernel_rfl)) (fun _ _ _ h => h) (Or.inl ⟨by rfl, ?_⟩) ?_ ?_
                        rotate_left
                        ·as_aux_lemma =>
                         intro w'
                         go_simp
                         with_reducible rfl
                        rotate_left
                        ·as_aux_lemma =>
                         simp only [Act.put, List.setIfInBounds_toArray, List.set_cons_zero, List.set_cons_succ, i64_w, i32_w]
                         rfl
                        refine pure_ (i := 22) (N := some 180) (v := ?_) (a' := ?_) #[true, true, true, true, true, true, true, true, true, true, true, true, true, true, true, true, true, true, true, true, true, false, true, false, false, false, false, false, false] rfl rfl (any_of HT_.out (by kernel_rfl)) (fun _ _ _ h => h) (Or.inl ⟨by rfl, ?_⟩) ?_ ?_
                        rotate_left
                        ·as_aux_lemma =>
                         intro w'
                         go_simp
                         with_reducible rfl
                        rotate_left
                        ·as_aux_lemma =>
                         simp only [Act.put, List.setIfInBounds_toArray, List.set_cons_zero, List.set_cons_succ, i64_w, i32_w]
                         rfl
                        refine pure_ (i := 23) (N := some 181) (v := ?_) (a' := ?_) #[true, true, true, true, true, true, true, true, true, true, true, true, true, true, true, true, true, true, true, true, true, false, true, true, false, false, false, false, false] rfl rfl (any_of HT_.out (by kernel_rfl)) (fun _ _ _ h => h) (Or.inl ⟨by rfl, ?_⟩) ?_ ?_
                        rotate_left
                        ·as_aux_lemma =>
                         intro w'
                         go_simp
                         with_reducible rfl
                        rotate_left
                        ·as_aux_lemma =>
                         simp only [Act.put, List.setIfInBounds_toArray, List.set_cons_zero, List.set_cons_succ, i64_w, i32_w]
                         rfl
                        refine pure_ (i := 24) (N := some 182) (v := ?_) (a' := ?_) #[true, true, true, true, true, true, true, true, true, true, true, true, true, true, true, true, true, true, true, true, true, false, true, true, true, false, false, false, false] rfl rfl (any_of HT_.out (by kernel_rfl)) (fun _ _ _ h => h) (Or.inl ⟨by rfl, ?_⟩) ?_ ?_
                        rotate_left
                        ·as_aux_lemma =>
                         intro w'
                         go_simp
                         with_reducible rfl
                        rotate_left
                        ·as_aux_lemma =>
                         simp only [Act.put, List.setIfInBounds_toArray, List.set_cons_zero, List.set_cons_succ, i64_w, i32_w]
                         rfl
                        refine pure_ (i := 25) (N := some 183) (v := ?_) (a' := ?_) #[true, true, true, true, true, true, true, true, true, true, true, true, true, true, true, true, true, true, true, true, true, false, true, true, true, true, false, false, false] rfl rfl (any_of HT_.out (by kernel_rfl)) (fun _ _ _ h => h) (Or.inl ⟨by rfl, ?_⟩) ?_ ?_
                        rotate_left
                        ·as_aux_lemma =>
                         intro w'
                         go_simp
                         with_reducible rfl
                        rotate_left
                        ·as_aux_lemma =>
                         simp only [Act.put, List.setIfInBounds_toArray, List.set_cons_zero, List.set_cons_succ, i64_w, i32_w]
                         rfl
                        refine take_ (i := 21) (N := some 179) (v := ?_) (a' := ?_) #[true, true, true, true, true, true, true, true, true, true, true, true, true, true, true, true, true, true, true, true, true, true, true, true, true, true, false, false, false] rfl rfl (take_ofW HT_.out HW_.out (by kernel_rfl)) (fun _ _ _ h => h) (Or.inl ⟨by rfl, ?_⟩) hHeld ?_ ?_
                        rotate_left
                        ·as_aux_lemma =>
                         rintro w' ⟨s0, s1, s2, s3, s4, s5, s6, s7, s8, s9, s10, s11, s12, s13, s14, s15, s16, s17, s18, s19, s20, s21, s22, s23⟩
                         go_simp
                         with_reducible rfl
                        rotate_left
                        ·as_aux_lemma =>
                         simp only [Act.put, List.setIfInBounds_toArray, List.set_cons_zero, List.set_cons_succ, i64_w, i32_w]
                         rfl
                        refine take_ (i := 26) (N := some 184) (v := ?_) (a' := ?_) #[true, true, true, true, true, true, true, true, true, true, true, true, true, true, true, true, true, true, true, true, true, true, true, true, true, true, true, false, false] rfl rfl (take_ofW HT_.out HW_.out (by kernel_rfl)) (fun _ _ _ h => h) (Or.inl ⟨by rfl, ?_⟩) hHeld ?_ ?_
                        rotate_left
                        ·as_aux_lemma =>
                         rintro w' ⟨s0, s1, s2, s3, s4, s5, s6, s7, s8, s9, s10, s11, s12, s13, s14, s15, s16, s17, s18, s19, s20, s21, s22, s23⟩
                         go_simp
                         with_reducible rfl
                        rotate_left
                        ·as_aux_lemma =>
                         simp only [Act.put, List.setIfInBounds_toArray, List.set_cons_zero, List.set_cons_succ, i64_w, i32_w]
                         rfl
                        refine pure_ (i := 27) (N := some 185) (v := ?_) (a' := ?_) #[true, true, true, true, true, true, true, true, true, true, true, true, true, true, true, true, true, true, true, true, true, true, true, true, true, true, true, true, false] rfl rfl (any_of HT_.out (by kernel_rfl)) (fun _ _ _ h => h) (Or.inl ⟨by rfl, ?_⟩) ?_ ?_
                        rotate_left
                        ·as_aux_lemma =>
                         intro w'
                         go_simp
                         with_reducible rfl
                        rotate_left
                        ·as_aux_lemma =>
                         simp only [Act.put, List.setIfInBounds_toArray, List.set_cons_zero, List.set_cons_succ, i64_w, i32_w]
                         rfl
                        refine pure_ (i := 28) (N := some 186) (v := ?_) (a' := ?_) #[true, true, true, true, true, true, true, true, true, true, true, true, true, true, true, true, true, true, true, true, true, true, true, true, true, true, true, true, true] rfl rfl (any_of HT_.out (by kernel_rfl)) (fun _ _ _ h => h) (Or.inl ⟨by rfl, ?_⟩) ?_ ?_
                        rotate_left
                        ·as_aux_lemma =>
                         intro w'
                         go_simp
                         with_reducible rfl
                        rotate_left
                        ·as_aux_lemma =>
                         simp only [Act.put, List.setIfInBounds_toArray, List.set_cons_zero, List.set_cons_succ, i64_w, i32_w]
                         rfl
                        refine done_ (done_of HT_.out (by kernel_rfl)) ?_
                        try go_wp2
                        go_meet
                        case rel => exact ⟨_, (decide (((rd_T47 t287 x21_5).f0) ≥ ((rd_T47 t287 x21_5).f1))), (by first | rfl | (simp; done) | (simp [*]; done)), H', ⟨by have := HJ6.out; have := HK2.out; have := HJ39.out; have := HJ52.out; have := HK5.out; first | omega | exact Nat.le_refl _⟩, ⟨by (try simp only [hl15_39]); (with_reducible repeat (first | apply Kd.R_alloc | apply Kd.R_drewN | apply Kd.R_drew)); exact HO_12.out⟩, ⟨by repeat (first | (with_reducible first | exact HB.out | apply below_alloc | apply pw_below_drewN | apply below_drew1) | exact HB.out)⟩⟩
                     ·as_aux_lemma =>
                      rw [if_neg c65] at H
                      exact absurd H (by simp)
                    case rest =>
                     as_aux_lemma =>
                     clear HC63
                     try clear p2
                     try clear p3
                     try clear q3
                     try clear hx3
                     try clear c6
                     try clear p32
                     try clear q32
                     try clear hx32
                     try clear c65
                     try clear c66
                     try clear c66b0
                     try clear c68
                     try clear c68b0
                     try clear hx321_0
                     try clear hx321_1
                     try clear hx321_2
                     try clear hx321_3
                     try clear hx321_4
                     try clear hx321_5
                     try clear hx322_0
                     try clear hx322_1
                     try clear hx322_2
                     try clear hx322_3
                     try clear hx322_4
                     try clear hx322_5
                     try clear hx323_0
                     try clear hx323_1
                     try clear hx323_2
                     try clear hx323_3
                     try clear hx323_4
                     try clear hx323_5
                     try clear hx324_0
                     try clear hx324_1
                     try clear hx324_2
                     try clear hx324_3
                     try clear hx324_4
                     try clear hx324_5
                     try clear p321
                     try clear p322
                     try clear p323
                     try clear p324
                     try clear q321
                     try clear q322
                     try clear q323
                     try clear q324
                     obtain ⟨kq, x186_62, rfl, HA, HJ62, HO_12, HB⟩ := hcut
                     cases kq with
                     | zero => exact absurd HA.out (by simp [fringelaw41_SkyPlaces.j5])
                     | succ kj62 =>
                      have H := HA.out
                      clear HA
                      simp only [fringelaw41_SkyPlaces.j5] at H
                      by_cases c71 : x186_62 = true
                      ·as_aux_lemma =>
                       subst c71
                       have H1 : (some false) = some true := by first | (with_reducible rfl) | (rw [if_pos rfl] at H; exact H)
                       clear H
                       have H := H1
                       clear H1
                       exact absurd H (by simp)
                      ·as_aux_lemma =>
                       replace c71 := Bool.eq_false_iff.mpr c71
                       subst c71
                       have H1 : (if 0 ≤ x21_5 then (if x21_5 < (t287.length : Int) then (if 0 ≤ ((rd_T47 t287 x21_5).f0) then (if ((rd_T47 t287 x21_5).f0) < (l0.length : Int) then (if 0 ≤ ((rd_T47 t287 x21_5).f1) then (if ((rd_T47 t287 x21_5).f1) < (l0.length : Int) then ((sky_See.f kj62 (([(⟨(rd_T41 l0 ((rd_T47 t287 x21_5).f0)).f0, (rd_T41 l0 ((rd_T47 t287 x21_5).f0)).f1⟩ : S41), (⟨(rd_T41 l0 ((rd_T47 t287 x21_5).f1)).f0, (rd_T41 l0 ((rd_T47 t287 x21_5).f1)).f1⟩ : S41)] : List (S41))) l1).bind fun bt332 => (if bt332.2 = 0 then (if (bt332.1.length : Int) = 1 then (if 0 < (bt332.1.length : Int) then (if (!(((rd_T47 bt332.1 0).f2.f0) == ((rd_T47 t287 x21_5).f2.f0)) || (!(((rd_T47 bt332.1 0).f2.f1) == ((rd_T47 t287 x21_5).f2.f1)) || (!(((rd_T47 bt332.1 0).f2.f2) == ((rd_T47 t287 x21_5).f2.f2))))) = true then (some false) else (fringelaw41_SkyPlaces.l1 kj62 l0 l1 t285 t287 (wrap64 (x21_5 + 1)))) else (none)) else (some false)) else (some false))) else (none)) else (none)) else (none)) else (none)) else (none)) else (none)) = some true := by first | (with_reducible rfl) | (rw [if_neg (show ¬ (false = true) by decide)] at H; exact H)
                       clear H
                       have H := H1
                       clear H1
                       by_cases c72 : 0 ≤ x21_5
                       ·as_aux_lemma =>
                        rw [if_pos c72] at H
                        have c72b0 : decide (0 ≤ x21_5) = true := decide_eq_true c72
                        (try simp only [hl15_39] at c72b0)
                        clear c72
                        by_cases c73 : x21_5 < (t287.length : Int)
                        ·as_aux_lemma =>
                         rw [if_pos c73] at H
                         have c73b0 : decide (x21_5 < (t287.length : Int)) = true := decide_eq_true c73
                         (try simp only [hl15_39] at c73b0)
                         clear c73
                         by_cases c74 : 0 ≤ ((rd_T47 t287 x21_5).f0)
                         ·as_aux_lemma =>
                          rw [if_pos c74] at H
                          have c74b0 : decide (0 ≤ ((rd_T47 t287 x21_5).f0)) = true := decide_eq_true c74
                          (try simp only [hl15_39] at c74b0)
                          clear c74
                          by_cases c75 : ((rd_T47 t287 x21_5).f0) < (l0.length : Int)
                          ·as_aux_lemma =>
                           rw [if_pos c75] at H
                           have c75b0 : decide (((rd_T47 t287 x21_5).f0) < (l0.length : Int)) = true := decide_eq_true c75
                           (try simp only [hl15_39] at c75b0)
                           clear c75
                           by_cases c76 : 0 ≤ ((rd_T47 t287 x21_5).f1)
                           ·as_aux_lemma =>
                            rw [if_pos c76] at H
                            have c76b0 : decide (0 ≤ ((rd_T47 t287 x21_5).f1)) = true := decide_eq_true c76
                            (try simp only [hl15_39] at c76b0)
                            clear c76
                            by_cases c77 : ((rd_T47 t287 x21_5).f1) < (l0.length : Int)
                            ·as_aux_lemma =>
                             rw [if_pos c77] at H
                             have c77b0 : decide (((rd_T47 t287 x21_5).f1) < (l0.length : Int)) = true := decide_eq_true c77
                             (try simp only [hl15_39] at c77b0)
                             clear c77
                             obtain ⟨y329, hy329⟩ : ∃ y_ : List (S41), y_ = (([(⟨(rd_T41 l0 ((rd_T47 t287 x21_5).f0)).f0, (rd_T41 l0 ((rd_T47 t287 x21_5).f0)).f1⟩ : S41), (⟨(rd_T41 l0 ((rd_T47 t287 x21_5).f1)).f0, (rd_T41 l0 ((rd_T47 t287 x21_5).f1)).f1⟩ : S41)] : List (S41))) := ⟨_, rfl⟩
                             replace H : ((sky_See.f kj62 y329 l1).bind fun bt332 => (if bt332.2 = 0 then (if (bt332.1.length : Int) = 1 then (if 0 < (bt332.1.length : Int) then (if (!(((rd_T47 bt332.1 0).f2.f0) == ((rd_T47 t287 x21_5).f2.f0)) || (!(((rd_T47 bt332.1 0).f2.f1) == ((rd_T47 t287 x21_5).f2.f1)) || (!(((rd_T47 bt332.1 0).f2.f2) == ((rd_T47 t287 x21_5).f2.f2))))) = true then (some false) else (fringelaw41_SkyPlaces.l1 kj62 l0 l1 t285 t287 (wrap64 (x21_5 + 1)))) else (none)) else (some false)) else (some false))) = some true := by first | (rw [hy329]; with_reducible exact H) | (have H2_ := (Option.bind_some _ _).symm.trans H; rw [hy329]; with_reducible exact H2_) | (have H2_ := (Option.bind_some _ _).symm.trans H; with_reducible exact H2_) | with_reducible exact H | (rw [hy329]; exact H) | exact H
                             have Ny329 := Aside0.mk hy329
                             clear hy329
                             replace H := Option.bind_eq_some_iff.mp H
                             obtain ⟨⟨t332, t333⟩, A780, H⟩ := H
                             replace H : (if t333 = 0 then (if (t332.length : Int) = 1 then (if 0 < (t332.length : Int) then (if (!(((rd_T47 t332 0).f2.f0) == ((rd_T47 t287 x21_5).f2.f0)) || (!(((rd_T47 t332 0).f2.f1) == ((rd_T47 t287 x21_5).f2.f1)) || (!(((rd_T47 t332 0).f2.f2) == ((rd_T47 t287 x21_5).f2.f2))))) = true then (some false) else (fringelaw41_SkyPlaces.l1 kj62 l0 l1 t285 t287 (wrap64 (x21_5 + 1)))) else (none)) else (some false)) else (some false)) = some true := H
                             have A78 := Aside0.mk A780
                             clear A780
                             by_cases c79 : t333 = 0
                             ·as_aux_lemma =>
                              rw [if_pos c79] at H
                              have c79b0 : (t333 == 0) = true := beq_iff_eq.mpr c79
                              have c79b1 : (t333 != 0) = false := bne_eq_false_iff_eq.mpr c79
                              (try simp only [hl15_39] at c79b0)
                              (try simp only [hl15_39] at c79b1)
                              clear c79
                              by_cases c80 : (t332.length : Int) = 1
                              ·as_aux_lemma =>
                               rw [if_pos c80] at H
                               have c80b0 : ((t332.length : Int) == 1) = true := beq_iff_eq.mpr c80
                               have c80b1 : ((t332.length : Int) != 1) = false := bne_eq_false_iff_eq.mpr c80
                               (try simp only [hl15_39] at c80b0)
                               (try simp only [hl15_39] at c80b1)
                               clear c80
                               by_cases c81 : 0 < (t332.length : Int)
                               ·as_aux_lemma =>
                                rw [if_pos c81] at H
                                have c81b0 : decide (0 < (t332.length : Int)) = true := decide_eq_true c81
                                have c81b1 : decide (0 < t332.length) = true := decide_eq_true (by omega)
                                (try simp only [hl15_39] at c81b0)
                                (try simp only [hl15_39] at c81b1)
                                clear c81
                                by_cases c82 : (!(((rd_T47 t332 0).f2.f0) == ((rd_T47 t287 x21_5).f2.f0)) || (!(((rd_T47 t332 0).f2.f1) == ((rd_T47 t287 x21_5).f2.f1)) || (!(((rd_T47 t332 0).f2.f2) == ((rd_T47 t287 x21_5).f2.f2))))) = true
                                ·as_aux_lemma =>
                                 rw [if_pos c82] at H
                                 have c82b0 : (!(((rd_T47 t332 0).f2.f0) == ((rd_T47 t287 x21_5).f2.f0)) || (!(((rd_T47 t332 0).f2.f1) == ((rd_T47 t287 x21_5).f2.f1)) || (!(((rd_T47 t332 0).f2.f2) == ((rd_T47 t287 x21_5).f2.f2))))) = true := c82
                                 (try simp only [hl15_39] at c82b0)
                                 clear c82
                                 exact absurd H (by simp)
                                ·as_aux_lemma =>
                                 rw [if_neg c82] at H
                                 have c82b0 : (!(((rd_T47 t332 0).f2.f0) == ((rd_T47 t287 x21_5).f2.f0)) || (!(((rd_T47 t332 0).f2.f1) == ((rd_T47 t287 x21_5).f2.f1)) || (!(((rd_T47 t332 0).f2.f2) == ((rd_T47 t287 x21_5).f2.f2))))) = false := by simpa using c82
                                 (try simp only [hl15_39] at c82b0)
                                 clear c82
                                 have H' := Aside0.mk H
                                 clear H
                                 try go_wp2
                                 have n0_ := Aside0.mk (Kd.R_drew HO_12.out)
                                 have n1_ := Aside0.mk (below_drew1 HB.out)
                                 clear HO_12
                                 clear HB
                                 have HO_12 := n0_
                                 have HB := n1_
                                 clear n0_ n1_
                                 have p325 : 0 ≤ (x21_5 : Int) := of_decide_eq_true (by first | (with_reducible assumption) | assumption)
                                 have q325 : x21_5 < (t287.length : Int) := of_decide_eq_true (by first | (with_reducible assumption) | assumption)
                                 obtain ⟨ad325, e325, hx325_0, hx325_1, hx325_2, hx325_3, hx325_4, hx325_5⟩ := at_T47 (Kd.R_reads' HO_12.out).2.2 x21_5 p325 q325
                                 cases e325
                                 replace p325 := eq_true p325
                                 replace q325 := eq_true q325
                                 have p326 : 0 ≤ (((rd_T47 t287 x21_5).f0) : Int) := of_decide_eq_true (by first | (with_reducible assumption) | assumption)
                                 have q326 : ((rd_T47 t287 x21_5).f0) < (l0.length : Int) := of_decide_eq_true (by first | (with_reducible assumption) | assumption)
                                 obtain ⟨ad326, e326, hx326_0, hx326_1⟩ := at_T41 HR0.out ((rd_T47 t287 x21_5).f0) p326 q326
                                 have hw326_1 := hx326_1
                                 have hw326_0 := hx326_0
                                 obtain rfl : ad306 = ad326 := (by injection e326)
                                 replace hx326_0 := (HB.out.cell (World.block_lt_of_cell? w _ hx326_0)).trans hx326_0
                                 replace hx326_1 := (HB.out.cell (World.block_lt_of_cell? w _ hx326_1)).trans hx326_1
                                 replace p326 := eq_true p326
                                 replace q326 := eq_true q326
                                 have p327 : 0 ≤ (x21_5 : Int) := of_decide_eq_true (by first | (with_reducible assumption) | assumption)
                                 have q327 : x21_5 < (t287.length : Int) := of_decide_eq_true (by first | (with_reducible assumption) | assumption)
                                 obtain ⟨ad327, e327, hx327_0, hx327_1, hx327_2, hx327_3, hx327_4, hx327_5⟩ := at_T47 (Kd.R_reads' HO_12.out).2.2 x21_5 p327 q327
                                 obtain rfl : ad325 = ad327 := (by injection e327)
                                 replace p327 := eq_true p327
                                 replace q327 := eq_true q327
                                 have p328 : 0 ≤ (((rd_T47 t287 x21_5).f1) : Int) := of_decide_eq_true (by first | (with_reducible assumption) | assumption)
                                 have q328 : ((rd_T47 t287 x21_5).f1) < (l0.length : Int) := of_decide_eq_true (by first | (with_reducible assumption) | assumption)
                                 obtain ⟨ad328, e328, hx328_0, hx328_1⟩ := at_T41 HR0.out ((rd_T47 t287 x21_5).f1) p328 q328
                                 have hw328_1 := hx328_1
                                 have hw328_0 := hx328_0
                                 obtain rfl : ad306 = ad328 := (by injection e328)
                                 replace hx328_0 := (HB.out.cell (World.block_lt_of_cell? w _ hx328_0)).trans hx328_0
                                 replace hx328_1 := (HB.out.cell (World.block_lt_of_cell? w _ hx328_1)).trans hx328_1
                                 replace p328 := eq_true p328
                                 replace q328 := eq_true q328
                                 refine start_ (n := 24) (S := fun w' => w'.cell? (ad325.add ((x21_5).toNat * 6)) = some (.int .i64 ((rd_T47 t287 x21_5).f0)) ∧ w'.cell? ⟨(ad325.add ((x21_5).toNat * 6)).block, (ad325.add ((x21_5).toNat * 6)).off + 1, none⟩ = some (.int .i64 ((rd_T47 t287 x21_5).f1)) ∧ w'.cell? ⟨(ad325.add ((x21_5).toNat * 6)).block, (ad325.add ((x21_5).toNat * 6)).off + 2, none⟩ = some (.int .i64 ((rd_T47 t287 x21_5).f2.f0)) ∧ w'.cell? ⟨(ad325.add ((x21_5).toNat * 6)).block, (ad325.add ((x21_5).toNat * 6)).off + 3, none⟩ = some (.int .i64 ((rd_T47 t287 x21_5).f2.f1)) ∧ w'.cell? ⟨(ad325.add ((x21_5).toNat * 6)).block, (ad325.add ((x21_5).toNat * 6)).off + 4, none⟩ = some (.int .i64 ((rd_T47 t287 x21_5).f2.f2)) ∧ w'.cell? ⟨(ad325.add ((x21_5).toNat * 6)).block, (ad325.add ((x21_5).toNat * 6)).off + 5, none⟩ = some (.int .i64 ((rd_T47 t287 x21_5).f3)) ∧ w'.cell? (ad306.add ((((rd_T47 t287 x21_5).f0)).toNat * 2)) = some (.int .i64 ((rd_T41 l0 ((rd_T47 t287 x21_5).f0)).f0)) ∧ w'.cell? ⟨(ad306.add ((((rd_T47 t287 x21_5).f0)).toNat * 2)).block, (ad306.add ((((rd_T47 t287 x21_5).f0)).toNat * 2)).off + 1, none⟩ = some (.int .i64 ((rd_T41 l0 ((rd_T47 t287 x21_5).f0)).f1)) ∧ w'.cell? (ad325.add ((x21_5).toNat * 6)) = some (.int .i64 ((rd_T47 t287 x21_5).f0)) ∧ w'.cell? ⟨(ad325.add ((x21_5).toNat * 6)).block, (ad325.add ((x21_5).toNat * 6)).off + 1, none⟩ = some (.int .i64 ((rd_T47 t287 x21_5).f1)) ∧ w'.cell? ⟨(ad325.add ((x21_5).toNat * 6)).block, (ad325.add ((x21_5).toNat * 6)).off + 2, none⟩ = some (.int .i64 ((rd_T47 t287 x21_5).f2.f0)) ∧ w'.cell? ⟨(ad325.add ((x21_5).toNat * 6)).block, (ad325.add ((x21_5).toNat * 6)).off + 3, none⟩ = some (.int .i64 ((rd_T47 t287 x21_5).f2.f1)) ∧ w'.cell? ⟨(ad325.add ((x21_5).toNat * 6)).block, (ad325.add ((x21_5).toNat * 6)).off + 4, none⟩ = some (.int .i64 ((rd_T47 t287 x21_5).f2.f2)) ∧ w'.cell? ⟨(ad325.add ((x21_5).toNat * 6)).block, (ad325.add ((x21_5).toNat * 6)).off + 5, none⟩ = some (.int .i64 ((rd_T47 t287 x21_5).f3)) ∧ w'.cell? (ad306.add ((((rd_T47 t287 x21_5).f1)).toNat * 2)) = some (.int .i64 ((rd_T41 l0 ((rd_T47 t287 x21_5).f1)).f0)) ∧ w'.cell? ⟨(ad306.add ((((rd_T47 t287 x21_5).f1)).toNat * 2)).block, (ad306.add ((((rd_T47 t287 x21_5).f1)).toNat * 2)).off + 1, none⟩ = some (.int .i64 ((rd_T41 l0 ((rd_T47 t287 x21_5).f1)).f1))) (ds := []) #[false, false, false, false, false, false, false, false, false, false, false, false, false, false, false, false, false, false, false, false, false, false, false, false] (by kernel_rfl) rfl rfl ⟨hx325_0, hx325_1, hx325_2, hx325_3, hx325_4, hx325_5, ((HB.out.cell (World.block_lt_of_cell? w _ hw326_0)).trans hw326_0), ((HB.out.cell (World.block_lt_of_cell? w _ hw326_1)).trans hw326_1), hx327_0, hx327_1, hx327_2, hx327_3, hx327_4, hx327_5, ((HB.out.cell (World.block_lt_of_cell? w _ hw328_0)).trans hw328_0), ((HB.out.cell (World.block_lt_of_cell? w _ hw328_1)).trans hw328_1)⟩ (fun hHeld => ?_); refine with_tabW fringelaw41_SkyPlaces.tab27 fringelaw41_SkyPlaces.bits27 (fun HT_ HW_ => ?_)
                                 generalize wc.drew = w83 at HO_12 HB hx325_0 hx325_1 hx325_2 hx325_3 hx325_4 hx325_5 hx326_0 hx326_1 hx327_0 hx327_1 hx327_2 hx327_3 hx327_4 hx327_5 hx328_0 hx328_1 hHeld ⊢
                                 refine pure_ (i := 0) (N := some 188) (v := ?_) (a' := ?_) #[true, false, false, false, false, false, false, false, false, false, false, false, false, false, false, false, false, false, false, false, false, false, false, false] rfl rfl (any_of HT_.out (by kernel_rfl)) (fun _ _ _ h => h) (Or.inl ⟨by rfl, ?_⟩) ?_ ?_
                                 rotate_left
                                 ·as_aux_lemma =>
                                  intro w'
                                  go_simp
                                  with_reducible rfl
                                 rotate_left
                                 ·as_aux_lemma =>
                                  simp only [Act.put, List.setIfInBounds_toArray, List.set_cons_zero, List.set_cons_succ, i64_w, i32_w]
                                  rfl
                                 refine pure_ (i := 1) (N := some 189) (v := ?_) (a' := ?_) #[true, true, false, false, false, false, false, false, false, false, false, false, false, false, false, false, false, false, false, false, false, false, false, false] rfl rfl (any_of HT_.out (by kernel_rfl)) (fun _ _ _ h => h) (Or.inl ⟨by rfl, ?_⟩) ?_ ?_
                                 rotate_left
                                 ·as_aux_lemma =>
                                  intro w'
                                  go_simp
                                  with_reducible rfl
                                 rotate_left
                                 ·as_aux_lemma =>
                                  simp only [Act.put, List.setIfInBounds_toArray, List.set_cons_zero, List.set_cons_succ, i64_w, i32_w]
                                  rfl
                                 refine pure_ (i := 2) (N := some 190) (v := ?_) (a' := ?_) #[true, true, true, false, false, false, false, false, false, false, false, false, false, false, false, false, false, false, false, false, false, false, false, false] rfl rfl (any_of HT_.out (by kernel_rfl)) (fun _ _ _ h => h) (Or.inl ⟨by rfl, ?_⟩) ?_ ?_
                                 rotate_left
                                 ·as_aux_lemma =>
                                  intro w'
                                  go_simp
                                  with_reducible rfl
                                 rotate_left
                                 ·as_aux_lemma =>
                                  simp only [Act.put, List.setIfInBounds_toArray, List.set_cons_zero, List.set_cons_succ, i64_w, i32_w]
                                  rfl
                                 refine pure_ (i := 3) (N := some 191) (v := ?_) (a' := ?_) #[true, true, true, true, false, false, false, false, false, false, false, false, false, false, false, false, false, false, false, false, false, false, false, false] rfl rfl (any_of HT_.out (by kernel_rfl)) (fun _ _ _ h => h) (Or.inl ⟨by rfl, ?_⟩) ?_ ?_
                                 rotate_left
                                 ·as_aux_lemma =>
                                  intro w'
                                  go_simp
                                  with_reducible rfl
                                 rotate_left
                                 ·as_aux_lemma =>
                                  simp only [Act.put, List.setIfInBounds_toArray, List.set_cons_zero, List.set_cons_succ, i64_w, i32_w]
                                  rfl
                                 refine pure_ (i := 4) (N := some 192) (v := ?_) (a' := ?_) #[true, true, true, true, true, false, false, false, false, false, false, false, false, false, false, false, false, false, false, false, false, false, false, false] rfl rfl (any_of HT_.out (by kernel_rfl)) (fun _ _ _ h => h) (Or.inl ⟨by rfl, ?_⟩) ?_ ?_
                                 rotate_left
                                 ·as_aux_lemma =>
                                  intro w'
                                  go_simp
                                  with_reducible rfl
                                 rotate_left
                                 ·as_aux_lemma =>
                                  simp only [Act.put, List.setIfInBounds_toArray, List.set_cons_zero, List.set_cons_succ, i64_w, i32_w]
                                  rfl
                                 refine pure_ (i := 8) (N := some 196) (v := ?_) (a' := ?_) #[true, true, true, true, true, false, false, false, true, false, false, false, false, false, false, false, false, false, false, false, false, false, false, false] rfl rfl (any_of HT_.out (by kernel_rfl)) (fun _ _ _ h => h) (Or.inl ⟨by rfl, ?_⟩) ?_ ?_
                                 rotate_left
                                 ·as_aux_lemma =>
                                  intro w'
                                  go_simp
                                  with_reducible rfl
                                 rotate_left
                                 ·as_aux_lemma =>
                                  simp only [Act.put, List.setIfInBounds_toArray, List.set_cons_zero, List.set_cons_succ, i64_w, i32_w]
                                  rfl
                                 refine pure_ (i := 9) (N := some 197) (v := ?_) (a' := ?_) #[true, true, true, true, true, false, false, false, true, true, false, false, false, false, false, false, false, false, false, false, false, false, false, false] rfl rfl (any_of HT_.out (by kernel_rfl)) (fun _ _ _ h => h) (Or.inl ⟨by rfl, ?_⟩) ?_ ?_
                                 rotate_left
                                 ·as_aux_lemma =>
                                  intro w'
                                  go_simp
                                  with_reducible rfl
                                 rotate_left
                                 ·as_aux_lemma =>
                                  simp only [Act.put, List.setIfInBounds_toArray, List.set_cons_zero, List.set_cons_succ, i64_w, i32_w]
                                  rfl
                                 refine pure_ (i := 10) (N := some 198) (v := ?_) (a' := ?_) #[true, true, true, true, true, false, false, false, true, true, true, false, false, false, false, false, false, false, false, false, false, false, false, false] rfl rfl (any_of HT_.out (by kernel_rfl)) (fun _ _ _ h => h) (Or.inl ⟨by rfl, ?_⟩) ?_ ?_
                                 rotate_left
                                 ·as_aux_lemma =>
                                  intro w'
                                  go_simp
                                  with_reducible rfl
                                 rotate_left
                                 ·as_aux_lemma =>
                                  simp only [Act.put, List.setIfInBounds_toArray, List.set_cons_zero, List.set_cons_succ, i64_w, i32_w]
                                  rfl
                                 refine pure_ (i := 11) (N := some 199) (v := ?_) (a' := ?_) #[true, true, true, true, true, false, false, false, true, true, true, true, false, false, false, false, false, false, false, false, false, false, false, false] rfl rfl (any_of HT_.out (by kernel_rfl)) (fun _ _ _ h => h) (Or.inl ⟨by rfl, ?_⟩) ?_ ?_
                                 rotate_left
                                 ·as_aux_lemma =>
                                  intro w'
                                  go_simp
                                  with_reducible rfl
                                 rotate_left
                                 ·as_aux_lemma =>
                                  simp only [Act.put, List.setIfInBounds_toArray, List.set_cons_zero, List.set_cons_succ, i64_w, i32_w]
                                  rfl
                                 refine pure_ (i := 12) (N := some 200) (v := ?_) (a' := ?_) #[true, true, true, true, true, false, false, false, true, true, true, true, true, false, false, false, false, false, false, false, false, false, false, false] rfl rfl (any_of HT_.out (by kernel_rfl)) (fun _ _ _ h => h) (Or.inl ⟨by rfl, ?_⟩) ?_ ?_
                                 rotate_left
                                 ·as_aux_lemma =>
                                  intro w'
                                  go_simp
                                  with_reducible rfl
                                 rotate_left
                                 ·as_aux_lemma =>
                                  simp only [Act.put, List.setIfInBounds_toArray, List.set_cons_zero, List.set_cons_succ, i64_w, i32_w]
                                  rfl
                                 refine pure_ (i := 17) (N := some 205) (v := ?_) (a' := ?_) #[true, true, true, true, true, false, false, false, true, true, true, true, true, false, false, false, false, true, false, false, false, false, false, false] rfl rfl (any_of HT_.out (by kernel_rfl)) (fun _ _ _ h => h) (Or.inl ⟨by rfl, ?_⟩) ?_ ?_
                                 rotate_left
                                 ·as_aux_lemma =>
                                  intro w'
                                  go_simp
                                  with_reducible rfl
                                 rotate_left
                                 ·as_aux_lemma =>
                                  simp only [Act.put, List.setIfInBounds_toArray, List.set_cons_zero, List.set_cons_succ, i64_w, i32_w]
                                  rfl
                                 refine take_ (i := 5) (N := some 193) (v := ?_) (a' := ?_) #[true, true, true, true, true, true, false, false, true, true, true, true, true, false, false, false, false, true, false, false, false, false, false, false] rfl rfl (take_ofW HT_.out HW_.out (by kernel_rfl)) (fun _ _ _ h => h) (Or.inl ⟨by rfl, ?_⟩) hHeld ?_ ?_
                                 rotate_left
                                 ·as_aux_lemma =>
                                  rintro w' ⟨s0, s1, s2, s3, s4, s5, s6, s7, s8, s9, s10, s11, s12, s13, s14, s15⟩
                                  go_simp
                                  with_reducible rfl
                                 rotate_left
                                 ·as_aux_lemma =>
                                  simp only [Act.put, List.setIfInBounds_toArray, List.set_cons_zero, List.set_cons_succ, i64_w, i32_w]
                                  rfl
                                 refine pure_ (i := 6) (N := some 194) (v := ?_) (a' := ?_) #[true, true, true, true, true, true, true, false, true, true, true, true, true, false, false, false, false, true, false, false, false, false, false, false] rfl rfl (any_of HT_.out (by kernel_rfl)) (fun _ _ _ h => h) (Or.inl ⟨by rfl, ?_⟩) ?_ ?_
                                 rotate_left
                                 ·as_aux_lemma =>
                                  intro w'
                                  go_simp
                                  with_reducible rfl
                                 rotate_left
                                 ·as_aux_lemma =>
                                  simp only [Act.put, List.setIfInBounds_toArray, List.set_cons_zero, List.set_cons_succ, i64_w, i32_w]
                                  rfl
                                 refine take_ (i := 7) (N := some 195) (v := ?_) (a' := ?_) #[true, true, true, true, true, true, true, true, true, true, true, true, true, false, false, false, false, true, false, false, false, false, false, false] rfl rfl (take_ofW HT_.out HW_.out (by kernel_rfl)) (fun _ _ _ h => h) (Or.inl ⟨by rfl, ?_⟩) hHeld ?_ ?_
                                 rotate_left
                                 ·as_aux_lemma =>
                                  rintro w' ⟨s0, s1, s2, s3, s4, s5, s6, s7, s8, s9, s10, s11, s12, s13, s14, s15⟩
                                  go_simp
                                  with_reducible rfl
                                 rotate_left
                                 ·as_aux_lemma =>
                                  simp only [Act.put, List.setIfInBounds_toArray, List.set_cons_zero, List.set_cons_succ, i64_w, i32_w]
                                  rfl
                                 refine take_ (i := 13) (N := some 201) (v := ?_) (a' := ?_) #[true, true, true, true, true, true, true, true, true, true, true, true, true, true, false, false, false, true, false, false, false, false, false, false] rfl rfl (take_ofW HT_.out HW_.out (by kernel_rfl)) (fun _ _ _ h => h) (Or.inl ⟨by rfl, ?_⟩) hHeld ?_ ?_
                                 rotate_left
                                 ·as_aux_lemma =>
                                  rintro w' ⟨s0, s1, s2, s3, s4, s5, s6, s7, s8, s9, s10, s11, s12, s13, s14, s15⟩
                                  go_simp
                                  with_reducible rfl
                                 rotate_left
                                 ·as_aux_lemma =>
                                  simp only [Act.put, List.setIfInBounds_toArray, List.set_cons_zero, List.set_cons_succ, i64_w, i32_w]
                                  rfl
                                 refine pure_ (i := 14) (N := some 202) (v := ?_) (a' := ?_) #[true, true, true, true, true, true, true, true, true, true, true, true, true, true, true, false, false, true, false, false, false, false, false, false] rfl rfl (any_of HT_.out (by kernel_rfl)) (fun _ _ _ h => h) (Or.inl ⟨by rfl, ?_⟩) ?_ ?_
                                 rotate_left
                                 ·as_aux_lemma =>
                                  intro w'
                                  go_simp
                                  with_reducible rfl
                                 rotate_left
                                 ·as_aux_lemma =>
                                  simp only [Act.put, List.setIfInBounds_toArray, List.set_cons_zero, List.set_cons_succ, i64_w, i32_w]
                                  rfl
                                 refine take_ (i := 15) (N := some 203) (v := ?_) (a' := ?_) #[true, true, true, true, true, true, true, true, true, true, true, true, true, true, true, true, false, true, false, false, false, false, false, false] rfl rfl (take_ofW HT_.out HW_.out (by kernel_rfl)) (fun _ _ _ h => h) (Or.inl ⟨by rfl, ?_⟩) hHeld ?_ ?_
                                 rotate_left
                                 ·as_aux_lemma =>
                                  rintro w' ⟨s0, s1, s2, s3, s4, s5, s6, s7, s8, s9, s10, s11, s12, s13, s14, s15⟩
                                  go_simp
                                  with_reducible rfl
                                 rotate_left
                                 ·as_aux_lemma =>
                                  simp only [Act.put, List.setIfInBounds_toArray, List.set_cons_zero, List.set_cons_succ, i64_w, i32_w]
                                  rfl
                                 refine one_ (i := 16) (N := some 204) #[true, true, true, true, true, true, true, true, true, true, true, true, true, true, true, true, true, true, false, false, false, false, false, false] rfl rfl (one_of HT_.out (by kernel_rfl)) (by decide) (fun K hK => ?_)
                                 refine Kd.R_lit_step k41 _ 41 ?hg (N := 204) ?hd (xs := ([(⟨(rd_T41 l0 ((rd_T47 t287 x21_5).f0)).f0, (rd_T41 l0 ((rd_T47 t287 x21_5).f0)).f1⟩ : S41), (⟨(rd_T41 l0 ((rd_T47 t287 x21_5).f1)).f0, (rd_T41 l0 ((rd_T47 t287 x21_5).f1)).f1⟩ : S41)] : List (S41))) (inner := [.int .i64 ((rd_T41 l0 ((rd_T47 t287 x21_5).f0)).f0), .int .i64 ((rd_T41 l0 ((rd_T47 t287 x21_5).f0)).f1), .int .i64 ((rd_T41 l0 ((rd_T47 t287 x21_5).f1)).f0), .int .i64 ((rd_T41 l0 ((rd_T47 t287 x21_5).f1)).f1)]) (ok := fun _ => True) (okp := fun _ => True) ?hr ?hp (fun _ hk => hk) trivial (Below.refl _ _) (Nat.le_refl _) (by simp) ?_; (case hd => rfl); (case hg => rfl); (case hr => first | (go_simp; done) | (go_simp; rfl)); (case hp => exact (Reps.c2 (show Kd.M k41 _ _ _ (⟨(rd_T41 l0 ((rd_T47 t287 x21_5).f0)).f0, (rd_T41 l0 ((rd_T47 t287 x21_5).f0)).f1⟩ : S41) [.int .i64 ((rd_T41 l0 ((rd_T47 t287 x21_5).f0)).f0), .int .i64 ((rd_T41 l0 ((rd_T47 t287 x21_5).f0)).f1)] from (k41_mkM _ _ _ (⟨(rd_T41 l0 ((rd_T47 t287 x21_5).f0)).f0, (rd_T41 l0 ((rd_T47 t287 x21_5).f0)).f1⟩ : S41) )) (Reps.c2 (show Kd.M k41 _ _ _ (⟨(rd_T41 l0 ((rd_T47 t287 x21_5).f1)).f0, (rd_T41 l0 ((rd_T47 t287 x21_5).f1)).f1⟩ : S41) [.int .i64 ((rd_T41 l0 ((rd_T47 t287 x21_5).f1)).f0), .int .i64 ((rd_T41 l0 ((rd_T47 t287 x21_5).f1)).f1)] from (k41_mkM _ _ _ (⟨(rd_T41 l0 ((rd_T47 t287 x21_5).f1)).f0, (rd_T41 l0 ((rd_T47 t287 x21_5).f1)).f1⟩ : S41) )) (Reps.none _ _))))
                                 intro v330 w84 ho85 hb hg_ hnew_
                                 have HS0_ := (hb.cell (World.block_lt_of_cell? _ _ (hHeld.1))).trans (hHeld.1)
                                 have HS1_ := (hb.cell (World.block_lt_of_cell? _ _ (hHeld.2.1))).trans (hHeld.2.1)
                                 have HS2_ := (hb.cell (World.block_lt_of_cell? _ _ (hHeld.2.2.1))).trans (hHeld.2.2.1)
                                 have HS3_ := (hb.cell (World.block_lt_of_cell? _ _ (hHeld.2.2.2.1))).trans (hHeld.2.2.2.1)
                                 have HS4_ := (hb.cell (World.block_lt_of_cell? _ _ (hHeld.2.2.2.2.1))).trans (hHeld.2.2.2.2.1)
                                 have HS5_ := (hb.cell (World.block_lt_of_cell? _ _ (hHeld.2.2.2.2.2.1))).trans (hHeld.2.2.2.2.2.1)
                                 have HS8_ := (hb.cell (World.block_lt_of_cell? _ _ (hHeld.2.2.2.2.2.2.2.2.1))).trans (hHeld.2.2.2.2.2.2.2.2.1)
                                 have HS9_ := (hb.cell (World.block_lt_of_cell? _ _ (hHeld.2.2.2.2.2.2.2.2.2.1))).trans (hHeld.2.2.2.2.2.2.2.2.2.1)
                                 have HS10_ := (hb.cell (World.block_lt_of_cell? _ _ (hHeld.2.2.2.2.2.2.2.2.2.2.1))).trans (hHeld.2.2.2.2.2.2.2.2.2.2.1)
                                 have HS11_ := (hb.cell (World.block_lt_of_cell? _ _ (hHeld.2.2.2.2.2.2.2.2.2.2.2.1))).trans (hHeld.2.2.2.2.2.2.2.2.2.2.2.1)
                                 have HS12_ := (hb.cell (World.block_lt_of_cell? _ _ (hHeld.2.2.2.2.2.2.2.2.2.2.2.2.1))).trans (hHeld.2.2.2.2.2.2.2.2.2.2.2.2.1)
                                 have HS13_ := (hb.cell (World.block_lt_of_cell? _ _ (hHeld.2.2.2.2.2.2.2.2.2.2.2.2.2.1))).trans (hHeld.2.2.2.2.2.2.2.2.2.2.2.2.2.1)
                                 clear hg_ hnew_
                                 (first | rw [← Ny329.out] at ho85 | (simp only [Int.reduceToNat] at ho85; rw [← Ny329.out] at ho85))
                                 have n0_ := Aside0.mk (Kd.R_below (by (with_reducible repeat (first | apply Kd.R_alloc | apply Kd.R_drewN | apply Kd.R_drew)); exact HO_12.out) hb)
                                 have n1_ := Aside0.mk (Kd.R_lower ho85 (below_size (by repeat (first | (with_reducible first | exact HB.out | apply below_alloc | apply pw_below_drewN | apply below_drew1) | exact HB.out))))
                                 have n2_ := Aside0.mk (below_step (by repeat (first | (with_reducible first | exact HB.out | apply below_alloc | apply pw_below_drewN | apply below_drew1) | exact HB.out)) hb)
                                 clear HO_12
                                 clear HB
                                 have HO_12 := n0_
                                 have HO331 := n1_
                                 have HB := n2_
                                 clear n0_ n1_ n2_
                                 clear hb ho85
                                 obtain ⟨Ao86, co86, eo86⟩ := Kd.R_slice HO331.out
                                 (first | subst eo86 | (injection eo86 with f1_ f2_ f3_; have f4_ := f1_.symm; have f5_ := f3_.symm; clear f1_ f2_ f3_; subst f4_; subst f5_))
                                 refine hK.out _ _ ⟨HS0_, HS1_, HS2_, HS3_, HS4_, HS5_, ((HB.out.cell (World.block_lt_of_cell? w _ hw326_0)).trans hw326_0), ((HB.out.cell (World.block_lt_of_cell? w _ hw326_1)).trans hw326_1), HS8_, HS9_, HS10_, HS11_, HS12_, HS13_, ((HB.out.cell (World.block_lt_of_cell? w _ hw328_0)).trans hw328_0), ((HB.out.cell (World.block_lt_of_cell? w _ hw328_1)).trans hw328_1)⟩ (fun hHeld => ?_)
                                 clear hK K
                                 refine norm_ (a' := ?_) ?_ ?_
                                 rotate_left
                                 ·as_aux_lemma =>
                                  show Act.put _ (some 204) _ = _
                                  simp only [Act.put, List.setIfInBounds_toArray, List.set_cons_zero, List.set_cons_succ, i64_w, i32_w]
                                  rfl
                                 refine one_ (i := 18) (N := some 206) #[true, true, true, true, true, true, true, true, true, true, true, true, true, true, true, true, true, true, true, false, false, false, false, false] rfl rfl (one_of HT_.out (by kernel_rfl)) (by decide) (fun K hK => ?_)
                                 refine goes_ Try.func18 (by kernel_rfl) rfl #[.slice Ao86 y329.length co86, .slice A1 l1.length c1] (by rfl) rfl rfl (by (try simp only [List.map_toArray, List.map_cons, List.map_nil]); first | done | rfl | (simp only [List.length_drop, List.length_take]; rfl)) ?_
                                 with_reducible refine (sky_See.calls kj62 _ _ y329 _ _ l1 t332 t333 _ ?side1 ?side2 ?side3 ?side4 A78.out).mono ?_
                                 (case side1 => repeat (first | exact (Kd.R_reads' HO331.out).2.2 | (with_reducible refine Kd.C_alloc ?_ _) | (with_reducible refine Kd.C_drewN ?_ _) | (with_reducible refine Kd.C_drew ?_)))
                                 (case side2 => exact (Kd.R_reads' HO331.out).2.1)
                                 (case side3 => repeat (first | exact (Kd.C_below HR1.out HB.out) | (with_reducible refine Kd.C_alloc ?_ _) | (with_reducible refine Kd.C_drewN ?_ _) | (with_reducible refine Kd.C_drew ?_)))
                                 (case side4 => exact HC1.out)
                                 rintro e w87 ⟨v334, rfl, ho0, hb⟩
                                 have HS0_ := (hb.cell (World.block_lt_of_cell? _ _ (hHeld.1))).trans (hHeld.1)
                                 have HS1_ := (hb.cell (World.block_lt_of_cell? _ _ (hHeld.2.1))).trans (hHeld.2.1)
                                 have HS2_ := (hb.cell (World.block_lt_of_cell? _ _ (hHeld.2.2.1))).trans (hHeld.2.2.1)
                                 have HS3_ := (hb.cell (World.block_lt_of_cell? _ _ (hHeld.2.2.2.1))).trans (hHeld.2.2.2.1)
                                 have HS4_ := (hb.cell (World.block_lt_of_cell? _ _ (hHeld.2.2.2.2.1))).trans (hHeld.2.2.2.2.1)
                                 have HS5_ := (hb.cell (World.block_lt_of_cell? _ _ (hHeld.2.2.2.2.2.1))).trans (hHeld.2.2.2.2.2.1)
                                 have HS8_ := (hb.cell (World.block_lt_of_cell? _ _ (hHeld.2.2.2.2.2.2.2.2.1))).trans (hHeld.2.2.2.2.2.2.2.2.1)
                                 have HS9_ := (hb.cell (World.block_lt_of_cell? _ _ (hHeld.2.2.2.2.2.2.2.2.2.1))).trans (hHeld.2.2.2.2.2.2.2.2.2.1)
                                 have HS10_ := (hb.cell (World.block_lt_of_cell? _ _ (hHeld.2.2.2.2.2.2.2.2.2.2.1))).trans (hHeld.2.2.2.2.2.2.2.2.2.2.1)
                                 have HS11_ := (hb.cell (World.block_lt_of_cell? _ _ (hHeld.2.2.2.2.2.2.2.2.2.2.2.1))).trans (hHeld.2.2.2.2.2.2.2.2.2.2.2.1)
                                 have HS12_ := (hb.cell (World.block_lt_of_cell? _ _ (hHeld.2.2.2.2.2.2.2.2.2.2.2.2.1))).trans (hHeld.2.2.2.2.2.2.2.2.2.2.2.2.1)
                                 have HS13_ := (hb.cell (World.block_lt_of_cell? _ _ (hHeld.2.2.2.2.2.2.2.2.2.2.2.2.2.1))).trans (hHeld.2.2.2.2.2.2.2.2.2.2.2.2.2.1)
                                 refine ⟨_, rfl, ?_⟩
                                 have n0_ := Aside0.mk (Kd.R_elder' (by (with_reducible repeat (first | apply Kd.R_alloc | apply Kd.R_drewN | apply Kd.R_drew)); exact HO_12.out) (Kd.R_base ho0) hb)
                                 have n1_ := Aside0.mk (Kd.R_below (by (with_reducible repeat (first | apply Kd.R_alloc | apply Kd.R_drewN | apply Kd.R_drew)); exact HO331.out) hb)
                                 have n2_ := Aside0.mk (Kd.R_lower (Kd.R_new' ho0 (Kd.R_lt (by (with_reducible repeat (first | apply Kd.R_alloc | apply Kd.R_drewN | apply Kd.R_drew)); exact HO_12.out))) (below_size (by repeat (first | (with_reducible first | exact HB.out | apply below_alloc | apply pw_below_drewN | apply below_drew1) | exact HB.out))))
                                 have n3_ := Aside0.mk (below_step (by repeat (first | (with_reducible first | exact HB.out | apply below_alloc | apply pw_below_drewN | apply below_drew1) | exact HB.out)) hb)
                                 clear HO_12
                                 clear HO331
                                 clear HB
                                 have HO_12 := n0_
                                 have HO331 := n1_
                                 have HO335 := n2_
                                 have HB := n3_
                                 clear n0_ n1_ n2_ n3_
                                 (try clear hb)
                                 (try clear hb2)
                                 (try clear hk)
                                 (try clear hi)
                                 (try clear ho0)
                                 refine hK.out _ _ ⟨HS0_, HS1_, HS2_, HS3_, HS4_, HS5_, ((HB.out.cell (World.block_lt_of_cell? w _ hw326_0)).trans hw326_0), ((HB.out.cell (World.block_lt_of_cell? w _ hw326_1)).trans hw326_1), HS8_, HS9_, HS10_, HS11_, HS12_, HS13_, ((HB.out.cell (World.block_lt_of_cell? w _ hw328_0)).trans hw328_0), ((HB.out.cell (World.block_lt_of_cell? w _ hw328_1)).trans hw328_1)⟩ (fun hHeld => ?_)
                                 clear hK K
                                 refine norm_ (a' := ?_) ?_ ?_
                                 rotate_left
                                 ·as_aux_lemma =>
                                  show Act.put _ (some 206) _ = _
                                  simp only [Act.put, List.setIfInBounds_toArray, List.set_cons_zero, List.set_cons_succ, i64_w, i32_w]
                                  rfl
                                 refine pure_ (i := 19) (N := some 187) (v := ?_) (a' := ?_) #[true, true, true, true, true, true, true, true, true, true, true, true, true, true, true, true, true, true, true, true, false, false, false, false] rfl rfl (any_of HT_.out (by kernel_rfl)) (fun _ _ _ h => h) (Or.inl ⟨by rfl, ?_⟩) ?_ ?_
                                 rotate_left
                                 ·as_aux_lemma =>
                                  intro w'
                                  go_simp
                                  with_reducible rfl
                                 rotate_left
                                 ·as_aux_lemma =>
                                  simp only [Act.put, List.setIfInBounds_toArray, List.set_cons_zero, List.set_cons_succ, i64_w, i32_w]
                                  rfl
                                 refine pure_ (i := 20) (N := some 207) (v := ?_) (a' := ?_) #[true, true, true, true, true, true, true, true, true, true, true, true, true, true, true, true, true, true, true, true, true, false, false, false] rfl rfl (any_of HT_.out (by kernel_rfl)) (fun _ _ _ h => h) (Or.inl ⟨by rfl, ?_⟩) ?_ ?_
                                 rotate_left
                                 ·as_aux_lemma =>
                                  intro w'
                                  go_simp
                                  with_reducible rfl
                                 rotate_left
                                 ·as_aux_lemma =>
                                  simp only [Act.put, List.setIfInBounds_toArray, List.set_cons_zero, List.set_cons_succ, i64_w, i32_w]
                                  rfl
                                 refine pure_ (i := 21) (N := some 208) (v := ?_) (a' := ?_) #[true, true, true, true, true, true, true, true, true, true, true, true, true, true, true, true, true, true, true, true, true, true, false, false] rfl rfl (any_of HT_.out (by kernel_rfl)) (fun _ _ _ h => h) (Or.inl ⟨by rfl, ?_⟩) ?_ ?_
                                 rotate_left
                                 ·as_aux_lemma =>
                                  intro w'
                                  go_simp
                                  with_reducible rfl
                                 rotate_left
                                 ·as_aux_lemma =>
                                  simp only [Act.put, List.setIfInBounds_toArray, List.set_cons_zero, List.set_cons_succ, i64_w, i32_w]
                                  rfl
                                 refine pure_ (i := 22) (N := some 22) (v := ?_) (a' := ?_) #[true, true, true, true, true, true, true, true, true, true, true, true, true, true, true, true, true, true, true, true, true, true, true, false] rfl rfl (any_of HT_.out (by kernel_rfl)) (fun _ _ _ h => h) (Or.inl ⟨by rfl, ?_⟩) ?_ ?_
                                 rotate_left
                                 ·as_aux_lemma =>
                                  intro w'
                                  go_simp
                                  with_reducible rfl
                                 rotate_left
                                 ·as_aux_lemma =>
                                  simp only [Act.put, List.setIfInBounds_toArray, List.set_cons_zero, List.set_cons_succ, i64_w, i32_w]
                                  rfl
                                 refine pure_ (i := 23) (N := some 23) (v := ?_) (a' := ?_) #[true, true, true, true, true, true, true, true, true, true, true, true, true, true, true, true, true, true, true, true, true, true, true, true] rfl rfl (any_of HT_.out (by kernel_rfl)) (fun _ _ _ h => h) (Or.inl ⟨by rfl, ?_⟩) ?_ ?_
                                 rotate_left
                                 ·as_aux_lemma =>
                                  intro w'
                                  go_simp
                                  with_reducible rfl
                                 rotate_left
                                 ·as_aux_lemma =>
                                  simp only [Act.put, List.setIfInBounds_toArray, List.set_cons_zero, List.set_cons_succ, i64_w, i32_w]
                                  rfl
                                 refine done_ (done_of HT_.out (by kernel_rfl)) ?_
                                 try go_wp2
                                 have n0_ := Aside0.mk (Kd.R_drew HO_12.out)
                                 have n1_ := Aside0.mk (Kd.R_drew HO331.out)
                                 have n2_ := Aside0.mk (Kd.R_drew HO335.out)
                                 have n3_ := Aside0.mk (below_drew1 HB.out)
                                 clear HO_12
                                 clear HO331
                                 clear HO335
                                 clear HB
                                 have HO_12 := n0_
                                 have HO331 := n1_
                                 have HO335 := n2_
                                 have HB := n3_
                                 clear n0_ n1_ n2_ n3_
                                 obtain ⟨Ao89, co89, eo89⟩ := Kd.R_slice HO335.out
                                 (first | subst eo89 | (injection eo89 with f1_ f2_ f3_; have f4_ := f1_.symm; have f5_ := f3_.symm; clear f1_ f2_ f3_; subst f4_; subst f5_))
                                 have p336 : 0 ≤ (0 : Int) := (by omega)
                                 have q336 : 0 < (t332.length : Int) := of_decide_eq_true (by first | (with_reducible assumption) | assumption)
                                 obtain ⟨ad336, e336, hx336_0, hx336_1, hx336_2, hx336_3, hx336_4, hx336_5⟩ := at_T47 (Kd.R_reads' HO335.out).2.2 0 p336 q336
                                 cases e336
                                 have qi336 : (0 < t332.length) = True := eq_true (by omega)
                                 (try rw [show ((0 : Int)).toNat = 0 from rfl] at hx336_0)
                                 (try rw [show 0 * 6 = 0 from rfl] at hx336_0)
                                 (try rw [Addr.add_zero'] at hx336_0)
                                 (try rw [show ((0 : Int)).toNat = 0 from rfl] at hx336_1)
                                 (try rw [show 0 * 6 = 0 from rfl] at hx336_1)
                                 (try rw [Addr.add_zero'] at hx336_1)
                                 (try rw [show ((0 : Int)).toNat = 0 from rfl] at hx336_2)
                                 (try rw [show 0 * 6 = 0 from rfl] at hx336_2)
                                 (try rw [Addr.add_zero'] at hx336_2)
                                 (try rw [show ((0 : Int)).toNat = 0 from rfl] at hx336_3)
                                 (try rw [show 0 * 6 = 0 from rfl] at hx336_3)
                                 (try rw [Addr.add_zero'] at hx336_3)
                                 (try rw [show ((0 : Int)).toNat = 0 from rfl] at hx336_4)
                                 (try rw [show 0 * 6 = 0 from rfl] at hx336_4)
                                 (try rw [Addr.add_zero'] at hx336_4)
                                 (try rw [show ((0 : Int)).toNat = 0 from rfl] at hx336_5)
                                 (try rw [show 0 * 6 = 0 from rfl] at hx336_5)
                                 (try rw [Addr.add_zero'] at hx336_5)
                                 replace p336 := eq_true p336
                                 replace q336 := eq_true q336
                                 have p337 : 0 ≤ (x21_5 : Int) := of_decide_eq_true (by first | (with_reducible assumption) | assumption)
                                 have q337 : x21_5 < (t287.length : Int) := of_decide_eq_true (by first | (with_reducible assumption) | assumption)
                                 obtain ⟨ad337, e337, hx337_0, hx337_1, hx337_2, hx337_3, hx337_4, hx337_5⟩ := at_T47 (Kd.R_reads' HO_12.out).2.2 x21_5 p337 q337
                                 obtain rfl : ad325 = ad337 := (by injection e337)
                                 replace p337 := eq_true p337
                                 replace q337 := eq_true q337
                                 refine start_ (n := 19) (S := fun w' => w'.cell? ad336 = some (.int .i64 ((rd_T47 t332 0).f0)) ∧ w'.cell? ⟨ad336.block, ad336.off + 1, none⟩ = some (.int .i64 ((rd_T47 t332 0).f1)) ∧ w'.cell? ⟨ad336.block, ad336.off + 2, none⟩ = some (.int .i64 ((rd_T47 t332 0).f2.f0)) ∧ w'.cell? ⟨ad336.block, ad336.off + 3, none⟩ = some (.int .i64 ((rd_T47 t332 0).f2.f1)) ∧ w'.cell? ⟨ad336.block, ad336.off + 4, none⟩ = some (.int .i64 ((rd_T47 t332 0).f2.f2)) ∧ w'.cell? ⟨ad336.block, ad336.off + 5, none⟩ = some (.int .i64 ((rd_T47 t332 0).f3)) ∧ w'.cell? (ad325.add ((x21_5).toNat * 6)) = some (.int .i64 ((rd_T47 t287 x21_5).f0)) ∧ w'.cell? ⟨(ad325.add ((x21_5).toNat * 6)).block, (ad325.add ((x21_5).toNat * 6)).off + 1, none⟩ = some (.int .i64 ((rd_T47 t287 x21_5).f1)) ∧ w'.cell? ⟨(ad325.add ((x21_5).toNat * 6)).block, (ad325.add ((x21_5).toNat * 6)).off + 2, none⟩ = some (.int .i64 ((rd_T47 t287 x21_5).f2.f0)) ∧ w'.cell? ⟨(ad325.add ((x21_5).toNat * 6)).block, (ad325.add ((x21_5).toNat * 6)).off + 3, none⟩ = some (.int .i64 ((rd_T47 t287 x21_5).f2.f1)) ∧ w'.cell? ⟨(ad325.add ((x21_5).toNat * 6)).block, (ad325.add ((x21_5).toNat * 6)).off + 4, none⟩ = some (.int .i64 ((rd_T47 t287 x21_5).f2.f2)) ∧ w'.cell? ⟨(ad325.add ((x21_5).toNat * 6)).block, (ad325.add ((x21_5).toNat * 6)).off + 5, none⟩ = some (.int .i64 ((rd_T47 t287 x21_5).f3))) (ds := []) #[false, false, false, false, false, false, false, false, false, false, false, false, false, false, false, false, false, false, false] (by kernel_rfl) rfl rfl ⟨hx336_0, hx336_1, hx336_2, hx336_3, hx336_4, hx336_5, hx337_0, hx337_1, hx337_2, hx337_3, hx337_4, hx337_5⟩ (fun hHeld => ?_); refine with_tabW fringelaw41_SkyPlaces.tab28 fringelaw41_SkyPlaces.bits28 (fun HT_ HW_ => ?_)
                                 generalize w87.drew = w88 at HO_12 HO331 HO335 HB hx336_0 hx336_1 hx336_2 hx336_3 hx336_4 hx336_5 hx337_0 hx337_1 hx337_2 hx337_3 hx337_4 hx337_5 hHeld ⊢
                                 refine pure_ (i := 0) (N := some 209) (v := ?_) (a' := ?_) #[true, false, false, false, false, false, false, false, false, false, false, false, false, false, false, false, false, false, false] rfl rfl (any_of HT_.out (by kernel_rfl)) (fun _ _ _ h => h) (Or.inl ⟨by rfl, ?_⟩) ?_ ?_
                                 rotate_left
                                 ·as_aux_lemma =>
                                  intro w'
                                  go_simp
                                  with_reducible rfl
                                 rotate_left
                                 ·as_aux_lemma =>
                                  simp only [Act.put, List.setIfInBounds_toArray, List.set_cons_zero, List.set_cons_succ, i64_w, i32_w]
                                  rfl
                                 refine pure_ (i := 1) (N := some 210) (v := ?_) (a' := ?_) #[true, true, false, false, false, false, false, false, false, false, false, false, false, false, false, false, false, false, false] rfl rfl (any_of HT_.out (by kernel_rfl)) (fun _ _ _ h => h) (Or.inl ⟨by rfl, ?_⟩) ?_ ?_
                                 rotate_left
                                 ·as_aux_lemma =>
                                  intro w'
                                  go_simp
                                  with_reducible rfl
                                 rotate_left
                                 ·as_aux_lemma =>
                                  simp only [Act.put, List.setIfInBounds_toArray, List.set_cons_zero, List.set_cons_succ, i64_w, i32_w]
                                  rfl
                                 refine pure_ (i := 2) (N := some 211) (v := ?_) (a' := ?_) #[true, true, true, false, false, false, false, false, false, false, false, false, false, false, false, false, false, false, false] rfl rfl (any_of HT_.out (by kernel_rfl)) (fun _ _ _ h => h) (Or.inl ⟨by rfl, ?_⟩) ?_ ?_
                                 rotate_left
                                 ·as_aux_lemma =>
                                  intro w'
                                  go_simp
                                  with_reducible rfl
                                 rotate_left
                                 ·as_aux_lemma =>
                                  simp only [Act.put, List.setIfInBounds_toArray, List.set_cons_zero, List.set_cons_succ, i64_w, i32_w]
                                  rfl
                                 refine pure_ (i := 3) (N := some 212) (v := ?_) (a' := ?_) #[true, true, true, true, false, false, false, false, false, false, false, false, false, false, false, false, false, false, false] rfl rfl (any_of HT_.out (by kernel_rfl)) (fun _ _ _ h => h) (Or.inl ⟨by rfl, ?_⟩) ?_ ?_
                                 rotate_left
                                 ·as_aux_lemma =>
                                  intro w'
                                  go_simp
                                  with_reducible rfl
                                 rotate_left
                                 ·as_aux_lemma =>
                                  simp only [Act.put, List.setIfInBounds_toArray, List.set_cons_zero, List.set_cons_succ, i64_w, i32_w]
                                  rfl
                                 refine pure_ (i := 4) (N := some 213) (v := ?_) (a' := ?_) #[true, true, true, true, true, false, false, false, false, false, false, false, false, false, false, false, false, false, false] rfl rfl (any_of HT_.out (by kernel_rfl)) (fun _ _ _ h => h) (Or.inl ⟨by rfl, ?_⟩) ?_ ?_
                                 rotate_left
                                 ·as_aux_lemma =>
                                  intro w'
                                  go_simp
                                  with_reducible rfl
                                 rotate_left
                                 ·as_aux_lemma =>
                                  simp only [Act.put, List.setIfInBounds_toArray, List.set_cons_zero, List.set_cons_succ, i64_w, i32_w]
                                  rfl
                                 refine pure_ (i := 5) (N := some 214) (v := ?_) (a' := ?_) #[true, true, true, true, true, true, false, false, false, false, false, false, false, false, false, false, false, false, false] rfl rfl (any_of HT_.out (by kernel_rfl)) (fun _ _ _ h => h) (Or.inl ⟨by rfl, ?_⟩) ?_ ?_
                                 rotate_left
                                 ·as_aux_lemma =>
                                  intro w'
                                  go_simp
                                  with_reducible rfl
                                 rotate_left
                                 ·as_aux_lemma =>
                                  simp only [Act.put, List.setIfInBounds_toArray, List.set_cons_zero, List.set_cons_succ, i64_w, i32_w]
                                  rfl
                                 refine pure_ (i := 6) (N := some 215) (v := ?_) (a' := ?_) #[true, true, true, true, true, true, true, false, false, false, false, false, false, false, false, false, false, false, false] rfl rfl (any_of HT_.out (by kernel_rfl)) (fun _ _ _ h => h) (Or.inl ⟨by rfl, ?_⟩) ?_ ?_
                                 rotate_left
                                 ·as_aux_lemma =>
                                  intro w'
                                  go_simp
                                  with_reducible rfl
                                 rotate_left
                                 ·as_aux_lemma =>
                                  simp only [Act.put, List.setIfInBounds_toArray, List.set_cons_zero, List.set_cons_succ, i64_w, i32_w]
                                  rfl
                                 refine pure_ (i := 7) (N := some 216) (v := ?_) (a' := ?_) #[true, true, true, true, true, true, true, true, false, false, false, false, false, false, false, false, false, false, false] rfl rfl (any_of HT_.out (by kernel_rfl)) (fun _ _ _ h => h) (Or.inl ⟨by rfl, ?_⟩) ?_ ?_
                                 rotate_left
                                 ·as_aux_lemma =>
                                  intro w'
                                  go_simp
                                  with_reducible rfl
                                 rotate_left
                                 ·as_aux_lemma =>
                                  simp only [Act.put, List.setIfInBounds_toArray, List.set_cons_zero, List.set_cons_succ, i64_w, i32_w]
                                  rfl
                                 refine pure_ (i := 8) (N := some 217) (v := ?_) (a' := ?_) #[true, true, true, true, true, true, true, true, true, false, false, false, false, false, false, false, false, false, false] rfl rfl (any_of HT_.out (by kernel_rfl)) (fun _ _ _ h => h) (Or.inl ⟨by rfl, ?_⟩) ?_ ?_
                                 rotate_left
                                 ·as_aux_lemma =>
                                  intro w'
                                  go_simp
                                  with_reducible rfl
                                 rotate_left
                                 ·as_aux_lemma =>
                                  simp only [Act.put, List.setIfInBounds_toArray, List.set_cons_zero, List.set_cons_succ, i64_w, i32_w]
                                  rfl
                                 refine pure_ (i := 9) (N := some 218) (v := ?_) (a' := ?_) #[true, true, true, true, true, true, true, true, true, true, false, false, false, false, false, false, false, false, false] rfl rfl (any_of HT_.out (by kernel_rfl)) (fun _ _ _ h => h) (Or.inl ⟨by rfl, ?_⟩) ?_ ?_
                                 rotate_left
                                 ·as_aux_lemma =>
                                  intro w'
                                  go_simp
                                  with_reducible rfl
                                 rotate_left
                                 ·as_aux_lemma =>
                                  simp only [Act.put, List.setIfInBounds_toArray, List.set_cons_zero, List.set_cons_succ, i64_w, i32_w]
                                  rfl
                                 refine pure_ (i := 10) (N := some 219) (v := ?_) (a' := ?_) #[true, true, true, true, true, true, true, true, true, true, true, false, false, false, false, false, false, false, false] rfl rfl (any_of HT_.out (by kernel_rfl)) (fun _ _ _ h => h) (Or.inl ⟨by rfl, ?_⟩) ?_ ?_
                                 rotate_left
                                 ·as_aux_lemma =>
                                  intro w'
                                  go_simp
                                  with_reducible rfl
                                 rotate_left
                                 ·as_aux_lemma =>
                                  simp only [Act.put, List.setIfInBounds_toArray, List.set_cons_zero, List.set_cons_succ, i64_w, i32_w]
                                  rfl
                                 refine pure_ (i := 12) (N := some 221) (v := ?_) (a' := ?_) #[true, true, true, true, true, true, true, true, true, true, true, false, true, false, false, false, false, false, false] rfl rfl (any_of HT_.out (by kernel_rfl)) (fun _ _ _ h => h) (Or.inl ⟨by rfl, ?_⟩) ?_ ?_
                                 rotate_left
                                 ·as_aux_lemma =>
                                  intro w'
                                  go_simp
                                  with_reducible rfl
                                 rotate_left
                                 ·as_aux_lemma =>
                                  simp only [Act.put, List.setIfInBounds_toArray, List.set_cons_zero, List.set_cons_succ, i64_w, i32_w]
                                  rfl
                                 refine pure_ (i := 13) (N := some 222) (v := ?_) (a' := ?_) #[true, true, true, true, true, true, true, true, true, true, true, false, true, true, false, false, false, false, false] rfl rfl (any_of HT_.out (by kernel_rfl)) (fun _ _ _ h => h) (Or.inl ⟨by rfl, ?_⟩) ?_ ?_
                                 rotate_left
                                 ·as_aux_lemma =>
                                  intro w'
                                  go_simp
                                  with_reducible rfl
                                 rotate_left
                                 ·as_aux_lemma =>
                                  simp only [Act.put, List.setIfInBounds_toArray, List.set_cons_zero, List.set_cons_succ, i64_w, i32_w]
                                  rfl
                                 refine pure_ (i := 14) (N := some 223) (v := ?_) (a' := ?_) #[true, true, true, true, true, true, true, true, true, true, true, false, true, true, true, false, false, false, false] rfl rfl (any_of HT_.out (by kernel_rfl)) (fun _ _ _ h => h) (Or.inl ⟨by rfl, ?_⟩) ?_ ?_
                                 rotate_left
                                 ·as_aux_lemma =>
                                  intro w'
                                  go_simp
                                  with_reducible rfl
                                 rotate_left
                                 ·as_aux_lemma =>
                                  simp only [Act.put, List.setIfInBounds_toArray, List.set_cons_zero, List.set_cons_succ, i64_w, i32_w]
                                  rfl
                                 refine pure_ (i := 15) (N := some 224) (v := ?_) (a' := ?_) #[true, true, true, true, true, true, true, true, true, true, true, false, true, true, true, true, false, false, false] rfl rfl (any_of HT_.out (by kernel_rfl)) (fun _ _ _ h => h) (Or.inl ⟨by rfl, ?_⟩) ?_ ?_
                                 rotate_left
                                 ·as_aux_lemma =>
                                  intro w'
                                  go_simp
                                  with_reducible rfl
                                 rotate_left
                                 ·as_aux_lemma =>
                                  simp only [Act.put, List.setIfInBounds_toArray, List.set_cons_zero, List.set_cons_succ, i64_w, i32_w]
                                  rfl
                                 refine take_ (i := 11) (N := some 220) (v := ?_) (a' := ?_) #[true, true, true, true, true, true, true, true, true, true, true, true, true, true, true, true, false, false, false] rfl rfl (take_ofW HT_.out HW_.out (by kernel_rfl)) (fun _ _ _ h => h) (Or.inl ⟨by rfl, ?_⟩) hHeld ?_ ?_
                                 rotate_left
                                 ·as_aux_lemma =>
                                  rintro w' ⟨s0, s1, s2, s3, s4, s5, s6, s7, s8, s9, s10, s11⟩
                                  go_simp
                                  with_reducible rfl
                                 rotate_left
                                 ·as_aux_lemma =>
                                  simp only [Act.put, List.setIfInBounds_toArray, List.set_cons_zero, List.set_cons_succ, i64_w, i32_w]
                                  rfl
                                 refine take_ (i := 16) (N := some 225) (v := ?_) (a' := ?_) #[true, true, true, true, true, true, true, true, true, true, true, true, true, true, true, true, true, false, false] rfl rfl (take_ofW HT_.out HW_.out (by kernel_rfl)) (fun _ _ _ h => h) (Or.inl ⟨by rfl, ?_⟩) hHeld ?_ ?_
                                 rotate_left
                                 ·as_aux_lemma =>
                                  rintro w' ⟨s0, s1, s2, s3, s4, s5, s6, s7, s8, s9, s10, s11⟩
                                  go_simp
                                  with_reducible rfl
                                 rotate_left
                                 ·as_aux_lemma =>
                                  simp only [Act.put, List.setIfInBounds_toArray, List.set_cons_zero, List.set_cons_succ, i64_w, i32_w]
                                  rfl
                                 refine pure_ (i := 17) (N := some 226) (v := ?_) (a' := ?_) #[true, true, true, true, true, true, true, true, true, true, true, true, true, true, true, true, true, true, false] rfl rfl (any_of HT_.out (by kernel_rfl)) (fun _ _ _ h => h) (Or.inl ⟨by rfl, ?_⟩) ?_ ?_
                                 rotate_left
                                 ·as_aux_lemma =>
                                  intro w'
                                  go_simp
                                  with_reducible rfl
                                 rotate_left
                                 ·as_aux_lemma =>
                                  simp only [Act.put, List.setIfInBounds_toArray, List.set_cons_zero, List.set_cons_succ, i64_w, i32_w]
                                  rfl
                                 refine pure_ (i := 18) (N := some 227) (v := ?_) (a' := ?_) #[true, true, true, true, true, true, true, true, true, true, true, true, true, true, true, true, true, true, true] rfl rfl (any_of HT_.out (by kernel_rfl)) (fun _ _ _ h => h) (Or.inl ⟨by rfl, ?_⟩) ?_ ?_
                                 rotate_left
                                 ·as_aux_lemma =>
                                  intro w'
                                  go_simp
                                  with_reducible rfl
                                 rotate_left
                                 ·as_aux_lemma =>
                                  simp only [Act.put, List.setIfInBounds_toArray, List.set_cons_zero, List.set_cons_succ, i64_w, i32_w]
                                  rfl
                                 refine done_ (done_of HT_.out (by kernel_rfl)) ?_
                                 try go_wp2
                                 go_roundg kj62
                                 case measure => have := HJ6.out; have := HK2.out; have := HJ39.out; have := HJ52.out; have := HK5.out; have := HJ62.out; omega
                                 case rel => exact ⟨(wrap64 (x21_5 + 1)), (by first | rfl | (simp; done) | (simp [*]; done)), H', ⟨by have := HJ6.out; have := HK2.out; have := HJ39.out; have := HJ52.out; have := HK5.out; have := HJ62.out; omega⟩, ⟨by (try simp only [hl15_39]); (with_reducible repeat (first | apply Kd.R_alloc | apply Kd.R_drewN | apply Kd.R_drew)); exact Kd.R_mono HO_12.out (fun _ hk => trivial)⟩, ⟨by repeat (first | (with_reducible first | exact HB.out | apply below_alloc | apply pw_below_drewN | apply below_drew1) | exact HB.out)⟩⟩
                               ·as_aux_lemma =>
                                rw [if_neg c81] at H
                                exact absurd H (by simp)
                              ·as_aux_lemma =>
                               rw [if_neg c80] at H
                               have c80b0 : ((t332.length : Int) == 1) = false := beq_eq_false_iff_ne.mpr c80
                               have c80b1 : ((t332.length : Int) != 1) = true := bne_iff_ne.mpr c80
                               (try simp only [hl15_39] at c80b0)
                               (try simp only [hl15_39] at c80b1)
                               exact absurd H (by simp)
                             ·as_aux_lemma =>
                              rw [if_neg c79] at H
                              have c79b0 : (t333 == 0) = false := beq_eq_false_iff_ne.mpr c79
                              have c79b1 : (t333 != 0) = true := bne_iff_ne.mpr c79
                              (try simp only [hl15_39] at c79b0)
                              (try simp only [hl15_39] at c79b1)
                              exact absurd H (by simp)
                            ·as_aux_lemma =>
                             rw [if_neg c77] at H
                             exact absurd H (by simp)
                           ·as_aux_lemma =>
                            rw [if_neg c76] at H
                            exact absurd H (by simp)
                          ·as_aux_lemma =>
                           rw [if_neg c75] at H
                           exact absurd H (by simp)
                         ·as_aux_lemma =>
                          rw [if_neg c74] at H
                          exact absurd H (by simp)
                        ·as_aux_lemma =>
                         rw [if_neg c73] at H
                         exact absurd H (by simp)
                       ·as_aux_lemma =>
                        rw [if_neg c72] at H
                        exact absurd H (by simp)
                   ·as_aux_lemma =>
                    rw [if_neg c62] at H
                    have c62b0 : decide (x21_5 < (t287.length : Int)) = false := decide_eq_false c62
                    (try simp only [hl15_39] at c62b0)
                    clear c62
                    have hend := Aside0.mk (Option.some.inj H)
                    clear H
                    obtain ⟨Ao90, co90, eo90⟩ := Kd.R_slice HO_12.out
                    subst eo90
                    go_wp2
                    go_ret
                    exact ⟨by first | rfl | (rw [hend.out]; done) | (simp only [hend.out]; done) | (simp [*]; first | exact hend.out | exact eq_of_beq hend.out | exact of_decide_eq_true hend.out) | (have h_ := hend.out; simp_all; done) | (simp [*, errW_none, errW_some] <;> rfl), by repeat (first | (with_reducible first | exact HB.out | apply below_alloc | apply pw_below_drewN | apply below_drew1) | exact HB.out)⟩
            ·as_aux_lemma =>
             rw [if_neg c37] at H
             exact absurd H (by simp)
           ·as_aux_lemma =>
            rw [if_neg c36] at H
            exact absurd H (by simp)
          ·as_aux_lemma =>
           rw [if_neg c35] at H
           exact absurd H (by simp)
      ·as_aux_lemma =>
       rw [if_neg c21] at H
       exact absurd H (by simp)
     ·as_aux_lemma =>
      rw [if_neg c20] at H
      exact absurd H (by simp)
    ·as_aux_lemma =>
     rw [if_neg c19] at H
     have c19b0 : (t288 == 0) = false := beq_eq_false_iff_ne.mpr c19
     have c19b1 : (t288 != 0) = true := bne_iff_ne.mpr c19
     exact absurd H (by simp)

end Go.Proofs.Ytihmhcdcbcleeaa.Q
