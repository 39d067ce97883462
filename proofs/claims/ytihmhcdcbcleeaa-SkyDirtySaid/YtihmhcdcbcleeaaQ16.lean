-- Written by qprint.py (a program of this session) over the program of the kit that prints contracts. Not trusted: Lean checks it.
import Derived.Test.YtihmhcdcbcleeaaQ0
import Derived.Test.YtihmhcdcbcleeaaQ10
import Derived.Test.YtihmhcdcbcleeaaQ12
import Derived.Test.YtihmhcdcbcleeaaQ15
namespace Go.Proofs.Ytihmhcdcbcleeaa.Q
open Go.RowKit Go.Proofs.YtihmhcdcbcleeaaW.PrintWords Go.Proofs.YtihmhcdcbcleeaaW.PrintLast Go.Proofs.YtihmhcdcbcleeaaW.PrintMore
attribute [local go_sem] max2_int min2_int max_two min_two max_three min_three max_four min_four   -- for this text's walks alone
set_option linter.unusedVariables false
set_option linter.unusedSimpArgs false

/-! ### fringelaw41_SkyDirty: function 5 -/
mutual
def fringelaw41_SkyDirty.j0 : Nat → List (S41) → List (S33) → List (S33) → Int → Bool → Bool → Option (Bool)
 | 0, _, _, _, _, _, _ => none
 | k + 1, x0, x1, x2, x3, x9, x51 => if x51 = true then (some x9) else ((sky_Dirty.f k x0 x1 x3).bind fun bt342 => ((sky_Dirty.f k x0 x2 x3).bind fun bt346 => ((some (([] : List (S33)) : List (S33))).bind fun y350 => (if y350.length + x1.length < 5864062014805 then ((some (y350 ++ x1 : List (S33))).bind fun y353 => (if y353.length + x2.length < 5864062014805 then ((sky_Dirty.f k x0 (y353 ++ x2) x3).bind fun bt359 => (if bt342.2 = 0 then (if bt346.2 = 0 then (if bt359.2 = 0 then ((fringelaw41_square.f k bt342.1 x3).bind fun t363 => (if t363 = true then ((fringelaw41_square.f k bt346.1 x3).bind fun t364 => (if t364 = true then ((fringelaw41_square.f k bt359.1 x3).bind fun t365 => (fringelaw41_SkyDirty.j1 k x0 x1 x3 x9 bt342.1 bt346.1 bt359.1 (!t365))) else (fringelaw41_SkyDirty.j1 k x0 x1 x3 x9 bt342.1 bt346.1 bt359.1 true))) else (fringelaw41_SkyDirty.j1 k x0 x1 x3 x9 bt342.1 bt346.1 bt359.1 true))) else (fringelaw41_SkyDirty.j1 k x0 x1 x3 x9 bt342.1 bt346.1 bt359.1 true)) else (fringelaw41_SkyDirty.j1 k x0 x1 x3 x9 bt342.1 bt346.1 bt359.1 true)) else (fringelaw41_SkyDirty.j1 k x0 x1 x3 x9 bt342.1 bt346.1 bt359.1 true))) else (none))) else (none)))))
def fringelaw41_SkyDirty.j1 : Nat → List (S41) → List (S33) → Int → Bool → List (List Int) → List (List Int) → List (List Int) → Bool → Option (Bool)
 | 0, _, _, _, _, _, _, _, _ => none
 | k + 1, x0, x1, x3, x9, x10, x12, x14, x105 => if x105 = true then (some false) else (fringelaw41_SkyDirty.l0 k x0 x1 x3 x9 x10 x12 x14 0)
def fringelaw41_SkyDirty.l0 : Nat → List (S41) → List (S33) → Int → Bool → List (List Int) → List (List Int) → List (List Int) → Int → Option (Bool)
 | 0, _, _, _, _, _, _, _, _ => none
 | k + 1, x0, x1, x3, x9, x10, x12, x14, x16 => if x16 < x3 then (fringelaw41_SkyDirty.l1 k x0 x1 x3 x9 x10 x12 x14 x16 0) else (if (x1.length : Int) = 1 then (if 0 < (x1.length : Int) then (fringelaw41_SkyDirty.l2 k x1 x3 x9 x10 (wrap64 (Int.tdiv (wrap64 ((wrap64 (((rd_T33 x1 0).f2) * (x0.length : Int))) * (wrap64 ((x0.length : Int) - 1)))) 2)) 0) else (none)) else (some x9))
def fringelaw41_SkyDirty.l1 : Nat → List (S41) → List (S33) → Int → Bool → List (List Int) → List (List Int) → List (List Int) → Int → Int → Option (Bool)
 | 0, _, _, _, _, _, _, _, _, _ => none
 | k + 1, x0, x1, x3, x9, x10, x12, x14, x16, x17 => if x17 < x3 then (if 0 ≤ x16 then (if x16 < (x10.length : Int) then (if 0 ≤ x17 then (if x17 < ((rd_L6 x10 x16).length : Int) then (if x16 < (x12.length : Int) then (if x17 < ((rd_L6 x12 x16).length : Int) then (if x16 < (x14.length : Int) then (if x17 < ((rd_L6 x14 x16).length : Int) then (if (wrap64 ((rd (rd_L6 x10 x16) x17) + (rd (rd_L6 x12 x16) x17))) = (rd (rd_L6 x14 x16) x17) then (fringelaw41_SkyDirty.l1 k x0 x1 x3 x9 x10 x12 x14 x16 (wrap64 (x17 + 1))) else (some false)) else (none)) else (none)) else (none)) else (none)) else (none)) else (none)) else (none)) else (none)) else (fringelaw41_SkyDirty.l0 k x0 x1 x3 x9 x10 x12 x14 (wrap64 (x16 + 1)))
def fringelaw41_SkyDirty.l2 : Nat → List (S33) → Int → Bool → List (List Int) → Int → Int → Option (Bool)
 | 0, _, _, _, _, _, _ => none
 | k + 1, x1, x3, x9, x10, x18, x19 => if x19 < x3 then (fringelaw41_SkyDirty.l3 k x1 x3 x9 x10 x18 x19 0) else (some x9)
def fringelaw41_SkyDirty.l3 : Nat → List (S33) → Int → Bool → List (List Int) → Int → Int → Int → Option (Bool)
 | 0, _, _, _, _, _, _, _ => none
 | k + 1, x1, x3, x9, x10, x18, x19, x20 => if x20 < x3 then (if 0 ≤ x19 then (if x19 < (x10.length : Int) then (if 0 ≤ x20 then (if x20 < ((rd_L6 x10 x19).length : Int) then (if (rd (rd_L6 x10 x19) x20) > x18 then (some false) else (if (rd (rd_L6 x10 x19) x20) < (wrap64 (-x18)) then (some false) else (if 0 < (x1.length : Int) then (if x20 = ((rd_T33 x1 0).f0) then (if x19 = ((rd_T33 x1 0).f1) then (if (rd (rd_L6 x10 x19) x20) = x18 then (fringelaw41_SkyDirty.l3 k x1 x3 x9 x10 x18 x19 (wrap64 (x20 + 1))) else (some false)) else (fringelaw41_SkyDirty.l3 k x1 x3 x9 x10 x18 x19 (wrap64 (x20 + 1)))) else (fringelaw41_SkyDirty.l3 k x1 x3 x9 x10 x18 x19 (wrap64 (x20 + 1)))) else (none)))) else (none)) else (none)) else (none)) else (none)) else (fringelaw41_SkyDirty.l2 k x1 x3 x9 x10 x18 (wrap64 (x19 + 1)))
end
def fringelaw41_SkyDirty.f (k : Nat) (l0 : List (S41)) (l1 : List (S33)) (l2 : List (S33)) (a3 : Int) : Option (Bool) := (fringelaw41_alive.f k).bind fun t339 => ((fringelaw41_valid.f k l0 l1).bind fun t340 => (if t340 = true then ((fringelaw41_valid.f k l0 l2).bind fun t341 => (if t341 = true then (if (wrap64 ((l1.length : Int) + (l2.length : Int))) > 16 then (fringelaw41_SkyDirty.j0 k l0 l1 l2 a3 t339 true) else (if a3 < 1 then (fringelaw41_SkyDirty.j0 k l0 l1 l2 a3 t339 true) else (if a3 > 8 then (fringelaw41_SkyDirty.j0 k l0 l1 l2 a3 t339 true) else (fringelaw41_SkyDirty.j0 k l0 l1 l2 a3 t339 (!t339))))) else (fringelaw41_SkyDirty.j0 k l0 l1 l2 a3 t339 true))) else (fringelaw41_SkyDirty.j0 k l0 l1 l2 a3 t339 true)))
theorem fringelaw41_SkyDirty.mono_l : ∀ k, (∀ y0 y1 y2 y3 y4 y5, LeO (fringelaw41_SkyDirty.j0 k y0 y1 y2 y3 y4 y5) (fringelaw41_SkyDirty.j0 (k + 1) y0 y1 y2 y3 y4 y5)) ∧ (∀ y0 y1 y2 y3 y4 y5 y6 y7, LeO (fringelaw41_SkyDirty.j1 k y0 y1 y2 y3 y4 y5 y6 y7) (fringelaw41_SkyDirty.j1 (k + 1) y0 y1 y2 y3 y4 y5 y6 y7)) ∧ (∀ y0 y1 y2 y3 y4 y5 y6 y7, LeO (fringelaw41_SkyDirty.l0 k y0 y1 y2 y3 y4 y5 y6 y7) (fringelaw41_SkyDirty.l0 (k + 1) y0 y1 y2 y3 y4 y5 y6 y7)) ∧ (∀ y0 y1 y2 y3 y4 y5 y6 y7 y8, LeO (fringelaw41_SkyDirty.l1 k y0 y1 y2 y3 y4 y5 y6 y7 y8) (fringelaw41_SkyDirty.l1 (k + 1) y0 y1 y2 y3 y4 y5 y6 y7 y8)) ∧ (∀ y0 y1 y2 y3 y4 y5, LeO (fringelaw41_SkyDirty.l2 k y0 y1 y2 y3 y4 y5) (fringelaw41_SkyDirty.l2 (k + 1) y0 y1 y2 y3 y4 y5)) ∧ (∀ y0 y1 y2 y3 y4 y5 y6, LeO (fringelaw41_SkyDirty.l3 k y0 y1 y2 y3 y4 y5 y6) (fringelaw41_SkyDirty.l3 (k + 1) y0 y1 y2 y3 y4 y5 y6))
 | 0 => ⟨fun _ _ _ _ _ _ r h => by simp [fringelaw41_SkyDirty.j0] at h, fun _ _ _ _ _ _ _ _ r h => by simp [fringelaw41_SkyDirty.j1] at h, fun _ _ _ _ _ _ _ _ r h => by simp [fringelaw41_SkyDirty.l0] at h, fun _ _ _ _ _ _ _ _ _ r h => by simp [fringelaw41_SkyDirty.l1] at h, fun _ _ _ _ _ _ r h => by simp [fringelaw41_SkyDirty.l2] at h, fun _ _ _ _ _ _ _ r h => by simp [fringelaw41_SkyDirty.l3] at h⟩
 | k + 1 => by
  obtain ⟨ih0, ih1, ih2, ih3, ih4, ih5⟩ := fringelaw41_SkyDirty.mono_l k
  refine ⟨?_, ?_, ?_, ?_, ?_, ?_⟩
  ·intro y0 y1 y2 y3 y4 y5
   unfold fringelaw41_SkyDirty.j0
   repeat' first
   | (with_reducible exact ih0 _ _ _ _ _ _)
   | (with_reducible exact ih1 _ _ _ _ _ _ _ _)
   | (with_reducible exact ih2 _ _ _ _ _ _ _ _)
   | (with_reducible exact ih3 _ _ _ _ _ _ _ _ _)
   | (with_reducible exact ih4 _ _ _ _ _ _)
   | (with_reducible exact ih5 _ _ _ _ _ _ _)
   | (with_reducible exact fringelaw41_alive.mono _)
   | (with_reducible exact fringelaw41_square.mono _ _ _)
   | (with_reducible exact fringelaw41_valid.mono _ _ _)
   | (with_reducible exact sky_Dirty.mono _ _ _ _)
   | (with_reducible exact LeO.refl _)
   | (with_reducible exact LeO.none _)
   | (with_reducible refine LeO.ite ?_ ?_)
   | (with_reducible refine LeO.bind ?_ (fun _ => ?_))
   | exact ih0 _ _ _ _ _ _
   | exact ih1 _ _ _ _ _ _ _ _
   | exact ih2 _ _ _ _ _ _ _ _
   | exact ih3 _ _ _ _ _ _ _ _ _
   | exact ih4 _ _ _ _ _ _
   | exact ih5 _ _ _ _ _ _ _
   | exact fringelaw41_alive.mono _
   | exact fringelaw41_square.mono _ _ _
   | exact fringelaw41_valid.mono _ _ _
   | exact sky_Dirty.mono _ _ _ _
   | exact LeO.none _
   | refine LeO.ite ?_ ?_
   | refine LeO.bind ?_ (fun _ => ?_)
  ·intro y0 y1 y2 y3 y4 y5 y6 y7
   unfold fringelaw41_SkyDirty.j1
   repeat' first
   | (with_reducible exact ih0 _ _ _ _ _ _)
   | (with_reducible exact ih1 _ _ _ _ _ _ _ _)
   | (with_reducible exact ih2 _ _ _ _ _ _ _ _)
   | (with_reducible exact ih3 _ _ _ _ _ _ _ _ _)
   | (with_reducible exact ih4 _ _ _ _ _ _)
   | (with_reducible exact ih5 _ _ _ _ _ _ _)
   | (with_reducible exact fringelaw41_alive.mono _)
   | (with_reducible exact fringelaw41_square.mono _ _ _)
   | (with_reducible exact fringelaw41_valid.mono _ _ _)
   | (with_reducible exact sky_Dirty.mono _ _ _ _)
   | (with_reducible exact LeO.refl _)
   | (with_reducible exact LeO.none _)
   | (with_reducible refine LeO.ite ?_ ?_)
   | (with_reducible refine LeO.bind ?_ (fun _ => ?_))
   | exact ih0 _ _ _ _ _ _
   | exact ih1 _ _ _ _ _ _ _ _
   | exact ih2 _ _ _ _ _ _ _ _
   | exact ih3 _ _ _ _ _ _ _ _ _
   | exact ih4 _ _ _ _ _ _
   | exact ih5 _ _ _ _ _ _ _
   | exact fringelaw41_alive.mono _
   | exact fringelaw41_square.mono _ _ _
   | exact fringelaw41_valid.mono _ _ _
   | exact sky_Dirty.mono _ _ _ _
   | exact LeO.none _
   | refine LeO.ite ?_ ?_
   | refine LeO.bind ?_ (fun _ => ?_)
  ·intro y0 y1 y2 y3 y4 y5 y6 y7
   unfold fringelaw41_SkyDirty.l0
   repeat' first
   | (with_reducible exact ih0 _ _ _ _ _ _)
   | (with_reducible exact ih1 _ _ _ _ _ _ _ _)
   | (with_reducible exact ih2 _ _ _ _ _ _ _ _)
   | (with_reducible exact ih3 _ _ _ _ _ _ _ _ _)
   | (with_reducible exact ih4 _ _ _ _ _ _)
   | (with_reducible exact ih5 _ _ _ _ _ _ _)
   | (with_reducible exact fringelaw41_alive.mono _)
   | (with_reducible exact fringelaw41_square.mono _ _ _)
   | (with_reducible exact fringelaw41_valid.mono _ _ _)
   | (with_reducible exact sky_Dirty.mono _ _ _ _)
   | (with_reducible exact LeO.refl _)
   | (with_reducible exact LeO.none _)
   | (with_reducible refine LeO.ite ?_ ?_)
   | (with_reducible refine LeO.bind ?_ (fun _ => ?_))
   | exact ih0 _ _ _ _ _ _
   | exact ih1 _ _ _ _ _ _ _ _
   | exact ih2 _ _ _ _ _ _ _ _
   | exact ih3 _ _ _ _ _ _ _ _ _
   | exact ih4 _ _ _ _ _ _
   | exact ih5 _ _ _ _ _ _ _
   | exact fringelaw41_alive.mono _
   | exact fringelaw41_square.mono _ _ _
   | exact fringelaw41_valid.mono _ _ _
   | exact sky_Dirty.mono _ _ _ _
   | exact LeO.none _
   | refine LeO.ite ?_ ?_
   | refine LeO.bind ?_ (fun _ => ?_)
  ·intro y0 y1 y2 y3 y4 y5 y6 y7 y8
   unfold fringelaw41_SkyDirty.l1
   repeat' first
   | (with_reducible exact ih0 _ _ _ _ _ _)
   | (with_reducible exact ih1 _ _ _ _ _ _ _ _)
   | (with_reducible exact ih2 _ _ _ _ _ _ _ _)
   | (with_reducible exact ih3 _ _ _ _ _ _ _ _ _)
   | (with_reducible exact ih4 _ _ _ _ _ _)
   | (with_reducible exact ih5 _ _ _ _ _ _ _)
   | (with_reducible exact fringelaw41_alive.mono _)
   | (with_reducible exact fringelaw41_square.mono _ _ _)
   | (with_reducible exact fringelaw41_valid.mono _ _ _)
   | (with_reducible exact sky_Dirty.mono _ _ _ _)
   | (with_reducible exact LeO.refl _)
   | (with_reducible exact LeO.none _)
   | (with_reducible refine LeO.ite ?_ ?_)
   | (with_reducible refine LeO.bind ?_ (fun _ => ?_))
   | exact ih0 _ _ _ _ _ _
   | exact ih1 _ _ _ _ _ _ _ _
   | exact ih2 _ _ _ _ _ _ _ _
   | exact ih3 _ _ _ _ _ _ _ _ _
   | exact ih4 _ _ _ _ _ _
   | exact ih5 _ _ _ _ _ _ _
   | exact fringelaw41_alive.mono _
   | exact fringelaw41_square.mono _ _ _
   | exact fringelaw41_valid.mono _ _ _
   | exact sky_Dirty.mono _ _ _ _
   | exact LeO.none _
   | refine LeO.ite ?_ ?_
   | refine LeO.bind ?_ (fun _ => ?_)
  ·intro y0 y1 y2 y3 y4 y5
   unfold fringelaw41_SkyDirty.l2
   repeat' first
   | (with_reducible exact ih0 _ _ _ _ _ _)
   | (with_reducible exact ih1 _ _ _ _ _ _ _ _)
   | (with_reducible exact ih2 _ _ _ _ _ _ _ _)
   | (with_reducible exact ih3 _ _ _ _ _ _ _ _ _)
   | (with_reducible exact ih4 _ _ _ _ _ _)
   | (with_reducible exact ih5 _ _ _ _ _ _ _)
   | (with_reducible exact fringelaw41_alive.mono _)
   | (with_reducible exact fringelaw41_square.mono _ _ _)
   | (with_reducible exact fringelaw41_valid.mono _ _ _)
   | (with_reducible exact sky_Dirty.mono _ _ _ _)
   | (with_reducible exact LeO.refl _)
   | (with_reducible exact LeO.none _)
   | (with_reducible refine LeO.ite ?_ ?_)
   | (with_reducible refine LeO.bind ?_ (fun _ => ?_))
   | exact ih0 _ _ _ _ _ _
   | exact ih1 _ _ _ _ _ _ _ _
   | exact ih2 _ _ _ _ _ _ _ _
   | exact ih3 _ _ _ _ _ _ _ _ _
   | exact ih4 _ _ _ _ _ _
   | exact ih5 _ _ _ _ _ _ _
   | exact fringelaw41_alive.mono _
   | exact fringelaw41_square.mono _ _ _
   | exact fringelaw41_valid.mono _ _ _
   | exact sky_Dirty.mono _ _ _ _
   | exact LeO.none _
   | refine LeO.ite ?_ ?_
   | refine LeO.bind ?_ (fun _ => ?_)
  ·intro y0 y1 y2 y3 y4 y5 y6
   unfold fringelaw41_SkyDirty.l3
   repeat' first
   | (with_reducible exact ih0 _ _ _ _ _ _)
   | (with_reducible exact ih1 _ _ _ _ _ _ _ _)
   | (with_reducible exact ih2 _ _ _ _ _ _ _ _)
   | (with_reducible exact ih3 _ _ _ _ _ _ _ _ _)
   | (with_reducible exact ih4 _ _ _ _ _ _)
   | (with_reducible exact ih5 _ _ _ _ _ _ _)
   | (with_reducible exact fringelaw41_alive.mono _)
   | (with_reducible exact fringelaw41_square.mono _ _ _)
   | (with_reducible exact fringelaw41_valid.mono _ _ _)
   | (with_reducible exact sky_Dirty.mono _ _ _ _)
   | (with_reducible exact LeO.refl _)
   | (with_reducible exact LeO.none _)
   | (with_reducible refine LeO.ite ?_ ?_)
   | (with_reducible refine LeO.bind ?_ (fun _ => ?_))
   | exact ih0 _ _ _ _ _ _
   | exact ih1 _ _ _ _ _ _ _ _
   | exact ih2 _ _ _ _ _ _ _ _
   | exact ih3 _ _ _ _ _ _ _ _ _
   | exact ih4 _ _ _ _ _ _
   | exact ih5 _ _ _ _ _ _ _
   | exact fringelaw41_alive.mono _
   | exact fringelaw41_square.mono _ _ _
   | exact fringelaw41_valid.mono _ _ _
   | exact sky_Dirty.mono _ _ _ _
   | exact LeO.none _
   | refine LeO.ite ?_ ?_
   | refine LeO.bind ?_ (fun _ => ?_)
theorem fringelaw41_SkyDirty.mono : ∀ a0 a1 a2 a3 k, LeO (fringelaw41_SkyDirty.f k a0 a1 a2 a3) (fringelaw41_SkyDirty.f (k + 1) a0 a1 a2 a3) := by
 intro a0 a1 a2 a3 k
 obtain ⟨ih0, ih1, ih2, ih3, ih4, ih5⟩ := fringelaw41_SkyDirty.mono_l k
 unfold fringelaw41_SkyDirty.f
 repeat' first
   | (with_reducible exact ih0 _ _ _ _ _ _)
   | (with_reducible exact ih1 _ _ _ _ _ _ _ _)
   | (with_reducible exact ih2 _ _ _ _ _ _ _ _)
   | (with_reducible exact ih3 _ _ _ _ _ _ _ _ _)
   | (with_reducible exact ih4 _ _ _ _ _ _)
   | (with_reducible exact ih5 _ _ _ _ _ _ _)
   | (with_reducible exact fringelaw41_alive.mono _)
   | (with_reducible exact fringelaw41_square.mono _ _ _)
   | (with_reducible exact fringelaw41_valid.mono _ _ _)
   | (with_reducible exact sky_Dirty.mono _ _ _ _)
   | (with_reducible exact LeO.refl _)
   | (with_reducible exact LeO.none _)
   | (with_reducible refine LeO.ite ?_ ?_)
   | (with_reducible refine LeO.bind ?_ (fun _ => ?_))
   | exact ih0 _ _ _ _ _ _
   | exact ih1 _ _ _ _ _ _ _ _
   | exact ih2 _ _ _ _ _ _ _ _
   | exact ih3 _ _ _ _ _ _ _ _ _
   | exact ih4 _ _ _ _ _ _
   | exact ih5 _ _ _ _ _ _ _
   | exact fringelaw41_alive.mono _
   | exact fringelaw41_square.mono _ _ _
   | exact fringelaw41_valid.mono _ _ _
   | exact sky_Dirty.mono _ _ _ _
   | exact LeO.none _
   | refine LeO.ite ?_ ?_
   | refine LeO.bind ?_ (fun _ => ?_)
set_option maxHeartbeats 8000000 in
set_option maxRecDepth 100000 in
theorem fringelaw41_SkyDirty.calls (k : Nat) (A0 : Option Addr) (c0 : Nat) (l0 : List (S41)) (A1 : Option Addr) (c1 : Nat) (l1 : List (S33)) (A2 : Option Addr) (c2 : Nat) (l2 : List (S33)) (a3 : Int) (w : World) (hr0 : Kd.C k41 w A0 l0.length l0) (hc0 : l0.length ≤ c0) (hr1 : Kd.C k33 w A1 l1.length l1) (hc1 : l1.length ≤ c1) (hr2 : Kd.C k33 w A2 l2.length l2) (hc2 : l2.length ≤ c2) (h : fringelaw41_SkyDirty.f k l0 l1 l2 a3 = some true) :
  Calls Try.prog 5 #[.slice A0 l0.length c0, .slice A1 l1.length c1, .slice A2 l2.length c2, .int .i64 a3] w fun e w' => e = .returned (.bool true) ∧ Below w.heap.size w w' := by
 have HR0 := Aside0.mk hr0
 have HC0 := Aside0.mk hc0
 clear hr0 hc0
 have HR1 := Aside0.mk hr1
 have HC1 := Aside0.mk hc1
 clear hr1 hc1
 have HR2 := Aside0.mk hr2
 have HC2 := Aside0.mk hc2
 clear hr2 hc2
 have HB := Aside0.mk (Below.refl w.heap.size w)
 have H : ((fringelaw41_alive.f k).bind fun t339 => ((fringelaw41_valid.f k l0 l1).bind fun t340 => (if t340 = true then ((fringelaw41_valid.f k l0 l2).bind fun t341 => (if t341 = true then (if (wrap64 ((l1.length : Int) + (l2.length : Int))) > 16 then (fringelaw41_SkyDirty.j0 k l0 l1 l2 a3 t339 true) else (if a3 < 1 then (fringelaw41_SkyDirty.j0 k l0 l1 l2 a3 t339 true) else (if a3 > 8 then (fringelaw41_SkyDirty.j0 k l0 l1 l2 a3 t339 true) else (fringelaw41_SkyDirty.j0 k l0 l1 l2 a3 t339 (!t339))))) else (fringelaw41_SkyDirty.j0 k l0 l1 l2 a3 t339 true))) else (fringelaw41_SkyDirty.j0 k l0 l1 l2 a3 t339 true)))) = some true := h
 clear h
 replace H := Option.bind_eq_some_iff.mp H
 obtain ⟨t339, A50, H⟩ := H
 replace H : ((fringelaw41_valid.f k l0 l1).bind fun t340 => (if t340 = true then ((fringelaw41_valid.f k l0 l2).bind fun t341 => (if t341 = true then (if (wrap64 ((l1.length : Int) + (l2.length : Int))) > 16 then (fringelaw41_SkyDirty.j0 k l0 l1 l2 a3 t339 true) else (if a3 < 1 then (fringelaw41_SkyDirty.j0 k l0 l1 l2 a3 t339 true) else (if a3 > 8 then (fringelaw41_SkyDirty.j0 k l0 l1 l2 a3 t339 true) else (fringelaw41_SkyDirty.j0 k l0 l1 l2 a3 t339 (!t339))))) else (fringelaw41_SkyDirty.j0 k l0 l1 l2 a3 t339 true))) else (fringelaw41_SkyDirty.j0 k l0 l1 l2 a3 t339 true))) = some true := H
 have A5 := Aside0.mk A50
 clear A50
 have HC6 := Aside0.mk H
 clear H
 go_enter Try.func5, Try.ntmps5
 go_upto_region 2 with (first | (go_at_call 16; (with_reducible refine (fringelaw41_alive.calls k  t339 _ A5.out).mono ?_); rintro e w7 ⟨rfl, hb⟩; have n0_ := Aside0.mk (below_step (by repeat (first | (with_reducible first | exact HB.out | apply below_alloc | apply pw_below_drewN | apply below_drew1) | exact HB.out)) hb); clear HB; have HB := n0_; clear n0_; (try clear hb); (try clear hb2); (try clear hk); (try clear hi)))
 repeat (go_quiet (fail); go_upto_region 2 with (first | (go_at_call 16; (with_reducible refine (fringelaw41_alive.calls k  t339 _ A5.out).mono ?_); rintro e w7 ⟨rfl, hb⟩; have n0_ := Aside0.mk (below_step (by repeat (first | (with_reducible first | exact HB.out | apply below_alloc | apply pw_below_drewN | apply below_drew1) | exact HB.out)) hb); clear HB; have HB := n0_; clear n0_; (try clear hb); (try clear hb2); (try clear hk); (try clear hi))))
 (try simp only [Act.put, List.setIfInBounds_toArray, List.set_cons_zero, List.set_cons_succ])
 go_cut [51] (fun v51 wc => ∃ (kq : Nat) (x51_5 : Bool), v51 = .bool x51_5 ∧ Aside0 (fringelaw41_SkyDirty.j0 kq l0 l1 l2 a3 t339 x51_5 = some true) ∧ Aside0 (kq ≤ k) ∧ Aside0 (Below w.heap.size w wc))
 case first =>
  as_aux_lemma =>
  have H := HC6.out
  clear HC6
  replace H := Option.bind_eq_some_iff.mp H
  obtain ⟨t340, A80, H⟩ := H
  replace H : (if t340 = true then ((fringelaw41_valid.f k l0 l2).bind fun t341 => (if t341 = true then (if (wrap64 ((l1.length : Int) + (l2.length : Int))) > 16 then (fringelaw41_SkyDirty.j0 k l0 l1 l2 a3 t339 true) else (if a3 < 1 then (fringelaw41_SkyDirty.j0 k l0 l1 l2 a3 t339 true) else (if a3 > 8 then (fringelaw41_SkyDirty.j0 k l0 l1 l2 a3 t339 true) else (fringelaw41_SkyDirty.j0 k l0 l1 l2 a3 t339 (!t339))))) else (fringelaw41_SkyDirty.j0 k l0 l1 l2 a3 t339 true))) else (fringelaw41_SkyDirty.j0 k l0 l1 l2 a3 t339 true)) = some true := H
  have A8 := Aside0.mk A80
  clear A80
  by_cases c9 : t340 = true
  ·as_aux_lemma =>
   subst c9
   have H1 : ((fringelaw41_valid.f k l0 l2).bind fun t341 => (if t341 = true then (if (wrap64 ((l1.length : Int) + (l2.length : Int))) > 16 then (fringelaw41_SkyDirty.j0 k l0 l1 l2 a3 t339 true) else (if a3 < 1 then (fringelaw41_SkyDirty.j0 k l0 l1 l2 a3 t339 true) else (if a3 > 8 then (fringelaw41_SkyDirty.j0 k l0 l1 l2 a3 t339 true) else (fringelaw41_SkyDirty.j0 k l0 l1 l2 a3 t339 (!t339))))) else (fringelaw41_SkyDirty.j0 k l0 l1 l2 a3 t339 true))) = some true := by first | (with_reducible rfl) | (rw [if_pos rfl] at H; exact H)
   clear H
   have H := H1
   clear H1
   replace H := Option.bind_eq_some_iff.mp H
   obtain ⟨t341, A100, H⟩ := H
   replace H : (if t341 = true then (if (wrap64 ((l1.length : Int) + (l2.length : Int))) > 16 then (fringelaw41_SkyDirty.j0 k l0 l1 l2 a3 t339 true) else (if a3 < 1 then (fringelaw41_SkyDirty.j0 k l0 l1 l2 a3 t339 true) else (if a3 > 8 then (fringelaw41_SkyDirty.j0 k l0 l1 l2 a3 t339 true) else (fringelaw41_SkyDirty.j0 k l0 l1 l2 a3 t339 (!t339))))) else (fringelaw41_SkyDirty.j0 k l0 l1 l2 a3 t339 true)) = some true := H
   have A10 := Aside0.mk A100
   clear A100
   by_cases c11 : t341 = true
   ·as_aux_lemma =>
    subst c11
    have H1 : (if (wrap64 ((l1.length : Int) + (l2.length : Int))) > 16 then (fringelaw41_SkyDirty.j0 k l0 l1 l2 a3 t339 true) else (if a3 < 1 then (fringelaw41_SkyDirty.j0 k l0 l1 l2 a3 t339 true) else (if a3 > 8 then (fringelaw41_SkyDirty.j0 k l0 l1 l2 a3 t339 true) else (fringelaw41_SkyDirty.j0 k l0 l1 l2 a3 t339 (!t339))))) = some true := by first | (with_reducible rfl) | (rw [if_pos rfl] at H; exact H)
    clear H
    have H := H1
    clear H1
    by_cases c12 : (wrap64 ((l1.length : Int) + (l2.length : Int))) > 16
    ·as_aux_lemma =>
     rw [if_pos c12] at H
     have c12b0 : decide (16 < (wrap64 ((l1.length : Int) + (l2.length : Int)))) = true := decide_eq_true c12
     clear c12
     (first | rw [c12b0] | (simp only [i64_w, i32_w]; rw [c12b0]) | skip)
     have H' := Aside0.mk H
     clear H
     go_wp2_with (first |  (go_at_call 17; (with_reducible refine (fringelaw41_valid.calls k _ _ l0 _ _ l1 true _ ?side1 ?side2 ?side3 ?side4 A8.out).mono ?_); (case side1 => repeat (first | exact (Kd.C_below HR0.out HB.out) | (with_reducible refine Kd.C_alloc ?_ _) | (with_reducible refine Kd.C_drewN ?_ _) | (with_reducible refine Kd.C_drew ?_))); (case side2 => exact HC0.out); (case side3 => repeat (first | exact (Kd.C_below HR1.out HB.out) | (with_reducible refine Kd.C_alloc ?_ _) | (with_reducible refine Kd.C_drewN ?_ _) | (with_reducible refine Kd.C_drew ?_))); (case side4 => exact HC1.out); rintro e w' ⟨rfl, ⟨nd, rfl⟩⟩; (try first | exact ⟨rfl, _, World.drewN_drewN _ _ _⟩ | exact ⟨rfl, _, Eq.trans (World.drewN_drewN _ _ _) (congrArg (World.drewN _) (Nat.add_assoc _ _ _))⟩)) | (go_at_call 17; (with_reducible refine (fringelaw41_valid.calls k _ _ l0 _ _ l2 true _ ?side1 ?side2 ?side3 ?side4 A10.out).mono ?_); (case side1 => repeat (first | exact (Kd.C_below HR0.out (by repeat (first | (with_reducible first | exact HB.out | apply below_alloc | apply pw_below_drewN | apply below_drew1) | exact HB.out))) | (with_reducible refine Kd.C_alloc ?_ _) | (with_reducible refine Kd.C_drewN ?_ _) | (with_reducible refine Kd.C_drew ?_))); (case side2 => exact HC0.out); (case side3 => repeat (first | exact (Kd.C_below HR2.out (by repeat (first | (with_reducible first | exact HB.out | apply below_alloc | apply pw_below_drewN | apply below_drew1) | exact HB.out))) | (with_reducible refine Kd.C_alloc ?_ _) | (with_reducible refine Kd.C_drewN ?_ _) | (with_reducible refine Kd.C_drew ?_))); (case side4 => exact HC2.out); rintro e w' ⟨rfl, ⟨nd, rfl⟩⟩; (try first | exact ⟨rfl, _, World.drewN_drewN _ _ _⟩ | exact ⟨rfl, _, Eq.trans (World.drewN_drewN _ _ _) (congrArg (World.drewN _) (Nat.add_assoc _ _ _))⟩)) | go_values | go_skip | go_guarded | go_step | go_upon | go_back | (simp only [Int.not_lt, Int.not_le] at *; go_simp) | (go_values <;> (try go_simp)) | (go_ite <;> go_prune <;> (try go_simp)) | (split <;> (first | (rename_i hx; exact (hx _ rfl).elim) | go_prune)) | go_quiet (fail))
     go_meet
     case rel => exact ⟨_, (true), (by first | rfl | (simp; done) | (simp [*]; done)), H', ⟨by first | omega | exact Nat.le_refl _⟩, ⟨by repeat (first | (with_reducible first | exact HB.out | apply below_alloc | apply pw_below_drewN | apply below_drew1) | exact HB.out)⟩⟩
    ·as_aux_lemma =>
     rw [if_neg c12] at H
     have c12b0 : decide (16 < (wrap64 ((l1.length : Int) + (l2.length : Int)))) = false := decide_eq_false c12
     clear c12
     (first | rw [c12b0] | (simp only [i64_w, i32_w]; rw [c12b0]) | skip)
     by_cases c13 : a3 < 1
     ·as_aux_lemma =>
      rw [if_pos c13] at H
      have c13b0 : decide (a3 < 1) = true := decide_eq_true c13
      clear c13
      have H' := Aside0.mk H
      clear H
      go_wp2_with (first |  (go_at_call 17; (with_reducible refine (fringelaw41_valid.calls k _ _ l0 _ _ l1 true _ ?side1 ?side2 ?side3 ?side4 A8.out).mono ?_); (case side1 => repeat (first | exact (Kd.C_below HR0.out HB.out) | (with_reducible refine Kd.C_alloc ?_ _) | (with_reducible refine Kd.C_drewN ?_ _) | (with_reducible refine Kd.C_drew ?_))); (case side2 => exact HC0.out); (case side3 => repeat (first | exact (Kd.C_below HR1.out HB.out) | (with_reducible refine Kd.C_alloc ?_ _) | (with_reducible refine Kd.C_drewN ?_ _) | (with_reducible refine Kd.C_drew ?_))); (case side4 => exact HC1.out); rintro e w' ⟨rfl, ⟨nd, rfl⟩⟩; (try first | exact ⟨rfl, _, World.drewN_drewN _ _ _⟩ | exact ⟨rfl, _, Eq.trans (World.drewN_drewN _ _ _) (congrArg (World.drewN _) (Nat.add_assoc _ _ _))⟩)) | (go_at_call 17; (with_reducible refine (fringelaw41_valid.calls k _ _ l0 _ _ l2 true _ ?side1 ?side2 ?side3 ?side4 A10.out).mono ?_); (case side1 => repeat (first | exact (Kd.C_below HR0.out (by repeat (first | (with_reducible first | exact HB.out | apply below_alloc | apply pw_below_drewN | apply below_drew1) | exact HB.out))) | (with_reducible refine Kd.C_alloc ?_ _) | (with_reducible refine Kd.C_drewN ?_ _) | (with_reducible refine Kd.C_drew ?_))); (case side2 => exact HC0.out); (case side3 => repeat (first | exact (Kd.C_below HR2.out (by repeat (first | (with_reducible first | exact HB.out | apply below_alloc | apply pw_below_drewN | apply below_drew1) | exact HB.out))) | (with_reducible refine Kd.C_alloc ?_ _) | (with_reducible refine Kd.C_drewN ?_ _) | (with_reducible refine Kd.C_drew ?_))); (case side4 => exact HC2.out); rintro e w' ⟨rfl, ⟨nd, rfl⟩⟩; (try first | exact ⟨rfl, _, World.drewN_drewN _ _ _⟩ | exact ⟨rfl, _, Eq.trans (World.drewN_drewN _ _ _) (congrArg (World.drewN _) (Nat.add_assoc _ _ _))⟩)) | go_values | go_skip | go_guarded | go_step | go_upon | go_back | (simp only [Int.not_lt, Int.not_le] at *; go_simp) | (go_values <;> (try go_simp)) | (go_ite <;> go_prune <;> (try go_simp)) | (split <;> (first | (rename_i hx; exact (hx _ rfl).elim) | go_prune)) | go_quiet (fail))
      go_meet
      case rel => exact ⟨_, (true), (by first | rfl | (simp; done) | (simp [*]; done)), H', ⟨by first | omega | exact Nat.le_refl _⟩, ⟨by repeat (first | (with_reducible first | exact HB.out | apply below_alloc | apply pw_below_drewN | apply below_drew1) | exact HB.out)⟩⟩
     ·as_aux_lemma =>
      rw [if_neg c13] at H
      have c13b0 : decide (a3 < 1) = false := decide_eq_false c13
      clear c13
      by_cases c14 : a3 > 8
      ·as_aux_lemma =>
       rw [if_pos c14] at H
       have c14b0 : decide (8 < a3) = true := decide_eq_true c14
       clear c14
       have H' := Aside0.mk H
       clear H
       go_wp2_with (first |  (go_at_call 17; (with_reducible refine (fringelaw41_valid.calls k _ _ l0 _ _ l1 true _ ?side1 ?side2 ?side3 ?side4 A8.out).mono ?_); (case side1 => repeat (first | exact (Kd.C_below HR0.out HB.out) | (with_reducible refine Kd.C_alloc ?_ _) | (with_reducible refine Kd.C_drewN ?_ _) | (with_reducible refine Kd.C_drew ?_))); (case side2 => exact HC0.out); (case side3 => repeat (first | exact (Kd.C_below HR1.out HB.out) | (with_reducible refine Kd.C_alloc ?_ _) | (with_reducible refine Kd.C_drewN ?_ _) | (with_reducible refine Kd.C_drew ?_))); (case side4 => exact HC1.out); rintro e w' ⟨rfl, ⟨nd, rfl⟩⟩; (try first | exact ⟨rfl, _, World.drewN_drewN _ _ _⟩ | exact ⟨rfl, _, Eq.trans (World.drewN_drewN _ _ _) (congrArg (World.drewN _) (Nat.add_assoc _ _ _))⟩)) | (go_at_call 17; (with_reducible refine (fringelaw41_valid.calls k _ _ l0 _ _ l2 true _ ?side1 ?side2 ?side3 ?side4 A10.out).mono ?_); (case side1 => repeat (first | exact (Kd.C_below HR0.out (by repeat (first | (with_reducible first | exact HB.out | apply below_alloc | apply pw_below_drewN | apply below_drew1) | exact HB.out))) | (with_reducible refine Kd.C_alloc ?_ _) | (with_reducible refine Kd.C_drewN ?_ _) | (with_reducible refine Kd.C_drew ?_))); (case side2 => exact HC0.out); (case side3 => repeat (first | exact (Kd.C_below HR2.out (by repeat (first | (with_reducible first | exact HB.out | apply below_alloc | apply pw_below_drewN | apply below_drew1) | exact HB.out))) | (with_reducible refine Kd.C_alloc ?_ _) | (with_reducible refine Kd.C_drewN ?_ _) | (with_reducible refine Kd.C_drew ?_))); (case side4 => exact HC2.out); rintro e w' ⟨rfl, ⟨nd, rfl⟩⟩; (try first | exact ⟨rfl, _, World.drewN_drewN _ _ _⟩ | exact ⟨rfl, _, Eq.trans (World.drewN_drewN _ _ _) (congrArg (World.drewN _) (Nat.add_assoc _ _ _))⟩)) | go_values | go_skip | go_guarded | go_step | go_upon | go_back | (simp only [Int.not_lt, Int.not_le] at *; go_simp) | (go_values <;> (try go_simp)) | (go_ite <;> go_prune <;> (try go_simp)) | (split <;> (first | (rename_i hx; exact (hx _ rfl).elim) | go_prune)) | go_quiet (fail))
       go_meet
       case rel => exact ⟨_, (true), (by first | rfl | (simp; done) | (simp [*]; done)), H', ⟨by first | omega | exact Nat.le_refl _⟩, ⟨by repeat (first | (with_reducible first | exact HB.out | apply below_alloc | apply pw_below_drewN | apply below_drew1) | exact HB.out)⟩⟩
      ·as_aux_lemma =>
       rw [if_neg c14] at H
       have c14b0 : decide (8 < a3) = false := decide_eq_false c14
       clear c14
       have H' := Aside0.mk H
       clear H
       go_wp2_with (first |  (go_at_call 17; (with_reducible refine (fringelaw41_valid.calls k _ _ l0 _ _ l1 true _ ?side1 ?side2 ?side3 ?side4 A8.out).mono ?_); (case side1 => repeat (first | exact (Kd.C_below HR0.out HB.out) | (with_reducible refine Kd.C_alloc ?_ _) | (with_reducible refine Kd.C_drewN ?_ _) | (with_reducible refine Kd.C_drew ?_))); (case side2 => exact HC0.out); (case side3 => repeat (first | exact (Kd.C_below HR1.out HB.out) | (with_reducible refine Kd.C_alloc ?_ _) | (with_reducible refine Kd.C_drewN ?_ _) | (with_reducible refine Kd.C_drew ?_))); (case side4 => exact HC1.out); rintro e w' ⟨rfl, ⟨nd, rfl⟩⟩; (try first | exact ⟨rfl, _, World.drewN_drewN _ _ _⟩ | exact ⟨rfl, _, Eq.trans (World.drewN_drewN _ _ _) (congrArg (World.drewN _) (Nat.add_assoc _ _ _))⟩)) | (go_at_call 17; (with_reducible refine (fringelaw41_valid.calls k _ _ l0 _ _ l2 true _ ?side1 ?side2 ?side3 ?side4 A10.out).mono ?_); (case side1 => repeat (first | exact (Kd.C_below HR0.out (by repeat (first | (with_reducible first | exact HB.out | apply below_alloc | apply pw_below_drewN | apply below_drew1) | exact HB.out))) | (with_reducible refine Kd.C_alloc ?_ _) | (with_reducible refine Kd.C_drewN ?_ _) | (with_reducible refine Kd.C_drew ?_))); (case side2 => exact HC0.out); (case side3 => repeat (first | exact (Kd.C_below HR2.out (by repeat (first | (with_reducible first | exact HB.out | apply below_alloc | apply pw_below_drewN | apply below_drew1) | exact HB.out))) | (with_reducible refine Kd.C_alloc ?_ _) | (with_reducible refine Kd.C_drewN ?_ _) | (with_reducible refine Kd.C_drew ?_))); (case side4 => exact HC2.out); rintro e w' ⟨rfl, ⟨nd, rfl⟩⟩; (try first | exact ⟨rfl, _, World.drewN_drewN _ _ _⟩ | exact ⟨rfl, _, Eq.trans (World.drewN_drewN _ _ _) (congrArg (World.drewN _) (Nat.add_assoc _ _ _))⟩)) | go_values | go_skip | go_guarded | go_step | go_upon | go_back | (simp only [Int.not_lt, Int.not_le] at *; go_simp) | (go_values <;> (try go_simp)) | (go_ite <;> go_prune <;> (try go_simp)) | (split <;> (first | (rename_i hx; exact (hx _ rfl).elim) | go_prune)) | go_quiet (fail))
       go_meet
       case rel => exact ⟨_, (!t339), (by first | rfl | (simp; done) | (simp [*]; done)), H', ⟨by first | omega | exact Nat.le_refl _⟩, ⟨by repeat (first | (with_reducible first | exact HB.out | apply below_alloc | apply pw_below_drewN | apply below_drew1) | exact HB.out)⟩⟩
   ·as_aux_lemma =>
    replace c11 := Bool.eq_false_iff.mpr c11
    subst c11
    have H1 : (fringelaw41_SkyDirty.j0 k l0 l1 l2 a3 t339 true) = some true := by first | (with_reducible rfl) | (rw [if_neg (show ¬ (false = true) by decide)] at H; exact H)
    clear H
    have H := H1
    clear H1
    have H' := Aside0.mk H
    clear H
    go_wp2_with (first |  (go_at_call 17; (with_reducible refine (fringelaw41_valid.calls k _ _ l0 _ _ l1 true _ ?side1 ?side2 ?side3 ?side4 A8.out).mono ?_); (case side1 => repeat (first | exact (Kd.C_below HR0.out HB.out) | (with_reducible refine Kd.C_alloc ?_ _) | (with_reducible refine Kd.C_drewN ?_ _) | (with_reducible refine Kd.C_drew ?_))); (case side2 => exact HC0.out); (case side3 => repeat (first | exact (Kd.C_below HR1.out HB.out) | (with_reducible refine Kd.C_alloc ?_ _) | (with_reducible refine Kd.C_drewN ?_ _) | (with_reducible refine Kd.C_drew ?_))); (case side4 => exact HC1.out); rintro e w' ⟨rfl, ⟨nd, rfl⟩⟩; (try first | exact ⟨rfl, _, World.drewN_drewN _ _ _⟩ | exact ⟨rfl, _, Eq.trans (World.drewN_drewN _ _ _) (congrArg (World.drewN _) (Nat.add_assoc _ _ _))⟩)) | (go_at_call 17; (with_reducible refine (fringelaw41_valid.calls k _ _ l0 _ _ l2 false _ ?side1 ?side2 ?side3 ?side4 A10.out).mono ?_); (case side1 => repeat (first | exact (Kd.C_below HR0.out (by repeat (first | (with_reducible first | exact HB.out | apply below_alloc | apply pw_below_drewN | apply below_drew1) | exact HB.out))) | (with_reducible refine Kd.C_alloc ?_ _) | (with_reducible refine Kd.C_drewN ?_ _) | (with_reducible refine Kd.C_drew ?_))); (case side2 => exact HC0.out); (case side3 => repeat (first | exact (Kd.C_below HR2.out (by repeat (first | (with_reducible first | exact HB.out | apply below_alloc | apply pw_below_drewN | apply below_drew1) | exact HB.out))) | (with_reducible refine Kd.C_alloc ?_ _) | (with_reducible refine Kd.C_drewN ?_ _) | (with_reducible refine Kd.C_drew ?_))); (case side4 => exact HC2.out); rintro e w' ⟨rfl, ⟨nd, rfl⟩⟩; (try first | exact ⟨rfl, _, World.drewN_drewN _ _ _⟩ | exact ⟨rfl, _, Eq.trans (World.drewN_drewN _ _ _) (congrArg (World.drewN _) (Nat.add_assoc _ _ _))⟩)) | go_values | go_skip | go_guarded | go_step | go_upon | go_back | (simp only [Int.not_lt, Int.not_le] at *; go_simp) | (go_values <;> (try go_simp)) | (go_ite <;> go_prune <;> (try go_simp)) | (split <;> (first | (rename_i hx; exact (hx _ rfl).elim) | go_prune)) | go_quiet (fail))
    go_meet
    case rel => exact ⟨_, (true), (by first | rfl | (simp; done) | (simp [*]; done)), H', ⟨by first | omega | exact Nat.le_refl _⟩, ⟨by repeat (first | (with_reducible first | exact HB.out | apply below_alloc | apply pw_below_drewN | apply below_drew1) | exact HB.out)⟩⟩
  ·as_aux_lemma =>
   replace c9 := Bool.eq_false_iff.mpr c9
   subst c9
   have H1 : (fringelaw41_SkyDirty.j0 k l0 l1 l2 a3 t339 true) = some true := by first | (with_reducible rfl) | (rw [if_neg (show ¬ (false = true) by decide)] at H; exact H)
   clear H
   have H := H1
   clear H1
   have H' := Aside0.mk H
   clear H
   go_wp2_with (first |  (go_at_call 17; (with_reducible refine (fringelaw41_valid.calls k _ _ l0 _ _ l1 false _ ?side1 ?side2 ?side3 ?side4 A8.out).mono ?_); (case side1 => repeat (first | exact (Kd.C_below HR0.out HB.out) | (with_reducible refine Kd.C_alloc ?_ _) | (with_reducible refine Kd.C_drewN ?_ _) | (with_reducible refine Kd.C_drew ?_))); (case side2 => exact HC0.out); (case side3 => repeat (first | exact (Kd.C_below HR1.out HB.out) | (with_reducible refine Kd.C_alloc ?_ _) | (with_reducible refine Kd.C_drewN ?_ _) | (with_reducible refine Kd.C_drew ?_))); (case side4 => exact HC1.out); rintro e w' ⟨rfl, ⟨nd, rfl⟩⟩; (try first | exact ⟨rfl, _, World.drewN_drewN _ _ _⟩ | exact ⟨rfl, _, Eq.trans (World.drewN_drewN _ _ _) (congrArg (World.drewN _) (Nat.add_assoc _ _ _))⟩)) | go_values | go_skip | go_guarded | go_step | go_upon | go_back | (simp only [Int.not_lt, Int.not_le] at *; go_simp) | (go_values <;> (try go_simp)) | (go_ite <;> go_prune <;> (try go_simp)) | (split <;> (first | (rename_i hx; exact (hx _ rfl).elim) | go_prune)) | go_quiet (fail))
   go_meet
   case rel => exact ⟨_, (true), (by first | rfl | (simp; done) | (simp [*]; done)), H', ⟨by first | omega | exact Nat.le_refl _⟩, ⟨by repeat (first | (with_reducible first | exact HB.out | apply below_alloc | apply pw_below_drewN | apply below_drew1) | exact HB.out)⟩⟩
 case rest =>
  as_aux_lemma =>
  clear HC6
  try clear c1
  try clear c2
  try clear p2
  try clear c5
  try clear p6
  try clear c9
  try clear c11
  try clear c12
  try clear c12b0
  try clear c13
  try clear c13b0
  try clear c14
  try clear c14b0
  obtain ⟨kq, x51_5, rfl, HA, HJ5, HB⟩ := hcut
  cases kq with
  | zero => exact absurd HA.out (by simp [fringelaw41_SkyDirty.j0])
  | succ kj5 =>
   have H := HA.out
   clear HA
   simp only [fringelaw41_SkyDirty.j0] at H
   by_cases c15 : x51_5 = true
   ·as_aux_lemma =>
    subst c15
    have H1 : (some t339) = some true := by first | (with_reducible rfl) | (rw [if_pos rfl] at H; exact H)
    clear H
    have H := H1
    clear H1
    have hend := Aside0.mk (Option.some.inj H)
    clear H
    go_wp2
    repeat (go_quiet (fail); try go_wp2)
    go_ret
    exact ⟨by first | rfl | (rw [hend.out]; done) | (simp only [hend.out]; done) | (simp [*]; first | exact hend.out | exact eq_of_beq hend.out | exact of_decide_eq_true hend.out) | (have h_ := hend.out; simp_all; done) | (simp [*, errW_none, errW_some] <;> rfl), by repeat (first | (with_reducible first | exact HB.out | apply below_alloc | apply pw_below_drewN | apply below_drew1) | exact HB.out)⟩
   ·as_aux_lemma =>
    replace c15 := Bool.eq_false_iff.mpr c15
    subst c15
    have H1 : ((sky_Dirty.f kj5 l0 l1 a3).bind fun bt342 => ((sky_Dirty.f kj5 l0 l2 a3).bind fun bt346 => ((some (([] : List (S33)) : List (S33))).bind fun y350 => (if y350.length + l1.length < 5864062014805 then ((some (y350 ++ l1 : List (S33))).bind fun y353 => (if y353.length + l2.length < 5864062014805 then ((sky_Dirty.f kj5 l0 (y353 ++ l2) a3).bind fun bt359 => (if bt342.2 = 0 then (if bt346.2 = 0 then (if bt359.2 = 0 then ((fringelaw41_square.f kj5 bt342.1 a3).bind fun t363 => (if t363 = true then ((fringelaw41_square.f kj5 bt346.1 a3).bind fun t364 => (if t364 = true then ((fringelaw41_square.f kj5 bt359.1 a3).bind fun t365 => (fringelaw41_SkyDirty.j1 kj5 l0 l1 a3 t339 bt342.1 bt346.1 bt359.1 (!t365))) else (fringelaw41_SkyDirty.j1 kj5 l0 l1 a3 t339 bt342.1 bt346.1 bt359.1 true))) else (fringelaw41_SkyDirty.j1 kj5 l0 l1 a3 t339 bt342.1 bt346.1 bt359.1 true))) else (fringelaw41_SkyDirty.j1 kj5 l0 l1 a3 t339 bt342.1 bt346.1 bt359.1 true)) else (fringelaw41_SkyDirty.j1 kj5 l0 l1 a3 t339 bt342.1 bt346.1 bt359.1 true)) else (fringelaw41_SkyDirty.j1 kj5 l0 l1 a3 t339 bt342.1 bt346.1 bt359.1 true))) else (none))) else (none))))) = some true := by first | (with_reducible rfl) | (rw [if_neg (show ¬ (false = true) by decide)] at H; exact H)
    clear H
    have H := H1
    clear H1
    replace H := Option.bind_eq_some_iff.mp H
    obtain ⟨⟨t342, t343⟩, A160, H⟩ := H
    replace H : ((sky_Dirty.f kj5 l0 l2 a3).bind fun bt346 => ((some (([] : List (S33)) : List (S33))).bind fun y350 => (if y350.length + l1.length < 5864062014805 then ((some (y350 ++ l1 : List (S33))).bind fun y353 => (if y353.length + l2.length < 5864062014805 then ((sky_Dirty.f kj5 l0 (y353 ++ l2) a3).bind fun bt359 => (if t343 = 0 then (if bt346.2 = 0 then (if bt359.2 = 0 then ((fringelaw41_square.f kj5 t342 a3).bind fun t363 => (if t363 = true then ((fringelaw41_square.f kj5 bt346.1 a3).bind fun t364 => (if t364 = true then ((fringelaw41_square.f kj5 bt359.1 a3).bind fun t365 => (fringelaw41_SkyDirty.j1 kj5 l0 l1 a3 t339 t342 bt346.1 bt359.1 (!t365))) else (fringelaw41_SkyDirty.j1 kj5 l0 l1 a3 t339 t342 bt346.1 bt359.1 true))) else (fringelaw41_SkyDirty.j1 kj5 l0 l1 a3 t339 t342 bt346.1 bt359.1 true))) else (fringelaw41_SkyDirty.j1 kj5 l0 l1 a3 t339 t342 bt346.1 bt359.1 true)) else (fringelaw41_SkyDirty.j1 kj5 l0 l1 a3 t339 t342 bt346.1 bt359.1 true)) else (fringelaw41_SkyDirty.j1 kj5 l0 l1 a3 t339 t342 bt346.1 bt359.1 true))) else (none))) else (none)))) = some true := H
    have A16 := Aside0.mk A160
    clear A160
    replace H := Option.bind_eq_some_iff.mp H
    obtain ⟨⟨t346, t347⟩, A170, H⟩ := H
    replace H : ((some (([] : List (S33)) : List (S33))).bind fun y350 => (if y350.length + l1.length < 5864062014805 then ((some (y350 ++ l1 : List (S33))).bind fun y353 => (if y353.length + l2.length < 5864062014805 then ((sky_Dirty.f kj5 l0 (y353 ++ l2) a3).bind fun bt359 => (if t343 = 0 then (if t347 = 0 then (if bt359.2 = 0 then ((fringelaw41_square.f kj5 t342 a3).bind fun t363 => (if t363 = true then ((fringelaw41_square.f kj5 t346 a3).bind fun t364 => (if t364 = true then ((fringelaw41_square.f kj5 bt359.1 a3).bind fun t365 => (fringelaw41_SkyDirty.j1 kj5 l0 l1 a3 t339 t342 t346 bt359.1 (!t365))) else (fringelaw41_SkyDirty.j1 kj5 l0 l1 a3 t339 t342 t346 bt359.1 true))) else (fringelaw41_SkyDirty.j1 kj5 l0 l1 a3 t339 t342 t346 bt359.1 true))) else (fringelaw41_SkyDirty.j1 kj5 l0 l1 a3 t339 t342 t346 bt359.1 true)) else (fringelaw41_SkyDirty.j1 kj5 l0 l1 a3 t339 t342 t346 bt359.1 true)) else (fringelaw41_SkyDirty.j1 kj5 l0 l1 a3 t339 t342 t346 bt359.1 true))) else (none))) else (none))) = some true := H
    have A17 := Aside0.mk A170
    clear A170
    obtain ⟨y350, hy350⟩ : ∃ y_ : List (S33), y_ = (([] : List (S33))) := ⟨_, rfl⟩
    replace H : (if y350.length + l1.length < 5864062014805 then ((some (y350 ++ l1 : List (S33))).bind fun y353 => (if y353.length + l2.length < 5864062014805 then ((sky_Dirty.f kj5 l0 (y353 ++ l2) a3).bind fun bt359 => (if t343 = 0 then (if t347 = 0 then (if bt359.2 = 0 then ((fringelaw41_square.f kj5 t342 a3).bind fun t363 => (if t363 = true then ((fringelaw41_square.f kj5 t346 a3).bind fun t364 => (if t364 = true then ((fringelaw41_square.f kj5 bt359.1 a3).bind fun t365 => (fringelaw41_SkyDirty.j1 kj5 l0 l1 a3 t339 t342 t346 bt359.1 (!t365))) else (fringelaw41_SkyDirty.j1 kj5 l0 l1 a3 t339 t342 t346 bt359.1 true))) else (fringelaw41_SkyDirty.j1 kj5 l0 l1 a3 t339 t342 t346 bt359.1 true))) else (fringelaw41_SkyDirty.j1 kj5 l0 l1 a3 t339 t342 t346 bt359.1 true)) else (fringelaw41_SkyDirty.j1 kj5 l0 l1 a3 t339 t342 t346 bt359.1 true)) else (fringelaw41_SkyDirty.j1 kj5 l0 l1 a3 t339 t342 t346 bt359.1 true))) else (none))) else (none)) = some true := by first | (rw [hy350]; with_reducible exact H) | (have H2_ := (Option.bind_some _ _).symm.trans H; rw [hy350]; with_reducible exact H2_) | (have H2_ := (Option.bind_some _ _).symm.trans H; with_reducible exact H2_) | with_reducible exact H | (rw [hy350]; exact H) | exact H
    have Ny350 := Aside0.mk hy350
    clear hy350
    by_cases c18 : y350.length + l1.length < 5864062014805
    ·as_aux_lemma =>
     rw [if_pos c18] at H
     have LMc18 := Aside0.mk c18
     clear c18
     obtain ⟨y353, hy353⟩ : ∃ y_ : List (S33), y_ = (y350 ++ l1) := ⟨_, rfl⟩
     replace H : (if y353.length + l2.length < 5864062014805 then ((sky_Dirty.f kj5 l0 (y353 ++ l2) a3).bind fun bt359 => (if t343 = 0 then (if t347 = 0 then (if bt359.2 = 0 then ((fringelaw41_square.f kj5 t342 a3).bind fun t363 => (if t363 = true then ((fringelaw41_square.f kj5 t346 a3).bind fun t364 => (if t364 = true then ((fringelaw41_square.f kj5 bt359.1 a3).bind fun t365 => (fringelaw41_SkyDirty.j1 kj5 l0 l1 a3 t339 t342 t346 bt359.1 (!t365))) else (fringelaw41_SkyDirty.j1 kj5 l0 l1 a3 t339 t342 t346 bt359.1 true))) else (fringelaw41_SkyDirty.j1 kj5 l0 l1 a3 t339 t342 t346 bt359.1 true))) else (fringelaw41_SkyDirty.j1 kj5 l0 l1 a3 t339 t342 t346 bt359.1 true)) else (fringelaw41_SkyDirty.j1 kj5 l0 l1 a3 t339 t342 t346 bt359.1 true)) else (fringelaw41_SkyDirty.j1 kj5 l0 l1 a3 t339 t342 t346 bt359.1 true))) else (none)) = some true := by first | (rw [hy353]; with_reducible exact H) | (have H2_ := (Option.bind_some _ _).symm.trans H; rw [hy353]; with_reducible exact H2_) | (have H2_ := (Option.bind_some _ _).symm.trans H; with_reducible exact H2_) | with_reducible exact H | (rw [hy353]; exact H) | exact H
     have Ny353 := Aside0.mk hy353
     clear hy353
     by_cases c19 : y353.length + l2.length < 5864062014805
     ·as_aux_lemma =>
      rw [if_pos c19] at H
      have LMc19 := Aside0.mk c19
      clear c19
      obtain ⟨y356, hy356⟩ : ∃ y_ : List (S33), y_ = (y353 ++ l2) := ⟨_, rfl⟩
      replace H : ((sky_Dirty.f kj5 l0 y356 a3).bind fun bt359 => (if t343 = 0 then (if t347 = 0 then (if bt359.2 = 0 then ((fringelaw41_square.f kj5 t342 a3).bind fun t363 => (if t363 = true then ((fringelaw41_square.f kj5 t346 a3).bind fun t364 => (if t364 = true then ((fringelaw41_square.f kj5 bt359.1 a3).bind fun t365 => (fringelaw41_SkyDirty.j1 kj5 l0 l1 a3 t339 t342 t346 bt359.1 (!t365))) else (fringelaw41_SkyDirty.j1 kj5 l0 l1 a3 t339 t342 t346 bt359.1 true))) else (fringelaw41_SkyDirty.j1 kj5 l0 l1 a3 t339 t342 t346 bt359.1 true))) else (fringelaw41_SkyDirty.j1 kj5 l0 l1 a3 t339 t342 t346 bt359.1 true)) else (fringelaw41_SkyDirty.j1 kj5 l0 l1 a3 t339 t342 t346 bt359.1 true)) else (fringelaw41_SkyDirty.j1 kj5 l0 l1 a3 t339 t342 t346 bt359.1 true))) = some true := by first | (rw [hy356]; with_reducible exact H) | (have H2_ := (Option.bind_some _ _).symm.trans H; rw [hy356]; with_reducible exact H2_) | (have H2_ := (Option.bind_some _ _).symm.trans H; with_reducible exact H2_) | with_reducible exact H | (rw [hy356]; exact H) | exact H
      have Ny356 := Aside0.mk hy356
      clear hy356
      replace H := Option.bind_eq_some_iff.mp H
      obtain ⟨⟨t359, t360⟩, A200, H⟩ := H
      replace H : (if t343 = 0 then (if t347 = 0 then (if t360 = 0 then ((fringelaw41_square.f kj5 t342 a3).bind fun t363 => (if t363 = true then ((fringelaw41_square.f kj5 t346 a3).bind fun t364 => (if t364 = true then ((fringelaw41_square.f kj5 t359 a3).bind fun t365 => (fringelaw41_SkyDirty.j1 kj5 l0 l1 a3 t339 t342 t346 t359 (!t365))) else (fringelaw41_SkyDirty.j1 kj5 l0 l1 a3 t339 t342 t346 t359 true))) else (fringelaw41_SkyDirty.j1 kj5 l0 l1 a3 t339 t342 t346 t359 true))) else (fringelaw41_SkyDirty.j1 kj5 l0 l1 a3 t339 t342 t346 t359 true)) else (fringelaw41_SkyDirty.j1 kj5 l0 l1 a3 t339 t342 t346 t359 true)) else (fringelaw41_SkyDirty.j1 kj5 l0 l1 a3 t339 t342 t346 t359 true)) = some true := H
      have A20 := Aside0.mk A200
      clear A200
      have HC21 := Aside0.mk H
      clear H
      go_upto_region 7 with (first | (go_at_call 21; (with_reducible refine (sky_Dirty.calls kj5 _ _ l0 _ _ l1 a3 t342 t343 _ ?side1 ?side2 ?side3 ?side4 A16.out).mono ?_); (case side1 => repeat (first | exact (Kd.C_below HR0.out HB.out) | (with_reducible refine Kd.C_alloc ?_ _) | (with_reducible refine Kd.C_drewN ?_ _) | (with_reducible refine Kd.C_drew ?_))); (case side2 => exact HC0.out); (case side3 => repeat (first | exact (Kd.C_below HR1.out HB.out) | (with_reducible refine Kd.C_alloc ?_ _) | (with_reducible refine Kd.C_drewN ?_ _) | (with_reducible refine Kd.C_drew ?_))); (case side4 => exact HC1.out); rintro e w22 ⟨v344, rfl, ho0, hb⟩; have n0_ := Aside0.mk (Kd.S_lower ho0 (below_size (by repeat (first | (with_reducible first | exact HB.out | apply below_alloc | apply pw_below_drewN | apply below_drew1) | exact HB.out)))); have n1_ := Aside0.mk (below_step (by repeat (first | (with_reducible first | exact HB.out | apply below_alloc | apply pw_below_drewN | apply below_drew1) | exact HB.out)) hb); clear HB; have HO345 := n0_; have HB := n1_; clear n0_ n1_; (try clear hb); (try clear hb2); (try clear hk); (try clear hi); (try clear ho0)) | (go_at_call 21; (with_reducible refine (sky_Dirty.calls kj5 _ _ l0 _ _ l2 a3 t346 t347 _ ?side1 ?side2 ?side3 ?side4 A17.out).mono ?_); (case side1 => repeat (first | exact (Kd.C_below HR0.out HB.out) | (with_reducible refine Kd.C_alloc ?_ _) | (with_reducible refine Kd.C_drewN ?_ _) | (with_reducible refine Kd.C_drew ?_))); (case side2 => exact HC0.out); (case side3 => repeat (first | exact (Kd.C_below HR2.out HB.out) | (with_reducible refine Kd.C_alloc ?_ _) | (with_reducible refine Kd.C_drewN ?_ _) | (with_reducible refine Kd.C_drew ?_))); (case side4 => exact HC2.out); rintro e w23 ⟨v348, rfl, ho0, hb⟩; have n0_ := Aside0.mk (Kd.S_elder' (by (with_reducible repeat (first | apply Kd.S_alloc | apply Kd.S_drewN | apply Kd.S_drew)); exact HO345.out) (Kd.S_base ho0) hb); have n1_ := Aside0.mk (Kd.S_lower (Kd.S_new' ho0 (Kd.S_lt (by (with_reducible repeat (first | apply Kd.S_alloc | apply Kd.S_drewN | apply Kd.S_drew)); exact HO345.out))) (below_size (by repeat (first | (with_reducible first | exact HB.out | apply below_alloc | apply pw_below_drewN | apply below_drew1) | exact HB.out)))); have n2_ := Aside0.mk (below_step (by repeat (first | (with_reducible first | exact HB.out | apply below_alloc | apply pw_below_drewN | apply below_drew1) | exact HB.out)) hb); clear HO345; clear HB; have HO345 := n0_; have HO349 := n1_; have HB := n2_; clear n0_ n1_ n2_; (try clear hb); (try clear hb2); (try clear hk); (try clear hi); (try clear ho0)) | ((with_reducible refine gate_dst (N := 69) rfl ?_); (try (refine gate_guard (by rfl) ?_; dsimp only)); refine Kd.R_lit k33 _ 33 ?hg (N := 69) ?hd (xs := ([] : List (S33))) (inner := []) (ok := fun _ => True) (okp := fun _ => True) ?hr ?hp (fun _ hk => hk) trivial (Below.refl _ _) (Nat.le_refl _) (by simp) ?_; (case hd => rfl); (case hg => rfl); (case hr => first | (go_simp; done) | (go_simp; rfl)); (case hp => exact (Reps.none _ _)); intro v351 w24 ho25 hb hg_ hnew_; clear hg_ hnew_; (first | rw [← Ny350.out] at ho25 | (simp only [Int.reduceToNat] at ho25; rw [← Ny350.out] at ho25)); have n0_ := Aside0.mk (Kd.S_below (by (with_reducible repeat (first | apply Kd.S_alloc | apply Kd.S_drewN | apply Kd.S_drew)); exact HO345.out) hb); have n1_ := Aside0.mk (Kd.S_below (by (with_reducible repeat (first | apply Kd.S_alloc | apply Kd.S_drewN | apply Kd.S_drew)); exact HO349.out) hb); have n2_ := Aside0.mk (Kd.R_lower ho25 (below_size (by repeat (first | (with_reducible first | exact HB.out | apply below_alloc | apply pw_below_drewN | apply below_drew1) | exact HB.out)))); have n3_ := Aside0.mk (below_step (by repeat (first | (with_reducible first | exact HB.out | apply below_alloc | apply pw_below_drewN | apply below_drew1) | exact HB.out)) hb); clear HO345; clear HO349; clear HB; have HO345 := n0_; have HO349 := n1_; have HO352 := n2_; have HB := n3_; clear n0_ n1_ n2_ n3_; clear hb ho25) | ((with_reducible refine gate_builtin (b := .append) (xs := #[.tmp 69, .tmp 70]) rfl ?_); (try (refine gate_guard (by rfl) ?_; dsimp only)); at_builtin; refine Kd.R_append_rows k33 (w0 := w) w.heap.size rfl (.tmp 69) (.tmp 70) 22 33 (.agg #[(.int .i64 0), (.int .i64 0), (.int .i64 0)]) 24 rfl Try.underlying22 info33 rfl (by decide) (by omega) v351 y350 l1 _ _ _ (fun _ => True) (fun _ => False) rfl rfl ?aO ?aR (fun _ _ h => h) (fun _ h => h.elim) ?aF ?aB ?aS ?aL ?_; (case aR => repeat (first | exact (Kd.C_below HR1.out HB.out) | (with_reducible refine Kd.C_alloc ?_ _) | (with_reducible refine Kd.C_drewN ?_ _) | (with_reducible refine Kd.C_drew ?_))); (case aB => exact (by repeat (first | (with_reducible first | exact HB.out | apply below_alloc | apply pw_below_drewN | apply below_drew1) | exact HB.out))); (case aF => exact (fun _ _ => trivial)); (case aO => exact (by (with_reducible repeat (first | apply Kd.R_alloc | apply Kd.R_drewN | apply Kd.R_drew)); exact HO352.out)); (case aS => exact (below_size (by repeat (first | (with_reducible first | exact HB.out | apply below_alloc | apply pw_below_drewN | apply below_drew1) | exact HB.out)))); (case aL => have := LMc18.out; omega); intro v354 w26 ho hb hg hat; rw [← Ny353.out] at ho; have n0_ := Aside0.mk (Kd.S_over' (by (with_reducible repeat (first | apply Kd.S_alloc | apply Kd.S_drewN | apply Kd.S_drew)); exact HO345.out) (Kd.R_typed (by (with_reducible repeat (first | apply Kd.R_alloc | apply Kd.R_drewN | apply Kd.R_drew)); exact HO352.out)) (by decide) hg); have n1_ := Aside0.mk (Kd.S_over' (by (with_reducible repeat (first | apply Kd.S_alloc | apply Kd.S_drewN | apply Kd.S_drew)); exact HO349.out) (Kd.R_typed (by (with_reducible repeat (first | apply Kd.R_alloc | apply Kd.R_drewN | apply Kd.R_drew)); exact HO352.out)) (by decide) hg); have n2_ := Aside0.mk (hb); have n3_ := Aside0.mk (ho); clear HO345; clear HO349; clear HB; clear HO352; have HO345 := n0_; have HO349 := n1_; have HB := n2_; have HO355 := n3_; clear n0_ n1_ n2_ n3_; clear ho hb hg hat) | ((with_reducible refine gate_builtin (b := .append) (xs := #[.tmp 71, .tmp 72]) rfl ?_); (try (refine gate_guard (by rfl) ?_; dsimp only)); at_builtin; refine Kd.R_append_rows k33 (w0 := w) w.heap.size rfl (.tmp 71) (.tmp 72) 22 33 (.agg #[(.int .i64 0), (.int .i64 0), (.int .i64 0)]) 24 rfl Try.underlying22 info33 rfl (by decide) (by omega) v354 y353 l2 _ _ _ (fun _ => True) (fun _ => False) rfl rfl ?aO ?aR (fun _ _ h => h) (fun _ h => h.elim) ?aF ?aB ?aS ?aL ?_; (case aR => repeat (first | exact (Kd.C_below HR2.out HB.out) | (with_reducible refine Kd.C_alloc ?_ _) | (with_reducible refine Kd.C_drewN ?_ _) | (with_reducible refine Kd.C_drew ?_))); (case aB => exact (by repeat (first | (with_reducible first | exact HB.out | apply below_alloc | apply pw_below_drewN | apply below_drew1) | exact HB.out))); (case aF => exact (fun _ _ => trivial)); (case aO => exact (by (with_reducible repeat (first | apply Kd.R_alloc | apply Kd.R_drewN | apply Kd.R_drew)); exact HO355.out)); (case aS => exact (below_size (by repeat (first | (with_reducible first | exact HB.out | apply below_alloc | apply pw_below_drewN | apply below_drew1) | exact HB.out)))); (case aL => have := LMc19.out; omega); intro v357 w27 ho hb hg hat; rw [← Ny356.out] at ho; have n0_ := Aside0.mk (Kd.S_over' (by (with_reducible repeat (first | apply Kd.S_alloc | apply Kd.S_drewN | apply Kd.S_drew)); exact HO345.out) (Kd.R_typed (by (with_reducible repeat (first | apply Kd.R_alloc | apply Kd.R_drewN | apply Kd.R_drew)); exact HO355.out)) (by decide) hg); have n1_ := Aside0.mk (Kd.S_over' (by (with_reducible repeat (first | apply Kd.S_alloc | apply Kd.S_drewN | apply Kd.S_drew)); exact HO349.out) (Kd.R_typed (by (with_reducible repeat (first | apply Kd.R_alloc | apply Kd.R_drewN | apply Kd.R_drew)); exact HO355.out)) (by decide) hg); have n2_ := Aside0.mk (hb); have n3_ := Aside0.mk (ho); clear HO345; clear HO349; clear HB; clear HO355; have HO345 := n0_; have HO349 := n1_; have HB := n2_; have HO358 := n3_; clear n0_ n1_ n2_ n3_; clear ho hb hg hat; obtain ⟨Ao28, co28, eo28⟩ := Kd.R_slice HO358.out; subst eo28) | (go_at_call 21; (with_reducible refine (sky_Dirty.calls kj5 _ _ l0 _ _ y356 a3 t359 t360 _ ?side1 ?side2 ?side3 ?side4 A20.out).mono ?_); (case side1 => repeat (first | exact (Kd.C_below HR0.out HB.out) | (with_reducible refine Kd.C_alloc ?_ _) | (with_reducible refine Kd.C_drewN ?_ _) | (with_reducible refine Kd.C_drew ?_))); (case side2 => exact HC0.out); (case side3 => repeat (first | exact (Kd.R_reads' HO358.out).2.2 | (with_reducible refine Kd.C_alloc ?_ _) | (with_reducible refine Kd.C_drewN ?_ _) | (with_reducible refine Kd.C_drew ?_))); (case side4 => exact (Kd.R_reads' HO358.out).2.1); rintro e w29 ⟨v361, rfl, ho0, hb⟩; have n0_ := Aside0.mk (Kd.S_elder' (by (with_reducible repeat (first | apply Kd.S_alloc | apply Kd.S_drewN | apply Kd.S_drew)); exact HO345.out) (Kd.S_base ho0) hb); have n1_ := Aside0.mk (Kd.S_elder' (by (with_reducible repeat (first | apply Kd.S_alloc | apply Kd.S_drewN | apply Kd.S_drew)); exact HO349.out) (Kd.S_base ho0) hb); have n2_ := Aside0.mk (Kd.R_below (by (with_reducible repeat (first | apply Kd.R_alloc | apply Kd.R_drewN | apply Kd.R_drew)); exact HO358.out) hb); have n3_ := Aside0.mk (Kd.S_lower (Kd.S_new' (Kd.S_new' ho0 (Kd.S_lt (by (with_reducible repeat (first | apply Kd.S_alloc | apply Kd.S_drewN | apply Kd.S_drew)); exact HO345.out))) (Kd.S_lt (by (with_reducible repeat (first | apply Kd.S_alloc | apply Kd.S_drewN | apply Kd.S_drew)); exact HO349.out))) (below_size (by repeat (first | (with_reducible first | exact HB.out | apply below_alloc | apply pw_below_drewN | apply below_drew1) | exact HB.out)))); have n4_ := Aside0.mk (below_step (by repeat (first | (with_reducible first | exact HB.out | apply below_alloc | apply pw_below_drewN | apply below_drew1) | exact HB.out)) hb); clear HO345; clear HO349; clear HO358; clear HB; have HO345 := n0_; have HO349 := n1_; have HO358 := n2_; have HO362 := n3_; have HB := n4_; clear n0_ n1_ n2_ n3_ n4_; (try clear hb); (try clear hb2); (try clear hk); (try clear hi); (try clear ho0)))
      repeat (go_quiet (fail); go_upto_region 7 with (first | (go_at_call 21; (with_reducible refine (sky_Dirty.calls kj5 _ _ l0 _ _ l1 a3 t342 t343 _ ?side1 ?side2 ?side3 ?side4 A16.out).mono ?_); (case side1 => repeat (first | exact (Kd.C_below HR0.out HB.out) | (with_reducible refine Kd.C_alloc ?_ _) | (with_reducible refine Kd.C_drewN ?_ _) | (with_reducible refine Kd.C_drew ?_))); (case side2 => exact HC0.out); (case side3 => repeat (first | exact (Kd.C_below HR1.out HB.out) | (with_reducible refine Kd.C_alloc ?_ _) | (with_reducible refine Kd.C_drewN ?_ _) | (with_reducible refine Kd.C_drew ?_))); (case side4 => exact HC1.out); rintro e w22 ⟨v344, rfl, ho0, hb⟩; have n0_ := Aside0.mk (Kd.S_lower ho0 (below_size (by repeat (first | (with_reducible first | exact HB.out | apply below_alloc | apply pw_below_drewN | apply below_drew1) | exact HB.out)))); have n1_ := Aside0.mk (below_step (by repeat (first | (with_reducible first | exact HB.out | apply below_alloc | apply pw_below_drewN | apply below_drew1) | exact HB.out)) hb); clear HB; have HO345 := n0_; have HB := n1_; clear n0_ n1_; (try clear hb); (try clear hb2); (try clear hk); (try clear hi); (try clear ho0)) | (go_at_call 21; (with_reducible refine (sky_Dirty.calls kj5 _ _ l0 _ _ l2 a3 t346 t347 _ ?side1 ?side2 ?side3 ?side4 A17.out).mono ?_); (case side1 => repeat (first | exact (Kd.C_below HR0.out HB.out) | (with_reducible refine Kd.C_alloc ?_ _) | (with_reducible refine Kd.C_drewN ?_ _) | (with_reducible refine Kd.C_drew ?_))); (case side2 => exact HC0.out); (case side3 => repeat (first | exact (Kd.C_below HR2.out HB.out) | (with_reducible refine Kd.C_alloc ?_ _) | (with_reducible refine Kd.C_drewN ?_ _) | (with_reducible refine Kd.C_drew ?_))); (case side4 => exact HC2.out); rintro e w23 ⟨v348, rfl, ho0, hb⟩; have n0_ := Aside0.mk (Kd.S_elder' (by (with_reducible repeat (first | apply Kd.S_alloc | apply Kd.S_drewN | apply Kd.S_drew)); exact HO345.out) (Kd.S_base ho0) hb); have n1_ := Aside0.mk (Kd.S_lower (Kd.S_new' ho0 (Kd.S_lt (by (with_reducible repeat (first | apply Kd.S_alloc | apply Kd.S_drewN | apply Kd.S_drew)); exact HO345.out))) (below_size (by repeat (first | (with_reducible first | exact HB.out | apply below_alloc | apply pw_below_drewN | apply below_drew1) | exact HB.out)))); have n2_ := Aside0.mk (below_step (by repeat (first | (with_reducible first | exact HB.out | apply below_alloc | apply pw_below_drewN | apply below_drew1) | exact HB.out)) hb); clear HO345; clear HB; have HO345 := n0_; have HO349 := n1_; have HB := n2_; clear n0_ n1_ n2_; (try clear hb); (try clear hb2); (try clear hk); (try clear hi); (try clear ho0)) | ((with_reducible refine gate_dst (N := 69) rfl ?_); (try (refine gate_guard (by rfl) ?_; dsimp only)); refine Kd.R_lit k33 _ 33 ?hg (N := 69) ?hd (xs := ([] : List (S33))) (inner := []) (ok := fun _ => True) (okp := fun _ => True) ?hr ?hp (fun _ hk => hk) trivial (Below.refl _ _) (Nat.le_refl _) (by simp) ?_; (case hd => rfl); (case hg => rfl); (case hr => first | (go_simp; done) | (go_simp; rfl)); (case hp => exact (Reps.none _ _)); intro v351 w24 ho25 hb hg_ hnew_; clear hg_ hnew_; (first | rw [← Ny350.out] at ho25 | (simp only [Int.reduceToNat] at ho25; rw [← Ny350.out] at ho25)); have n0_ := Aside0.mk (Kd.S_below (by (with_reducible repeat (first | apply Kd.S_alloc | apply Kd.S_drewN | apply Kd.S_drew)); exact HO345.out) hb); have n1_ := Aside0.mk (Kd.S_below (by (with_reducible repeat (first | apply Kd.S_alloc | apply Kd.S_drewN | apply Kd.S_drew)); exact HO349.out) hb); have n2_ := Aside0.mk (Kd.R_lower ho25 (below_size (by repeat (first | (with_reducible first | exact HB.out | apply below_alloc | apply pw_below_drewN | apply below_drew1) | exact HB.out)))); have n3_ := Aside0.mk (below_step (by repeat (first | (with_reducible first | exact HB.out | apply below_alloc | apply pw_below_drewN | apply below_drew1) | exact HB.out)) hb); clear HO345; clear HO349; clear HB; have HO345 := n0_; have HO349 := n1_; have HO352 := n2_; have HB := n3_; clear n0_ n1_ n2_ n3_; clear hb ho25) | ((with_reducible refine gate_builtin (b := .append) (xs := #[.tmp 69, .tmp 70]) rfl ?_); (try (refine gate_guard (by rfl) ?_; dsimp only)); at_builtin; refine Kd.R_append_rows k33 (w0 := w) w.heap.size rfl (.tmp 69) (.tmp 70) 22 33 (.agg #[(.int .i64 0), (.int .i64 0), (.int .i64 0)]) 24 rfl Try.underlying22 info33 rfl (by decide) (by omega) v351 y350 l1 _ _ _ (fun _ => True) (fun _ => False) rfl rfl ?aO ?aR (fun _ _ h => h) (fun _ h => h.elim) ?aF ?aB ?aS ?aL ?_; (case aR => repeat (first | exact (Kd.C_below HR1.out HB.out) | (with_reducible refine Kd.C_alloc ?_ _) | (with_reducible refine Kd.C_drewN ?_ _) | (with_reducible refine Kd.C_drew ?_))); (case aB => exact (by repeat (first | (with_reducible first | exact HB.out | apply below_alloc | apply pw_below_drewN | apply below_drew1) | exact HB.out))); (case aF => exact (fun _ _ => trivial)); (case aO => exact (by (with_reducible repeat (first | apply Kd.R_alloc | apply Kd.R_drewN | apply Kd.R_drew)); exact HO352.out)); (case aS => exact (below_size (by repeat (first | (with_reducible first | exact HB.out | apply below_alloc | apply pw_below_drewN | apply below_drew1) | exact HB.out)))); (case aL => have := LMc18.out; omega); intro v354 w26 ho hb hg hat; rw [← Ny353.out] at ho; have n0_ := Aside0.mk (Kd.S_over' (by (with_reducible repeat (first | apply Kd.S_alloc | apply Kd.S_drewN | apply Kd.S_drew)); exact HO345.out) (Kd.R_typed (by (with_reducible repeat (first | apply Kd.R_alloc | apply Kd.R_drewN | apply Kd.R_drew)); exact HO352.out)) (by decide) hg); have n1_ := Aside0.mk (Kd.S_over' (by (with_reducible repeat (first | apply Kd.S_alloc | apply Kd.S_drewN | apply Kd.S_drew)); exact HO349.out) (Kd.R_typed (by (with_reducible repeat (first | apply Kd.R_alloc | apply Kd.R_drewN | apply Kd.R_drew)); exact HO352.out)) (by decide) hg); have n2_ := Aside0.mk (hb); have n3_ := Aside0.mk (ho); clear HO345; clear HO349; clear HB; clear HO352; have HO345 := n0_; have HO349 := n1_; have HB := n2_; have HO355 := n3_; clear n0_ n1_ n2_ n3_; clear ho hb hg hat) | ((with_reducible refine gate_builtin (b := .append) (xs := #[.tmp 71, .tmp 72]) rfl ?_); (try (refine gate_guard (by rfl) ?_; dsimp only)); at_builtin; refine Kd.R_append_rows k33 (w0 := w) w.heap.size rfl (.tmp 71) (.tmp 72) 22 33 (.agg #[(.int .i64 0), (.int .i64 0), (.int .i64 0)]) 24 rfl Try.underlying22 info33 rfl (by decide) (by omega) v354 y353 l2 _ _ _ (fun _ => True) (fun _ => False) rfl rfl ?aO ?aR (fun _ _ h => h) (fun _ h => h.elim) ?aF ?aB ?aS ?aL ?_; (case aR => repeat (first | exact (Kd.C_below HR2.out HB.out) | (with_reducible refine Kd.C_alloc ?_ _) | (with_reducible refine Kd.C_drewN ?_ _) | (with_reducible refine Kd.C_drew ?_))); (case aB => exact (by repeat (first | (with_reducible first | exact HB.out | apply below_alloc | apply pw_below_drewN | apply below_drew1) | exact HB.out))); (case aF => exact (fun _ _ => trivial)); (case aO => exact (by (with_reducible repeat (first | apply Kd.R_alloc | apply Kd.R_drewN | apply Kd.R_drew)); exact HO355.out)); (case aS => exact (below_size (by repeat (first | (with_reducible first | exact HB.out | apply below_alloc | apply pw_below_drewN | apply below_drew1) | exact HB.out)))); (case aL => have := LMc19.out; omega); intro v357 w27 ho hb hg hat; rw [← Ny356.out] at ho; have n0_ := Aside0.mk (Kd.S_over' (by (with_reducible repeat (first | apply Kd.S_alloc | apply Kd.S_drewN | apply Kd.S_drew)); exact HO345.out) (Kd.R_typed (by (with_reducible repeat (first | apply Kd.R_alloc | apply Kd.R_drewN | apply Kd.R_drew)); exact HO355.out)) (by decide) hg); have n1_ := Aside0.mk (Kd.S_over' (by (with_reducible repeat (first | apply Kd.S_alloc | apply Kd.S_drewN | apply Kd.S_drew)); exact HO349.out) (Kd.R_typed (by (with_reducible repeat (first | apply Kd.R_alloc | apply Kd.R_drewN | apply Kd.R_drew)); exact HO355.out)) (by decide) hg); have n2_ := Aside0.mk (hb); have n3_ := Aside0.mk (ho); clear HO345; clear HO349; clear HB; clear HO355; have HO345 := n0_; have HO349 := n1_; have HB := n2_; have HO358 := n3_; clear n0_ n1_ n2_ n3_; clear ho hb hg hat; obtain ⟨Ao28, co28, eo28⟩ := Kd.R_slice HO358.out; subst eo28) | (go_at_call 21; (with_reducible refine (sky_Dirty.calls kj5 _ _ l0 _ _ y356 a3 t359 t360 _ ?side1 ?side2 ?side3 ?side4 A20.out).mono ?_); (case side1 => repeat (first | exact (Kd.C_below HR0.out HB.out) | (with_reducible refine Kd.C_alloc ?_ _) | (with_reducible refine Kd.C_drewN ?_ _) | (with_reducible refine Kd.C_drew ?_))); (case side2 => exact HC0.out); (case side3 => repeat (first | exact (Kd.R_reads' HO358.out).2.2 | (with_reducible refine Kd.C_alloc ?_ _) | (with_reducible refine Kd.C_drewN ?_ _) | (with_reducible refine Kd.C_drew ?_))); (case side4 => exact (Kd.R_reads' HO358.out).2.1); rintro e w29 ⟨v361, rfl, ho0, hb⟩; have n0_ := Aside0.mk (Kd.S_elder' (by (with_reducible repeat (first | apply Kd.S_alloc | apply Kd.S_drewN | apply Kd.S_drew)); exact HO345.out) (Kd.S_base ho0) hb); have n1_ := Aside0.mk (Kd.S_elder' (by (with_reducible repeat (first | apply Kd.S_alloc | apply Kd.S_drewN | apply Kd.S_drew)); exact HO349.out) (Kd.S_base ho0) hb); have n2_ := Aside0.mk (Kd.R_below (by (with_reducible repeat (first | apply Kd.R_alloc | apply Kd.R_drewN | apply Kd.R_drew)); exact HO358.out) hb); have n3_ := Aside0.mk (Kd.S_lower (Kd.S_new' (Kd.S_new' ho0 (Kd.S_lt (by (with_reducible repeat (first | apply Kd.S_alloc | apply Kd.S_drewN | apply Kd.S_drew)); exact HO345.out))) (Kd.S_lt (by (with_reducible repeat (first | apply Kd.S_alloc | apply Kd.S_drewN | apply Kd.S_drew)); exact HO349.out))) (below_size (by repeat (first | (with_reducible first | exact HB.out | apply below_alloc | apply pw_below_drewN | apply below_drew1) | exact HB.out)))); have n4_ := Aside0.mk (below_step (by repeat (first | (with_reducible first | exact HB.out | apply below_alloc | apply pw_below_drewN | apply below_drew1) | exact HB.out)) hb); clear HO345; clear HO349; clear HO358; clear HB; have HO345 := n0_; have HO349 := n1_; have HO358 := n2_; have HO362 := n3_; have HB := n4_; clear n0_ n1_ n2_ n3_ n4_; (try clear hb); (try clear hb2); (try clear hk); (try clear hi); (try clear ho0))))
      (try simp only [Act.put, List.setIfInBounds_toArray, List.set_cons_zero, List.set_cons_succ])
      go_cut [105] (fun v105 wc => ∃ (kq : Nat) (x105_20 : Bool), v105 = .bool x105_20 ∧ Aside0 (fringelaw41_SkyDirty.j1 kq l0 l1 a3 t339 t342 t346 t359 x105_20 = some true) ∧ Aside0 (kq ≤ kj5) ∧ Aside0 (Kd.S (Kd.slice 3 (Kd.int .i64)) 53 wc w.heap.size (fun k_ => some k_ ≠ (v348 : Value).ownBlock ∧ some k_ ≠ (v361 : Value).ownBlock) v344 t342) ∧ Aside0 (Kd.S (Kd.slice 3 (Kd.int .i64)) 53 wc w.heap.size (fun k_ => some k_ ≠ (v344 : Value).ownBlock ∧ some k_ ≠ (v361 : Value).ownBlock) v348 t346) ∧ Aside0 (Kd.S (Kd.slice 3 (Kd.int .i64)) 53 wc w.heap.size (fun k_ => some k_ ≠ (v344 : Value).ownBlock ∧ some k_ ≠ (v348 : Value).ownBlock) v361 t359) ∧ Aside0 (Below w.heap.size w wc))
      case first =>
       as_aux_lemma =>
       have H := HC21.out
       clear HC21
       by_cases c30 : t343 = 0
       ·as_aux_lemma =>
        rw [if_pos c30] at H
        have c30b0 : (t343 == 0) = true := beq_iff_eq.mpr c30
        have c30b1 : (t343 != 0) = false := bne_eq_false_iff_eq.mpr c30
        clear c30
        (first | rw [c30b0] | (simp only [i64_w, i32_w]; rw [c30b0]) | skip)
        by_cases c31 : t347 = 0
        ·as_aux_lemma =>
         rw [if_pos c31] at H
         have c31b0 : (t347 == 0) = true := beq_iff_eq.mpr c31
         have c31b1 : (t347 != 0) = false := bne_eq_false_iff_eq.mpr c31
         clear c31
         by_cases c32 : t360 = 0
         ·as_aux_lemma =>
          rw [if_pos c32] at H
          have c32b0 : (t360 == 0) = true := beq_iff_eq.mpr c32
          have c32b1 : (t360 != 0) = false := bne_eq_false_iff_eq.mpr c32
          clear c32
          replace H := Option.bind_eq_some_iff.mp H
          obtain ⟨t363, A330, H⟩ := H
          replace H : (if t363 = true then ((fringelaw41_square.f kj5 t346 a3).bind fun t364 => (if t364 = true then ((fringelaw41_square.f kj5 t359 a3).bind fun t365 => (fringelaw41_SkyDirty.j1 kj5 l0 l1 a3 t339 t342 t346 t359 (!t365))) else (fringelaw41_SkyDirty.j1 kj5 l0 l1 a3 t339 t342 t346 t359 true))) else (fringelaw41_SkyDirty.j1 kj5 l0 l1 a3 t339 t342 t346 t359 true)) = some true := H
          have A33 := Aside0.mk A330
          clear A330
          by_cases c34 : t363 = true
          ·as_aux_lemma =>
           subst c34
           have H1 : ((fringelaw41_square.f kj5 t346 a3).bind fun t364 => (if t364 = true then ((fringelaw41_square.f kj5 t359 a3).bind fun t365 => (fringelaw41_SkyDirty.j1 kj5 l0 l1 a3 t339 t342 t346 t359 (!t365))) else (fringelaw41_SkyDirty.j1 kj5 l0 l1 a3 t339 t342 t346 t359 true))) = some true := by first | (with_reducible rfl) | (rw [if_pos rfl] at H; exact H)
           clear H
           have H := H1
           clear H1
           replace H := Option.bind_eq_some_iff.mp H
           obtain ⟨t364, A350, H⟩ := H
           replace H : (if t364 = true then ((fringelaw41_square.f kj5 t359 a3).bind fun t365 => (fringelaw41_SkyDirty.j1 kj5 l0 l1 a3 t339 t342 t346 t359 (!t365))) else (fringelaw41_SkyDirty.j1 kj5 l0 l1 a3 t339 t342 t346 t359 true)) = some true := H
           have A35 := Aside0.mk A350
           clear A350
           by_cases c36 : t364 = true
           ·as_aux_lemma =>
            subst c36
            have H1 : ((fringelaw41_square.f kj5 t359 a3).bind fun t365 => (fringelaw41_SkyDirty.j1 kj5 l0 l1 a3 t339 t342 t346 t359 (!t365))) = some true := by first | (with_reducible rfl) | (rw [if_pos rfl] at H; exact H)
            clear H
            have H := H1
            clear H1
            replace H := Option.bind_eq_some_iff.mp H
            obtain ⟨t365, A370, H⟩ := H
            replace H : (fringelaw41_SkyDirty.j1 kj5 l0 l1 a3 t339 t342 t346 t359 (!t365)) = some true := H
            have A37 := Aside0.mk A370
            clear A370
            have H' := Aside0.mk H
            clear H
            obtain ⟨Ao38, co38, eo38⟩ := Kd.S_slice HO345.out
            subst eo38
            go_wp2_with (first |  (go_at_call 22; (with_reducible refine (fringelaw41_square.calls kj5 _ _ t342 a3 true _ ?side1 ?side2 A33.out).mono ?_); (case side1 => repeat (first | exact (Kd.S_reads' HO345.out).2.2 | (with_reducible refine Kd.C_alloc ?_ _) | (with_reducible refine Kd.C_drewN ?_ _) | (with_reducible refine Kd.C_drew ?_))); (case side2 => exact (Kd.S_reads' HO345.out).2.1); rintro e w' ⟨rfl, ⟨nd, rfl⟩⟩; (try first | exact ⟨rfl, _, World.drewN_drewN _ _ _⟩ | exact ⟨rfl, _, Eq.trans (World.drewN_drewN _ _ _) (congrArg (World.drewN _) (Nat.add_assoc _ _ _))⟩); obtain ⟨Ao39, co39, eo39⟩ := Kd.S_slice HO349.out; subst eo39) | (go_at_call 22; (with_reducible refine (fringelaw41_square.calls kj5 _ _ t346 a3 true _ ?side1 ?side2 A35.out).mono ?_); (case side1 => repeat (first | exact (Kd.S_reads' HO349.out).2.2 | (with_reducible refine Kd.C_alloc ?_ _) | (with_reducible refine Kd.C_drewN ?_ _) | (with_reducible refine Kd.C_drew ?_))); (case side2 => exact (Kd.S_reads' HO349.out).2.1); rintro e w' ⟨rfl, ⟨nd, rfl⟩⟩; (try first | exact ⟨rfl, _, World.drewN_drewN _ _ _⟩ | exact ⟨rfl, _, Eq.trans (World.drewN_drewN _ _ _) (congrArg (World.drewN _) (Nat.add_assoc _ _ _))⟩); obtain ⟨Ao40, co40, eo40⟩ := Kd.S_slice HO362.out; subst eo40) | (go_at_call 22; (with_reducible refine (fringelaw41_square.calls kj5 _ _ t359 a3 t365 _ ?side1 ?side2 A37.out).mono ?_); (case side1 => repeat (first | exact (Kd.S_reads' HO362.out).2.2 | (with_reducible refine Kd.C_alloc ?_ _) | (with_reducible refine Kd.C_drewN ?_ _) | (with_reducible refine Kd.C_drew ?_))); (case side2 => exact (Kd.S_reads' HO362.out).2.1); rintro e w' ⟨rfl, ⟨nd, rfl⟩⟩; (try first | exact ⟨rfl, _, World.drewN_drewN _ _ _⟩ | exact ⟨rfl, _, Eq.trans (World.drewN_drewN _ _ _) (congrArg (World.drewN _) (Nat.add_assoc _ _ _))⟩)) | go_values | go_skip | go_guarded | go_step | go_upon | go_back | (simp only [Int.not_lt, Int.not_le] at *; go_simp) | (go_values <;> (try go_simp)) | (go_ite <;> go_prune <;> (try go_simp)) | (split <;> (first | (rename_i hx; exact (hx _ rfl).elim) | go_prune)) | go_quiet (fail))
            go_meet
            case rel => exact ⟨_, (!t365), (by first | rfl | (simp; done) | (simp [*]; done)), H', ⟨by have := HJ5.out; first | omega | exact Nat.le_refl _⟩, ⟨by (with_reducible repeat (first | apply Kd.S_alloc | apply Kd.S_drewN | apply Kd.S_drew)); exact Kd.S_mono HO345.out (fun _ hk => ⟨hk.1.2, hk.2⟩)⟩, ⟨by (with_reducible repeat (first | apply Kd.S_alloc | apply Kd.S_drewN | apply Kd.S_drew)); exact Kd.S_mono HO349.out (fun _ hk => ⟨hk.1.2, hk.2⟩)⟩, ⟨by (with_reducible repeat (first | apply Kd.S_alloc | apply Kd.S_drewN | apply Kd.S_drew)); exact Kd.S_mono HO362.out (fun _ hk => ⟨hk.1.2, hk.2⟩)⟩, ⟨by repeat (first | (with_reducible first | exact HB.out | apply below_alloc | apply pw_below_drewN | apply below_drew1) | exact HB.out)⟩⟩
           ·as_aux_lemma =>
            replace c36 := Bool.eq_false_iff.mpr c36
            subst c36
            have H1 : (fringelaw41_SkyDirty.j1 kj5 l0 l1 a3 t339 t342 t346 t359 true) = some true := by first | (with_reducible rfl) | (rw [if_neg (show ¬ (false = true) by decide)] at H; exact H)
            clear H
            have H := H1
            clear H1
            have H' := Aside0.mk H
            clear H
            obtain ⟨Ao41, co41, eo41⟩ := Kd.S_slice HO345.out
            subst eo41
            go_wp2_with (first |  (go_at_call 22; (with_reducible refine (fringelaw41_square.calls kj5 _ _ t342 a3 true _ ?side1 ?side2 A33.out).mono ?_); (case side1 => repeat (first | exact (Kd.S_reads' HO345.out).2.2 | (with_reducible refine Kd.C_alloc ?_ _) | (with_reducible refine Kd.C_drewN ?_ _) | (with_reducible refine Kd.C_drew ?_))); (case side2 => exact (Kd.S_reads' HO345.out).2.1); rintro e w' ⟨rfl, ⟨nd, rfl⟩⟩; (try first | exact ⟨rfl, _, World.drewN_drewN _ _ _⟩ | exact ⟨rfl, _, Eq.trans (World.drewN_drewN _ _ _) (congrArg (World.drewN _) (Nat.add_assoc _ _ _))⟩); obtain ⟨Ao42, co42, eo42⟩ := Kd.S_slice HO349.out; subst eo42) | (go_at_call 22; (with_reducible refine (fringelaw41_square.calls kj5 _ _ t346 a3 false _ ?side1 ?side2 A35.out).mono ?_); (case side1 => repeat (first | exact (Kd.S_reads' HO349.out).2.2 | (with_reducible refine Kd.C_alloc ?_ _) | (with_reducible refine Kd.C_drewN ?_ _) | (with_reducible refine Kd.C_drew ?_))); (case side2 => exact (Kd.S_reads' HO349.out).2.1); rintro e w' ⟨rfl, ⟨nd, rfl⟩⟩; (try first | exact ⟨rfl, _, World.drewN_drewN _ _ _⟩ | exact ⟨rfl, _, Eq.trans (World.drewN_drewN _ _ _) (congrArg (World.drewN _) (Nat.add_assoc _ _ _))⟩)) | go_values | go_skip | go_guarded | go_step | go_upon | go_back | (simp only [Int.not_lt, Int.not_le] at *; go_simp) | (go_values <;> (try go_simp)) | (go_ite <;> go_prune <;> (try go_simp)) | (split <;> (first | (rename_i hx; exact (hx _ rfl).elim) | go_prune)) | go_quiet (fail))
            go_meet
            case rel => exact ⟨_, (true), (by first | rfl | (simp; done) | (simp [*]; done)), H', ⟨by have := HJ5.out; first | omega | exact Nat.le_refl _⟩, ⟨by (with_reducible repeat (first | apply Kd.S_alloc | apply Kd.S_drewN | apply Kd.S_drew)); exact Kd.S_mono HO345.out (fun _ hk => ⟨hk.1.2, hk.2⟩)⟩, ⟨by (with_reducible repeat (first | apply Kd.S_alloc | apply Kd.S_drewN | apply Kd.S_drew)); exact Kd.S_mono HO349.out (fun _ hk => ⟨hk.1.2, hk.2⟩)⟩, ⟨by (with_reducible repeat (first | apply Kd.S_alloc | apply Kd.S_drewN | apply Kd.S_drew)); exact Kd.S_mono HO362.out (fun _ hk => ⟨hk.1.2, hk.2⟩)⟩, ⟨by repeat (first | (with_reducible first | exact HB.out | apply below_alloc | apply pw_below_drewN | apply below_drew1) | exact HB.out)⟩⟩
          ·as_aux_lemma =>
           replace c34 := Bool.eq_false_iff.mpr c34
           subst c34
           have H1 : (fringelaw41_SkyDirty.j1 kj5 l0 l1 a3 t339 t342 t346 t359 true) = some true := by first | (with_reducible rfl) | (rw [if_neg (show ¬ (false = true) by decide)] at H; exact H)
           clear H
           have H := H1
           clear H1
           have H' := Aside0.mk H
           clear H
           obtain ⟨Ao43, co43, eo43⟩ := Kd.S_slice HO345.out
           subst eo43
           go_wp2_with (first |  (go_at_call 22; (with_reducible refine (fringelaw41_square.calls kj5 _ _ t342 a3 false _ ?side1 ?side2 A33.out).mono ?_); (case side1 => repeat (first | exact (Kd.S_reads' HO345.out).2.2 | (with_reducible refine Kd.C_alloc ?_ _) | (with_reducible refine Kd.C_drewN ?_ _) | (with_reducible refine Kd.C_drew ?_))); (case side2 => exact (Kd.S_reads' HO345.out).2.1); rintro e w' ⟨rfl, ⟨nd, rfl⟩⟩; (try first | exact ⟨rfl, _, World.drewN_drewN _ _ _⟩ | exact ⟨rfl, _, Eq.trans (World.drewN_drewN _ _ _) (congrArg (World.drewN _) (Nat.add_assoc _ _ _))⟩)) | go_values | go_skip | go_guarded | go_step | go_upon | go_back | (simp only [Int.not_lt, Int.not_le] at *; go_simp) | (go_values <;> (try go_simp)) | (go_ite <;> go_prune <;> (try go_simp)) | (split <;> (first | (rename_i hx; exact (hx _ rfl).elim) | go_prune)) | go_quiet (fail))
           go_meet
           case rel => exact ⟨_, (true), (by first | rfl | (simp; done) | (simp [*]; done)), H', ⟨by have := HJ5.out; first | omega | exact Nat.le_refl _⟩, ⟨by (with_reducible repeat (first | apply Kd.S_alloc | apply Kd.S_drewN | apply Kd.S_drew)); exact Kd.S_mono HO345.out (fun _ hk => ⟨hk.1.2, hk.2⟩)⟩, ⟨by (with_reducible repeat (first | apply Kd.S_alloc | apply Kd.S_drewN | apply Kd.S_drew)); exact Kd.S_mono HO349.out (fun _ hk => ⟨hk.1.2, hk.2⟩)⟩, ⟨by (with_reducible repeat (first | apply Kd.S_alloc | apply Kd.S_drewN | apply Kd.S_drew)); exact Kd.S_mono HO362.out (fun _ hk => ⟨hk.1.2, hk.2⟩)⟩, ⟨by repeat (first | (with_reducible first | exact HB.out | apply below_alloc | apply pw_below_drewN | apply below_drew1) | exact HB.out)⟩⟩
         ·as_aux_lemma =>
          rw [if_neg c32] at H
          have c32b0 : (t360 == 0) = false := beq_eq_false_iff_ne.mpr c32
          have c32b1 : (t360 != 0) = true := bne_iff_ne.mpr c32
          have H' := Aside0.mk H
          clear H
          go_wp2
          repeat (go_quiet (fail); try go_wp2)
          go_meet
          case rel => exact ⟨_, (true), (by first | rfl | (simp; done) | (simp [*]; done)), H', ⟨by have := HJ5.out; first | omega | exact Nat.le_refl _⟩, ⟨by (with_reducible repeat (first | apply Kd.S_alloc | apply Kd.S_drewN | apply Kd.S_drew)); exact Kd.S_mono HO345.out (fun _ hk => ⟨hk.1.2, hk.2⟩)⟩, ⟨by (with_reducible repeat (first | apply Kd.S_alloc | apply Kd.S_drewN | apply Kd.S_drew)); exact Kd.S_mono HO349.out (fun _ hk => ⟨hk.1.2, hk.2⟩)⟩, ⟨by (with_reducible repeat (first | apply Kd.S_alloc | apply Kd.S_drewN | apply Kd.S_drew)); exact Kd.S_mono HO362.out (fun _ hk => ⟨hk.1.2, hk.2⟩)⟩, ⟨by repeat (first | (with_reducible first | exact HB.out | apply below_alloc | apply pw_below_drewN | apply below_drew1) | exact HB.out)⟩⟩
        ·as_aux_lemma =>
         rw [if_neg c31] at H
         have c31b0 : (t347 == 0) = false := beq_eq_false_iff_ne.mpr c31
         have c31b1 : (t347 != 0) = true := bne_iff_ne.mpr c31
         have H' := Aside0.mk H
         clear H
         go_wp2
         repeat (go_quiet (fail); try go_wp2)
         go_meet
         case rel => exact ⟨_, (true), (by first | rfl | (simp; done) | (simp [*]; done)), H', ⟨by have := HJ5.out; first | omega | exact Nat.le_refl _⟩, ⟨by (with_reducible repeat (first | apply Kd.S_alloc | apply Kd.S_drewN | apply Kd.S_drew)); exact Kd.S_mono HO345.out (fun _ hk => ⟨hk.1.2, hk.2⟩)⟩, ⟨by (with_reducible repeat (first | apply Kd.S_alloc | apply Kd.S_drewN | apply Kd.S_drew)); exact Kd.S_mono HO349.out (fun _ hk => ⟨hk.1.2, hk.2⟩)⟩, ⟨by (with_reducible repeat (first | apply Kd.S_alloc | apply Kd.S_drewN | apply Kd.S_drew)); exact Kd.S_mono HO362.out (fun _ hk => ⟨hk.1.2, hk.2⟩)⟩, ⟨by repeat (first | (with_reducible first | exact HB.out | apply below_alloc | apply pw_below_drewN | apply below_drew1) | exact HB.out)⟩⟩
       ·as_aux_lemma =>
        rw [if_neg c30] at H
        have c30b0 : (t343 == 0) = false := beq_eq_false_iff_ne.mpr c30
        have c30b1 : (t343 != 0) = true := bne_iff_ne.mpr c30
        (first | rw [c30b0] | (simp only [i64_w, i32_w]; rw [c30b0]) | skip)
        have H' := Aside0.mk H
        clear H
        go_wp2
        repeat (go_quiet (fail); try go_wp2)
        go_meet
        case rel => exact ⟨_, (true), (by first | rfl | (simp; done) | (simp [*]; done)), H', ⟨by have := HJ5.out; first | omega | exact Nat.le_refl _⟩, ⟨by (with_reducible repeat (first | apply Kd.S_alloc | apply Kd.S_drewN | apply Kd.S_drew)); exact Kd.S_mono HO345.out (fun _ hk => ⟨hk.1.2, hk.2⟩)⟩, ⟨by (with_reducible repeat (first | apply Kd.S_alloc | apply Kd.S_drewN | apply Kd.S_drew)); exact Kd.S_mono HO349.out (fun _ hk => ⟨hk.1.2, hk.2⟩)⟩, ⟨by (with_reducible repeat (first | apply Kd.S_alloc | apply Kd.S_drewN | apply Kd.S_drew)); exact Kd.S_mono HO362.out (fun _ hk => ⟨hk.1.2, hk.2⟩)⟩, ⟨by repeat (first | (with_reducible first | exact HB.out | apply below_alloc | apply pw_below_drewN | apply below_drew1) | exact HB.out)⟩⟩
      case rest =>
       as_aux_lemma =>
       clear HC21
       try clear c1
       try clear c2
       try clear p2
       try clear c3
       try clear c5
       try clear p6
       try clear c9
       try clear c11
       try clear c12
       try clear c12b0
       try clear c13
       try clear c13b0
       try clear c14
       try clear c14b0
       try clear c15
       try clear c18
       try clear c19
       try clear c30
       try clear c30b0
       try clear c30b1
       try clear c31
       try clear c31b0
       try clear c31b1
       try clear c32
       try clear c32b0
       try clear c32b1
       try clear c34
       try clear c36
       try clear p2
       try clear p6
       obtain ⟨kq, x105_20, rfl, HA, HJ20, HO_10, HO_12, HO_14, HB⟩ := hcut
       cases kq with
       | zero => exact absurd HA.out (by simp [fringelaw41_SkyDirty.j1])
       | succ kj20 =>
        have H := HA.out
        clear HA
        simp only [fringelaw41_SkyDirty.j1] at H
        by_cases c44 : x105_20 = true
        ·as_aux_lemma =>
         subst c44
         have H1 : (some false) = some true := by first | (with_reducible rfl) | (rw [if_pos rfl] at H; exact H)
         clear H
         have H := H1
         clear H1
         exact absurd H (by simp)
        ·as_aux_lemma =>
         replace c44 := Bool.eq_false_iff.mpr c44
         subst c44
         have H1 : (fringelaw41_SkyDirty.l0 kj20 l0 l1 a3 t339 t342 t346 t359 0) = some true := by first | (with_reducible rfl) | (rw [if_neg (show ¬ (false = true) by decide)] at H; exact H)
         clear H
         have H := H1
         clear H1
         have H' := Aside0.mk H
         clear H
         go_wp2
         repeat (go_quiet (fail); try go_wp2)
         go_loopg [16] kj20 (fun kq v16 w' => ∃ (x16_3 : Int), v16 = .int .i64 x16_3 ∧ Aside0 (fringelaw41_SkyDirty.l0 kq l0 l1 a3 t339 t342 t346 t359 x16_3 = some true) ∧ Aside0 (kq ≤ kj20) ∧ Aside0 (Kd.S (Kd.slice 3 (Kd.int .i64)) 53 w' w.heap.size (fun k_ => some k_ ≠ (v348 : Value).ownBlock ∧ some k_ ≠ (v361 : Value).ownBlock) v344 t342) ∧ Aside0 (Kd.S (Kd.slice 3 (Kd.int .i64)) 53 w' w.heap.size (fun k_ => some k_ ≠ (v344 : Value).ownBlock ∧ some k_ ≠ (v361 : Value).ownBlock) v348 t346) ∧ Aside0 (Kd.S (Kd.slice 3 (Kd.int .i64)) 53 w' w.heap.size (fun k_ => some k_ ≠ (v344 : Value).ownBlock ∧ some k_ ≠ (v348 : Value).ownBlock) v361 t359) ∧ Aside0 (Below w.heap.size w w'))
         case atStart => exact ⟨(0), (by first | rfl | (simp; done) | (simp [*]; done)), H', ⟨Nat.le_refl _⟩, ⟨by (with_reducible repeat (first | apply Kd.S_alloc | apply Kd.S_drewN | apply Kd.S_drew)); exact HO_10.out⟩, ⟨by (with_reducible repeat (first | apply Kd.S_alloc | apply Kd.S_drewN | apply Kd.S_drew)); exact HO_12.out⟩, ⟨by (with_reducible repeat (first | apply Kd.S_alloc | apply Kd.S_drewN | apply Kd.S_drew)); exact HO_14.out⟩, ⟨by repeat (first | (with_reducible first | exact HB.out | apply below_alloc | apply pw_below_drewN | apply below_drew1) | exact HB.out)⟩⟩
         case round =>
          as_aux_lemma =>
          clear H'
          try clear c1
          try clear c2
          try clear p2
          try clear c3
          try clear c4
          try clear c5
          try clear p6
          try clear c9
          try clear c11
          try clear c12
          try clear c12b0
          try clear c13
          try clear c13b0
          try clear c14
          try clear c14b0
          try clear c15
          try clear c18
          try clear c19
          try clear c30
          try clear c30b0
          try clear c30b1
          try clear c31
          try clear c31b0
          try clear c31b1
          try clear c32
          try clear c32b0
          try clear c32b1
          try clear c34
          try clear c36
          try clear c44
          try clear p2
          try clear p6
          obtain ⟨x16_3, rfl, HA, HK3, HO_10, HO_12, HO_14, HB⟩ := hrel
          cases gk with
          | zero => exact absurd HA.out (by simp [fringelaw41_SkyDirty.l0])
          | succ k3 =>
           have H := HA.out
           clear HA
           simp only [fringelaw41_SkyDirty.l0] at H
           by_cases c45 : x16_3 < a3
           ·as_aux_lemma =>
            rw [if_pos c45] at H
            have c45b0 : decide (x16_3 < a3) = true := decide_eq_true c45
            clear c45
            have H' := Aside0.mk H
            clear H
            go_wp2
            repeat (go_quiet (fail); try go_wp2)
            go_loopg [17] k3 (fun kq v17 w' => ∃ (x17_4 : Int), v17 = .int .i64 x17_4 ∧ Aside0 (fringelaw41_SkyDirty.l1 kq l0 l1 a3 t339 t342 t346 t359 x16_3 x17_4 = some true) ∧ Aside0 (kq ≤ k3) ∧ Aside0 (Kd.S (Kd.slice 3 (Kd.int .i64)) 53 w' w.heap.size (fun k_ => some k_ ≠ (v348 : Value).ownBlock ∧ some k_ ≠ (v361 : Value).ownBlock) v344 t342) ∧ Aside0 (Kd.S (Kd.slice 3 (Kd.int .i64)) 53 w' w.heap.size (fun k_ => some k_ ≠ (v344 : Value).ownBlock ∧ some k_ ≠ (v361 : Value).ownBlock) v348 t346) ∧ Aside0 (Kd.S (Kd.slice 3 (Kd.int .i64)) 53 w' w.heap.size (fun k_ => some k_ ≠ (v344 : Value).ownBlock ∧ some k_ ≠ (v348 : Value).ownBlock) v361 t359) ∧ Aside0 (Below w.heap.size w w'))
            case atStart => exact ⟨(0), (by first | rfl | (simp; done) | (simp [*]; done)), H', ⟨Nat.le_refl _⟩, ⟨by (with_reducible repeat (first | apply Kd.S_alloc | apply Kd.S_drewN | apply Kd.S_drew)); exact HO_10.out⟩, ⟨by (with_reducible repeat (first | apply Kd.S_alloc | apply Kd.S_drewN | apply Kd.S_drew)); exact HO_12.out⟩, ⟨by (with_reducible repeat (first | apply Kd.S_alloc | apply Kd.S_drewN | apply Kd.S_drew)); exact HO_14.out⟩, ⟨by repeat (first | (with_reducible first | exact HB.out | apply below_alloc | apply pw_below_drewN | apply below_drew1) | exact HB.out)⟩⟩
            case round =>
             as_aux_lemma =>
             clear H'
             try clear c1
             try clear c2
             try clear p2
             try clear c3
             try clear c4
             try clear c5
             try clear p6
             try clear c9
             try clear c11
             try clear c12
             try clear c12b0
             try clear c13
             try clear c13b0
             try clear c14
             try clear c14b0
             try clear c15
             try clear c18
             try clear c19
             try clear c30
             try clear c30b0
             try clear c30b1
             try clear c31
             try clear c31b0
             try clear c31b1
             try clear c32
             try clear c32b0
             try clear c32b1
             try clear c34
             try clear c36
             try clear c44
             try clear c45
             try clear c45b0
             try clear p2
             try clear p6
             obtain ⟨x17_4, rfl, HA, HK4, HO_10, HO_12, HO_14, HB⟩ := hrel
             cases gk with
             | zero => exact absurd HA.out (by simp [fringelaw41_SkyDirty.l1])
             | succ k4 =>
              have H := HA.out
              clear HA
              simp only [fringelaw41_SkyDirty.l1] at H
              by_cases c46 : x17_4 < a3
              ·as_aux_lemma =>
               rw [if_pos c46] at H
               have c46b0 : decide (x17_4 < a3) = true := decide_eq_true c46
               clear c46
               by_cases c47 : 0 ≤ x16_3
               ·as_aux_lemma =>
                rw [if_pos c47] at H
                have c47b0 : decide (0 ≤ x16_3) = true := decide_eq_true c47
                clear c47
                by_cases c48 : x16_3 < (t342.length : Int)
                ·as_aux_lemma =>
                 rw [if_pos c48] at H
                 have c48b0 : decide (x16_3 < (t342.length : Int)) = true := decide_eq_true c48
                 clear c48
                 by_cases c49 : 0 ≤ x17_4
                 ·as_aux_lemma =>
                  rw [if_pos c49] at H
                  have c49b0 : decide (0 ≤ x17_4) = true := decide_eq_true c49
                  clear c49
                  by_cases c50 : x17_4 < ((rd_L6 t342 x16_3).length : Int)
                  ·as_aux_lemma =>
                   rw [if_pos c50] at H
                   have c50b0 : decide (x17_4 < ((rd_L6 t342 x16_3).length : Int)) = true := decide_eq_true c50
                   clear c50
                   by_cases c51 : x16_3 < (t346.length : Int)
                   ·as_aux_lemma =>
                    rw [if_pos c51] at H
                    have c51b0 : decide (x16_3 < (t346.length : Int)) = true := decide_eq_true c51
                    clear c51
                    by_cases c52 : x17_4 < ((rd_L6 t346 x16_3).length : Int)
                    ·as_aux_lemma =>
                     rw [if_pos c52] at H
                     have c52b0 : decide (x17_4 < ((rd_L6 t346 x16_3).length : Int)) = true := decide_eq_true c52
                     clear c52
                     by_cases c53 : x16_3 < (t359.length : Int)
                     ·as_aux_lemma =>
                      rw [if_pos c53] at H
                      have c53b0 : decide (x16_3 < (t359.length : Int)) = true := decide_eq_true c53
                      clear c53
                      by_cases c54 : x17_4 < ((rd_L6 t359 x16_3).length : Int)
                      ·as_aux_lemma =>
                       rw [if_pos c54] at H
                       have c54b0 : decide (x17_4 < ((rd_L6 t359 x16_3).length : Int)) = true := decide_eq_true c54
                       clear c54
                       by_cases c55 : (wrap64 ((rd (rd_L6 t342 x16_3) x17_4) + (rd (rd_L6 t346 x16_3) x17_4))) = (rd (rd_L6 t359 x16_3) x17_4)
                       ·as_aux_lemma =>
                        rw [if_pos c55] at H
                        have c55b0 : ((wrap64 ((rd (rd_L6 t342 x16_3) x17_4) + (rd (rd_L6 t346 x16_3) x17_4))) == (rd (rd_L6 t359 x16_3) x17_4)) = true := beq_iff_eq.mpr c55
                        have c55b1 : ((wrap64 ((rd (rd_L6 t342 x16_3) x17_4) + (rd (rd_L6 t346 x16_3) x17_4))) != (rd (rd_L6 t359 x16_3) x17_4)) = false := bne_eq_false_iff_eq.mpr c55
                        clear c55
                        have H' := Aside0.mk H
                        clear H
                        obtain ⟨Ao56, co56, eo56⟩ := Kd.S_slice HO_10.out
                        subst eo56
                        have p366 : 0 ≤ (x16_3 : Int) := of_decide_eq_true (by first | (with_reducible assumption) | assumption)
                        have q366 : x16_3 < (t342.length : Int) := of_decide_eq_true (by first | (with_reducible assumption) | assumption)
                        obtain ⟨ad366, A366_0, c366_0, e366, hx366_0, hl366_0, hi366_0⟩ := at_L6 (Kd.S_reads' HO_10.out).2.2 x16_3 p366 q366
                        cases e366
                        obtain ⟨ce366, hce366, hMe366, hcc366⟩ := Kd.S_get HO_10.out [] x16_3 p366 (by first | exact q366 | exact of_decide_eq_true (by first | (with_reducible assumption) | assumption) | (have e_ := (Kd.S_reads' HO_10.out).1; omega))
                        obtain ⟨ve366_0, rfl, ge366_0⟩ := hMe366
                        have hv366_0 := hcc366 0 _ rfl
                        rw [Nat.add_zero, show ((Kd.slice 3 (Kd.int .i64))).sz = 1 from rfl, Nat.mul_one] at hv366_0
                        replace hv366_0 := Option.some.inj (hv366_0.symm.trans hx366_0)
                        rw [hv366_0] at ge366_0
                        have HL366_0 := Aside0.mk (show Kd.R (Kd.int .i64) 3 _ _ _ _ (rd_L6 t342 x16_3) from ge366_0)
                        clear hv366_0 ge366_0
                        clear hcc366 hce366
                        have HR366_0 := Aside0.mk hi366_0
                        have HC366_0 := Aside0.mk hl366_0
                        clear hi366_0 hl366_0
                        replace p366 := eq_true p366
                        replace q366 := eq_true q366
                        have p367 : 0 ≤ (x17_4 : Int) := of_decide_eq_true (by first | (with_reducible assumption) | assumption)
                        have q367 : x17_4 < ((rd_L6 t342 x16_3).length : Int) := of_decide_eq_true (by first | (with_reducible assumption) | assumption)
                        obtain ⟨ad367, e367, hx367_0⟩ := Kd.at_int (by repeat (first | (with_reducible exact HR366_0.out) | (with_reducible refine Kd.C_alloc ?_ _) | (with_reducible refine Kd.C_drewN ?_ _) | (with_reducible refine Kd.C_drew ?_) | exact HR366_0.out)) x17_4 p367 q367
                        cases e367
                        replace p367 := eq_true p367
                        replace q367 := eq_true q367
                        obtain ⟨Ao57, co57, eo57⟩ := Kd.S_slice HO_12.out
                        subst eo57
                        have p368 : 0 ≤ (x16_3 : Int) := of_decide_eq_true (by first | (with_reducible assumption) | assumption)
                        have q368 : x16_3 < (t346.length : Int) := of_decide_eq_true (by first | (with_reducible assumption) | assumption)
                        obtain ⟨ad368, A368_0, c368_0, e368, hx368_0, hl368_0, hi368_0⟩ := at_L6 (Kd.S_reads' HO_12.out).2.2 x16_3 p368 q368
                        cases e368
                        obtain ⟨ce368, hce368, hMe368, hcc368⟩ := Kd.S_get HO_12.out [] x16_3 p368 (by first | exact q368 | exact of_decide_eq_true (by first | (with_reducible assumption) | assumption) | (have e_ := (Kd.S_reads' HO_12.out).1; omega))
                        obtain ⟨ve368_0, rfl, ge368_0⟩ := hMe368
                        have hv368_0 := hcc368 0 _ rfl
                        rw [Nat.add_zero, show ((Kd.slice 3 (Kd.int .i64))).sz = 1 from rfl, Nat.mul_one] at hv368_0
                        replace hv368_0 := Option.some.inj (hv368_0.symm.trans hx368_0)
                        rw [hv368_0] at ge368_0
                        have HL368_0 := Aside0.mk (show Kd.R (Kd.int .i64) 3 _ _ _ _ (rd_L6 t346 x16_3) from ge368_0)
                        clear hv368_0 ge368_0
                        clear hcc368 hce368
                        have HR368_0 := Aside0.mk hi368_0
                        have HC368_0 := Aside0.mk hl368_0
                        clear hi368_0 hl368_0
                        replace p368 := eq_true p368
                        replace q368 := eq_true q368
                        have p369 : 0 ≤ (x17_4 : Int) := of_decide_eq_true (by first | (with_reducible assumption) | assumption)
                        have q369 : x17_4 < ((rd_L6 t346 x16_3).length : Int) := of_decide_eq_true (by first | (with_reducible assumption) | assumption)
                        obtain ⟨ad369, e369, hx369_0⟩ := Kd.at_int (by repeat (first | (with_reducible exact HR368_0.out) | (with_reducible refine Kd.C_alloc ?_ _) | (with_reducible refine Kd.C_drewN ?_ _) | (with_reducible refine Kd.C_drew ?_) | exact HR368_0.out)) x17_4 p369 q369
                        cases e369
                        replace p369 := eq_true p369
                        replace q369 := eq_true q369
                        obtain ⟨Ao58, co58, eo58⟩ := Kd.S_slice HO_14.out
                        subst eo58
                        have p370 : 0 ≤ (x16_3 : Int) := of_decide_eq_true (by first | (with_reducible assumption) | assumption)
                        have q370 : x16_3 < (t359.length : Int) := of_decide_eq_true (by first | (with_reducible assumption) | assumption)
                        obtain ⟨ad370, A370_0, c370_0, e370, hx370_0, hl370_0, hi370_0⟩ := at_L6 (Kd.S_reads' HO_14.out).2.2 x16_3 p370 q370
                        cases e370
                        obtain ⟨ce370, hce370, hMe370, hcc370⟩ := Kd.S_get HO_14.out [] x16_3 p370 (by first | exact q370 | exact of_decide_eq_true (by first | (with_reducible assumption) | assumption) | (have e_ := (Kd.S_reads' HO_14.out).1; omega))
                        obtain ⟨ve370_0, rfl, ge370_0⟩ := hMe370
                        have hv370_0 := hcc370 0 _ rfl
                        rw [Nat.add_zero, show ((Kd.slice 3 (Kd.int .i64))).sz = 1 from rfl, Nat.mul_one] at hv370_0
                        replace hv370_0 := Option.some.inj (hv370_0.symm.trans hx370_0)
                        rw [hv370_0] at ge370_0
                        have HL370_0 := Aside0.mk (show Kd.R (Kd.int .i64) 3 _ _ _ _ (rd_L6 t359 x16_3) from ge370_0)
                        clear hv370_0 ge370_0
                        clear hcc370 hce370
                        have HR370_0 := Aside0.mk hi370_0
                        have HC370_0 := Aside0.mk hl370_0
                        clear hi370_0 hl370_0
                        replace p370 := eq_true p370
                        replace q370 := eq_true q370
                        have p371 : 0 ≤ (x17_4 : Int) := of_decide_eq_true (by first | (with_reducible assumption) | assumption)
                        have q371 : x17_4 < ((rd_L6 t359 x16_3).length : Int) := of_decide_eq_true (by first | (with_reducible assumption) | assumption)
                        obtain ⟨ad371, e371, hx371_0⟩ := Kd.at_int (by repeat (first | (with_reducible exact HR370_0.out) | (with_reducible refine Kd.C_alloc ?_ _) | (with_reducible refine Kd.C_drewN ?_ _) | (with_reducible refine Kd.C_drew ?_) | exact HR370_0.out)) x17_4 p371 q371
                        cases e371
                        replace p371 := eq_true p371
                        replace q371 := eq_true q371
                        go_wp2
                        repeat (go_quiet (fail); try go_wp2)
                        go_roundg k4
                        case measure => have := HJ5.out; have := HJ20.out; have := HK3.out; have := HK4.out; omega
                        case rel => exact ⟨(wrap64 (x17_4 + 1)), (by first | rfl | (simp; done) | (simp [*]; done)), H', ⟨by have := HJ5.out; have := HJ20.out; have := HK3.out; have := HK4.out; omega⟩, ⟨by (with_reducible repeat (first | apply Kd.S_alloc | apply Kd.S_drewN | apply Kd.S_drew)); exact HO_10.out⟩, ⟨by (with_reducible repeat (first | apply Kd.S_alloc | apply Kd.S_drewN | apply Kd.S_drew)); exact HO_12.out⟩, ⟨by (with_reducible repeat (first | apply Kd.S_alloc | apply Kd.S_drewN | apply Kd.S_drew)); exact HO_14.out⟩, ⟨by repeat (first | (with_reducible first | exact HB.out | apply below_alloc | apply pw_below_drewN | apply below_drew1) | exact HB.out)⟩⟩
                       ·as_aux_lemma =>
                        rw [if_neg c55] at H
                        have c55b0 : ((wrap64 ((rd (rd_L6 t342 x16_3) x17_4) + (rd (rd_L6 t346 x16_3) x17_4))) == (rd (rd_L6 t359 x16_3) x17_4)) = false := beq_eq_false_iff_ne.mpr c55
                        have c55b1 : ((wrap64 ((rd (rd_L6 t342 x16_3) x17_4) + (rd (rd_L6 t346 x16_3) x17_4))) != (rd (rd_L6 t359 x16_3) x17_4)) = true := bne_iff_ne.mpr c55
                        exact absurd H (by simp)
                      ·as_aux_lemma =>
                       rw [if_neg c54] at H
                       exact absurd H (by simp)
                     ·as_aux_lemma =>
                      rw [if_neg c53] at H
                      exact absurd H (by simp)
                    ·as_aux_lemma =>
                     rw [if_neg c52] at H
                     exact absurd H (by simp)
                   ·as_aux_lemma =>
                    rw [if_neg c51] at H
                    exact absurd H (by simp)
                  ·as_aux_lemma =>
                   rw [if_neg c50] at H
                   exact absurd H (by simp)
                 ·as_aux_lemma =>
                  rw [if_neg c49] at H
                  exact absurd H (by simp)
                ·as_aux_lemma =>
                 rw [if_neg c48] at H
                 exact absurd H (by simp)
               ·as_aux_lemma =>
                rw [if_neg c47] at H
                exact absurd H (by simp)
              ·as_aux_lemma =>
               rw [if_neg c46] at H
               have c46b0 : decide (x17_4 < a3) = false := decide_eq_false c46
               clear c46
               have H' := Aside0.mk H
               clear H
               go_wp2
               repeat (go_quiet (fail); try go_wp2)
               go_roundg k4
               case measure => have := HJ5.out; have := HJ20.out; have := HK3.out; have := HK4.out; omega
               case rel => exact ⟨(wrap64 (x16_3 + 1)), (by first | rfl | (simp; done) | (simp [*]; done)), H', ⟨by have := HJ5.out; have := HJ20.out; have := HK3.out; have := HK4.out; omega⟩, ⟨by (with_reducible repeat (first | apply Kd.S_alloc | apply Kd.S_drewN | apply Kd.S_drew)); exact HO_10.out⟩, ⟨by (with_reducible repeat (first | apply Kd.S_alloc | apply Kd.S_drewN | apply Kd.S_drew)); exact HO_12.out⟩, ⟨by (with_reducible repeat (first | apply Kd.S_alloc | apply Kd.S_drewN | apply Kd.S_drew)); exact HO_14.out⟩, ⟨by repeat (first | (with_reducible first | exact HB.out | apply below_alloc | apply pw_below_drewN | apply below_drew1) | exact HB.out)⟩⟩
           ·as_aux_lemma =>
            rw [if_neg c45] at H
            have c45b0 : decide (x16_3 < a3) = false := decide_eq_false c45
            clear c45
            by_cases c59 : (l1.length : Int) = 1
            ·as_aux_lemma =>
             rw [if_pos c59] at H
             have c59b0 : ((l1.length : Int) == 1) = true := beq_iff_eq.mpr c59
             have c59b1 : ((l1.length : Int) != 1) = false := bne_eq_false_iff_eq.mpr c59
             clear c59
             by_cases c60 : 0 < (l1.length : Int)
             ·as_aux_lemma =>
              rw [if_pos c60] at H
              have c60b0 : decide (0 < (l1.length : Int)) = true := decide_eq_true c60
              have c60b1 : decide (0 < l1.length) = true := decide_eq_true (by omega)
              clear c60
              have H' := Aside0.mk H
              clear H
              have p372 : 0 ≤ (0 : Int) := (by omega)
              have q372 : 0 < (l1.length : Int) := of_decide_eq_true (by first | (with_reducible assumption) | assumption)
              obtain ⟨ad372, e372, hx372_0, hx372_1, hx372_2⟩ := at_T33 HR1.out 0 p372 q372
              cases e372
              have qi372 : (0 < l1.length) = True := eq_true (by omega)
              (try rw [show ((0 : Int)).toNat = 0 from rfl] at hx372_0)
              (try rw [show 0 * 3 = 0 from rfl] at hx372_0)
              (try rw [Addr.add_zero'] at hx372_0)
              (try rw [show ((0 : Int)).toNat = 0 from rfl] at hx372_1)
              (try rw [show 0 * 3 = 0 from rfl] at hx372_1)
              (try rw [Addr.add_zero'] at hx372_1)
              (try rw [show ((0 : Int)).toNat = 0 from rfl] at hx372_2)
              (try rw [show 0 * 3 = 0 from rfl] at hx372_2)
              (try rw [Addr.add_zero'] at hx372_2)
              replace hx372_0 := (HB.out.cell (World.block_lt_of_cell? w _ hx372_0)).trans hx372_0
              replace hx372_1 := (HB.out.cell (World.block_lt_of_cell? w _ hx372_1)).trans hx372_1
              replace hx372_2 := (HB.out.cell (World.block_lt_of_cell? w _ hx372_2)).trans hx372_2
              replace p372 := eq_true p372
              replace q372 := eq_true q372
              go_wp2
              repeat (go_quiet (fail); try go_wp2)
              go_loopg [19] k3 (fun kq v19 w' => ∃ (x19_4 : Int), v19 = .int .i64 x19_4 ∧ Aside0 (fringelaw41_SkyDirty.l2 kq l1 a3 t339 t342 (wrap64 (Int.tdiv (wrap64 ((wrap64 (((rd_T33 l1 0).f2) * (l0.length : Int))) * (wrap64 ((l0.length : Int) - 1)))) 2)) x19_4 = some true) ∧ Aside0 (kq ≤ k3) ∧ Aside0 (Kd.S (Kd.slice 3 (Kd.int .i64)) 53 w' w.heap.size (fun _ => True) v344 t342) ∧ Aside0 (Below w.heap.size w w'))
              case atStart => exact ⟨(0), (by first | rfl | (simp; done) | (simp [*]; done)), H', ⟨Nat.le_refl _⟩, ⟨by (with_reducible repeat (first | apply Kd.S_alloc | apply Kd.S_drewN | apply Kd.S_drew)); exact Kd.S_mono HO_10.out (fun _ hk => trivial)⟩, ⟨by repeat (first | (with_reducible first | exact HB.out | apply below_alloc | apply pw_below_drewN | apply below_drew1) | exact HB.out)⟩⟩
              case round =>
               as_aux_lemma =>
               clear H'
               try clear c1
               try clear c2
               try clear p2
               try clear c3
               try clear p3
               try clear q3
               try clear hx3
               try clear qi3
               try clear c4
               try clear c5
               try clear c6
               try clear p6
               try clear c9
               try clear c11
               try clear c12
               try clear c12b0
               try clear c13
               try clear c13b0
               try clear c14
               try clear c14b0
               try clear c15
               try clear c18
               try clear c19
               try clear c30
               try clear c30b0
               try clear c30b1
               try clear c31
               try clear c31b0
               try clear c31b1
               try clear c32
               try clear c32b0
               try clear c32b1
               try clear c34
               try clear c36
               try clear p36
               try clear q36
               try clear hx36
               try clear c37
               try clear p37
               try clear q37
               try clear hx37
               try clear qi37
               try clear c44
               try clear c45
               try clear c45b0
               try clear c46
               try clear c46b0
               try clear c47
               try clear c47b0
               try clear c48
               try clear c48b0
               try clear c49
               try clear c49b0
               try clear c50
               try clear c50b0
               try clear c51
               try clear c51b0
               try clear c52
               try clear c52b0
               try clear c53
               try clear c53b0
               try clear c54
               try clear c54b0
               try clear c55
               try clear c55b0
               try clear c55b1
               try clear c59
               try clear c59b0
               try clear c59b1
               try clear c60
               try clear c60b0
               try clear c60b1
               try clear hx366_0
               try clear hx367_0
               try clear hx368_0
               try clear hx369_0
               try clear hx370_0
               try clear hx371_0
               try clear hx372_0
               try clear hx372_1
               try clear hx372_2
               try clear p2
               try clear p366
               try clear p367
               try clear p368
               try clear p369
               try clear p370
               try clear p371
               try clear p372
               try clear p6
               try clear q366
               try clear q367
               try clear q368
               try clear q369
               try clear q370
               try clear q371
               try clear q372
               obtain ⟨x19_4, rfl, HA, HK4, HO_10, HB⟩ := hrel
               cases gk with
               | zero => exact absurd HA.out (by simp [fringelaw41_SkyDirty.l2])
               | succ k4 =>
                have H := HA.out
                clear HA
                simp only [fringelaw41_SkyDirty.l2] at H
                by_cases c61 : x19_4 < a3
                ·as_aux_lemma =>
                 rw [if_pos c61] at H
                 have c61b0 : decide (x19_4 < a3) = true := decide_eq_true c61
                 clear c61
                 have H' := Aside0.mk H
                 clear H
                 go_wp2
                 repeat (go_quiet (fail); try go_wp2)
                 go_loopg [20] k4 (fun kq v20 w' => ∃ (x20_5 : Int), v20 = .int .i64 x20_5 ∧ Aside0 (fringelaw41_SkyDirty.l3 kq l1 a3 t339 t342 (wrap64 (Int.tdiv (wrap64 ((wrap64 (((rd_T33 l1 0).f2) * (l0.length : Int))) * (wrap64 ((l0.length : Int) - 1)))) 2)) x19_4 x20_5 = some true) ∧ Aside0 (kq ≤ k4) ∧ Aside0 (Kd.S (Kd.slice 3 (Kd.int .i64)) 53 w' w.heap.size (fun _ => True) v344 t342) ∧ Aside0 (Below w.heap.size w w'))
                 case atStart => exact ⟨(0), (by first | rfl | (simp; done) | (simp [*]; done)), H', ⟨Nat.le_refl _⟩, ⟨by (with_reducible repeat (first | apply Kd.S_alloc | apply Kd.S_drewN | apply Kd.S_drew)); exact HO_10.out⟩, ⟨by repeat (first | (with_reducible first | exact HB.out | apply below_alloc | apply pw_below_drewN | apply below_drew1) | exact HB.out)⟩⟩
                 case round =>
                  as_aux_lemma =>
                  clear H'
                  try clear c1
                  try clear c2
                  try clear p2
                  try clear c3
                  try clear p3
                  try clear q3
                  try clear hx3
                  try clear qi3
                  try clear c4
                  try clear c5
                  try clear c6
                  try clear p6
                  try clear c9
                  try clear c11
                  try clear c12
                  try clear c12b0
                  try clear c13
                  try clear c13b0
                  try clear c14
                  try clear c14b0
                  try clear c15
                  try clear c18
                  try clear c19
                  try clear c30
                  try clear c30b0
                  try clear c30b1
                  try clear c31
                  try clear c31b0
                  try clear c31b1
                  try clear c32
                  try clear c32b0
                  try clear c32b1
                  try clear c34
                  try clear c36
                  try clear p36
                  try clear q36
                  try clear hx36
                  try clear c37
                  try clear p37
                  try clear q37
                  try clear hx37
                  try clear qi37
                  try clear c44
                  try clear c45
                  try clear c45b0
                  try clear c46
                  try clear c46b0
                  try clear c47
                  try clear c47b0
                  try clear c48
                  try clear c48b0
                  try clear c49
                  try clear c49b0
                  try clear c50
                  try clear c50b0
                  try clear c51
                  try clear c51b0
                  try clear c52
                  try clear c52b0
                  try clear c53
                  try clear c53b0
                  try clear c54
                  try clear c54b0
                  try clear c55
                  try clear c55b0
                  try clear c55b1
                  try clear c59
                  try clear c59b0
                  try clear c59b1
                  try clear c60
                  try clear c60b0
                  try clear c60b1
                  try clear c61
                  try clear c61b0
                  try clear hx366_0
                  try clear hx367_0
                  try clear hx368_0
                  try clear hx369_0
                  try clear hx370_0
                  try clear hx371_0
                  try clear hx372_0
                  try clear hx372_1
                  try clear hx372_2
                  try clear p2
                  try clear p3
                  try clear p36
                  try clear p366
                  try clear p367
                  try clear p368
                  try clear p369
                  try clear p37
                  try clear p370
                  try clear p371
                  try clear p372
                  try clear p6
                  try clear q3
                  try clear q36
                  try clear q366
                  try clear q367
                  try clear q368
                  try clear q369
                  try clear q37
                  try clear q370
                  try clear q371
                  try clear q372
                  obtain ⟨x20_5, rfl, HA, HK5, HO_10, HB⟩ := hrel
                  cases gk with
                  | zero => exact absurd HA.out (by simp [fringelaw41_SkyDirty.l3])
                  | succ k5 =>
                   have H := HA.out
                   clear HA
                   simp only [fringelaw41_SkyDirty.l3] at H
                   by_cases c62 : x20_5 < a3
                   ·as_aux_lemma =>
                    rw [if_pos c62] at H
                    have c62b0 : decide (x20_5 < a3) = true := decide_eq_true c62
                    clear c62
                    by_cases c63 : 0 ≤ x19_4
                    ·as_aux_lemma =>
                     rw [if_pos c63] at H
                     have c63b0 : decide (0 ≤ x19_4) = true := decide_eq_true c63
                     clear c63
                     by_cases c64 : x19_4 < (t342.length : Int)
                     ·as_aux_lemma =>
                      rw [if_pos c64] at H
                      have c64b0 : decide (x19_4 < (t342.length : Int)) = true := decide_eq_true c64
                      clear c64
                      by_cases c65 : 0 ≤ x20_5
                      ·as_aux_lemma =>
                       rw [if_pos c65] at H
                       have c65b0 : decide (0 ≤ x20_5) = true := decide_eq_true c65
                       clear c65
                       by_cases c66 : x20_5 < ((rd_L6 t342 x19_4).length : Int)
                       ·as_aux_lemma =>
                        rw [if_pos c66] at H
                        have c66b0 : decide (x20_5 < ((rd_L6 t342 x19_4).length : Int)) = true := decide_eq_true c66
                        clear c66
                        by_cases c67 : (rd (rd_L6 t342 x19_4) x20_5) > (wrap64 (Int.tdiv (wrap64 ((wrap64 (((rd_T33 l1 0).f2) * (l0.length : Int))) * (wrap64 ((l0.length : Int) - 1)))) 2))
                        ·as_aux_lemma =>
                         rw [if_pos c67] at H
                         have c67b0 : decide ((wrap64 (Int.tdiv (wrap64 ((wrap64 (((rd_T33 l1 0).f2) * (l0.length : Int))) * (wrap64 ((l0.length : Int) - 1)))) 2)) < (rd (rd_L6 t342 x19_4) x20_5)) = true := decide_eq_true c67
                         clear c67
                         exact absurd H (by simp)
                        ·as_aux_lemma =>
                         rw [if_neg c67] at H
                         have c67b0 : decide ((wrap64 (Int.tdiv (wrap64 ((wrap64 (((rd_T33 l1 0).f2) * (l0.length : Int))) * (wrap64 ((l0.length : Int) - 1)))) 2)) < (rd (rd_L6 t342 x19_4) x20_5)) = false := decide_eq_false c67
                         clear c67
                         by_cases c68 : (rd (rd_L6 t342 x19_4) x20_5) < (wrap64 (-(wrap64 (Int.tdiv (wrap64 ((wrap64 (((rd_T33 l1 0).f2) * (l0.length : Int))) * (wrap64 ((l0.length : Int) - 1)))) 2))))
                         ·as_aux_lemma =>
                          rw [if_pos c68] at H
                          have c68b0 : decide ((rd (rd_L6 t342 x19_4) x20_5) < (wrap64 (-(wrap64 (Int.tdiv (wrap64 ((wrap64 (((rd_T33 l1 0).f2) * (l0.length : Int))) * (wrap64 ((l0.length : Int) - 1)))) 2))))) = true := decide_eq_true c68
                          clear c68
                          exact absurd H (by simp)
                         ·as_aux_lemma =>
                          rw [if_neg c68] at H
                          have c68b0 : decide ((rd (rd_L6 t342 x19_4) x20_5) < (wrap64 (-(wrap64 (Int.tdiv (wrap64 ((wrap64 (((rd_T33 l1 0).f2) * (l0.length : Int))) * (wrap64 ((l0.length : Int) - 1)))) 2))))) = false := decide_eq_false c68
                          clear c68
                          by_cases c69 : 0 < (l1.length : Int)
                          ·as_aux_lemma =>
                           rw [if_pos c69] at H
                           have c69b0 : decide (0 < (l1.length : Int)) = true := decide_eq_true c69
                           have c69b1 : decide (0 < l1.length) = true := decide_eq_true (by omega)
                           clear c69
                           by_cases c70 : x20_5 = ((rd_T33 l1 0).f0)
                           ·as_aux_lemma =>
                            rw [if_pos c70] at H
                            have c70b0 : (x20_5 == ((rd_T33 l1 0).f0)) = true := beq_iff_eq.mpr c70
                            have c70b1 : (x20_5 != ((rd_T33 l1 0).f0)) = false := bne_eq_false_iff_eq.mpr c70
                            clear c70
                            by_cases c71 : x19_4 = ((rd_T33 l1 0).f1)
                            ·as_aux_lemma =>
                             rw [if_pos c71] at H
                             have c71b0 : (x19_4 == ((rd_T33 l1 0).f1)) = true := beq_iff_eq.mpr c71
                             have c71b1 : (x19_4 != ((rd_T33 l1 0).f1)) = false := bne_eq_false_iff_eq.mpr c71
                             clear c71
                             by_cases c72 : (rd (rd_L6 t342 x19_4) x20_5) = (wrap64 (Int.tdiv (wrap64 ((wrap64 (((rd_T33 l1 0).f2) * (l0.length : Int))) * (wrap64 ((l0.length : Int) - 1)))) 2))
                             ·as_aux_lemma =>
                              rw [if_pos c72] at H
                              have c72b0 : ((rd (rd_L6 t342 x19_4) x20_5) == (wrap64 (Int.tdiv (wrap64 ((wrap64 (((rd_T33 l1 0).f2) * (l0.length : Int))) * (wrap64 ((l0.length : Int) - 1)))) 2))) = true := beq_iff_eq.mpr c72
                              have c72b1 : ((rd (rd_L6 t342 x19_4) x20_5) != (wrap64 (Int.tdiv (wrap64 ((wrap64 (((rd_T33 l1 0).f2) * (l0.length : Int))) * (wrap64 ((l0.length : Int) - 1)))) 2))) = false := bne_eq_false_iff_eq.mpr c72
                              clear c72
                              have H' := Aside0.mk H
                              clear H
                              obtain ⟨Ao73, co73, eo73⟩ := Kd.S_slice HO_10.out
                              subst eo73
                              have p373 : 0 ≤ (x19_4 : Int) := of_decide_eq_true (by first | (with_reducible assumption) | assumption)
                              have q373 : x19_4 < (t342.length : Int) := of_decide_eq_true (by first | (with_reducible assumption) | assumption)
                              obtain ⟨ad373, A373_0, c373_0, e373, hx373_0, hl373_0, hi373_0⟩ := at_L6 (Kd.S_reads' HO_10.out).2.2 x19_4 p373 q373
                              cases e373
                              obtain ⟨ce373, hce373, hMe373, hcc373⟩ := Kd.S_get HO_10.out [] x19_4 p373 (by first | exact q373 | exact of_decide_eq_true (by first | (with_reducible assumption) | assumption) | (have e_ := (Kd.S_reads' HO_10.out).1; omega))
                              obtain ⟨ve373_0, rfl, ge373_0⟩ := hMe373
                              have hv373_0 := hcc373 0 _ rfl
                              rw [Nat.add_zero, show ((Kd.slice 3 (Kd.int .i64))).sz = 1 from rfl, Nat.mul_one] at hv373_0
                              replace hv373_0 := Option.some.inj (hv373_0.symm.trans hx373_0)
                              rw [hv373_0] at ge373_0
                              have HL373_0 := Aside0.mk (show Kd.R (Kd.int .i64) 3 _ _ _ _ (rd_L6 t342 x19_4) from ge373_0)
                              clear hv373_0 ge373_0
                              clear hcc373 hce373
                              have HR373_0 := Aside0.mk hi373_0
                              have HC373_0 := Aside0.mk hl373_0
                              clear hi373_0 hl373_0
                              replace p373 := eq_true p373
                              replace q373 := eq_true q373
                              have p374 : 0 ≤ (x20_5 : Int) := of_decide_eq_true (by first | (with_reducible assumption) | assumption)
                              have q374 : x20_5 < ((rd_L6 t342 x19_4).length : Int) := of_decide_eq_true (by first | (with_reducible assumption) | assumption)
                              obtain ⟨ad374, e374, hx374_0⟩ := Kd.at_int (by repeat (first | (with_reducible exact HR373_0.out) | (with_reducible refine Kd.C_alloc ?_ _) | (with_reducible refine Kd.C_drewN ?_ _) | (with_reducible refine Kd.C_drew ?_) | exact HR373_0.out)) x20_5 p374 q374
                              cases e374
                              replace p374 := eq_true p374
                              replace q374 := eq_true q374
                              have p375 : 0 ≤ (x19_4 : Int) := of_decide_eq_true (by first | (with_reducible assumption) | assumption)
                              have q375 : x19_4 < (t342.length : Int) := of_decide_eq_true (by first | (with_reducible assumption) | assumption)
                              obtain ⟨ad375, A375_0, c375_0, e375, hx375_0, hl375_0, hi375_0⟩ := at_L6 (Kd.S_reads' HO_10.out).2.2 x19_4 p375 q375
                              obtain rfl : ad373 = ad375 := (by injection e375)
                              obtain ⟨ce375, hce375, hMe375, hcc375⟩ := Kd.S_get HO_10.out [] x19_4 p375 (by first | exact q375 | exact of_decide_eq_true (by first | (with_reducible assumption) | assumption) | (have e_ := (Kd.S_reads' HO_10.out).1; omega))
                              obtain ⟨ve375_0, rfl, ge375_0⟩ := hMe375
                              have hv375_0 := hcc375 0 _ rfl
                              rw [Nat.add_zero, show ((Kd.slice 3 (Kd.int .i64))).sz = 1 from rfl, Nat.mul_one] at hv375_0
                              replace hv375_0 := Option.some.inj (hv375_0.symm.trans hx375_0)
                              rw [hv375_0] at ge375_0
                              have HL375_0 := Aside0.mk (show Kd.R (Kd.int .i64) 3 _ _ _ _ (rd_L6 t342 x19_4) from ge375_0)
                              clear hv375_0 ge375_0
                              clear hcc375 hce375
                              have HR375_0 := Aside0.mk hi375_0
                              have HC375_0 := Aside0.mk hl375_0
                              clear hi375_0 hl375_0
                              replace p375 := eq_true p375
                              replace q375 := eq_true q375
                              have ea_ := Option.some.inj (hx373_0.symm.trans hx375_0)
                              injection ea_ with ea_ en_ ec_
                              subst ea_
                              subst ec_
                              clear en_
                              have p376 : 0 ≤ (x20_5 : Int) := of_decide_eq_true (by first | (with_reducible assumption) | assumption)
                              have q376 : x20_5 < ((rd_L6 t342 x19_4).length : Int) := of_decide_eq_true (by first | (with_reducible assumption) | assumption)
                              obtain ⟨ad376, e376, hx376_0⟩ := Kd.at_int (by repeat (first | (with_reducible exact HR375_0.out) | (with_reducible refine Kd.C_alloc ?_ _) | (with_reducible refine Kd.C_drewN ?_ _) | (with_reducible refine Kd.C_drew ?_) | exact HR375_0.out)) x20_5 p376 q376
                              cases e376
                              replace p376 := eq_true p376
                              replace q376 := eq_true q376
                              have p377 : 0 ≤ (0 : Int) := (by omega)
                              have q377 : 0 < (l1.length : Int) := of_decide_eq_true (by first | (with_reducible assumption) | assumption)
                              obtain ⟨ad377, e377, hx377_0, hx377_1, hx377_2⟩ := at_T33 HR1.out 0 p377 q377
                              obtain rfl : ad372 = ad377 := (by injection e377)
                              have qi377 : (0 < l1.length) = True := eq_true (by omega)
                              (try rw [show ((0 : Int)).toNat = 0 from rfl] at hx377_0)
                              (try rw [show 0 * 3 = 0 from rfl] at hx377_0)
                              (try rw [Addr.add_zero'] at hx377_0)
                              (try rw [show ((0 : Int)).toNat = 0 from rfl] at hx377_1)
                              (try rw [show 0 * 3 = 0 from rfl] at hx377_1)
                              (try rw [Addr.add_zero'] at hx377_1)
                              (try rw [show ((0 : Int)).toNat = 0 from rfl] at hx377_2)
                              (try rw [show 0 * 3 = 0 from rfl] at hx377_2)
                              (try rw [Addr.add_zero'] at hx377_2)
                              replace hx377_0 := (HB.out.cell (World.block_lt_of_cell? w _ hx377_0)).trans hx377_0
                              replace hx377_1 := (HB.out.cell (World.block_lt_of_cell? w _ hx377_1)).trans hx377_1
                              replace hx377_2 := (HB.out.cell (World.block_lt_of_cell? w _ hx377_2)).trans hx377_2
                              replace p377 := eq_true p377
                              replace q377 := eq_true q377
                              have p378 : 0 ≤ (0 : Int) := (by omega)
                              have q378 : 0 < (l1.length : Int) := of_decide_eq_true (by first | (with_reducible assumption) | assumption)
                              obtain ⟨ad378, e378, hx378_0, hx378_1, hx378_2⟩ := at_T33 HR1.out 0 p378 q378
                              obtain rfl : ad372 = ad378 := (by injection e378)
                              have qi378 : (0 < l1.length) = True := eq_true (by omega)
                              (try rw [show ((0 : Int)).toNat = 0 from rfl] at hx378_0)
                              (try rw [show 0 * 3 = 0 from rfl] at hx378_0)
                              (try rw [Addr.add_zero'] at hx378_0)
                              (try rw [show ((0 : Int)).toNat = 0 from rfl] at hx378_1)
                              (try rw [show 0 * 3 = 0 from rfl] at hx378_1)
                              (try rw [Addr.add_zero'] at hx378_1)
                              (try rw [show ((0 : Int)).toNat = 0 from rfl] at hx378_2)
                              (try rw [show 0 * 3 = 0 from rfl] at hx378_2)
                              (try rw [Addr.add_zero'] at hx378_2)
                              replace hx378_0 := (HB.out.cell (World.block_lt_of_cell? w _ hx378_0)).trans hx378_0
                              replace hx378_1 := (HB.out.cell (World.block_lt_of_cell? w _ hx378_1)).trans hx378_1
                              replace hx378_2 := (HB.out.cell (World.block_lt_of_cell? w _ hx378_2)).trans hx378_2
                              replace p378 := eq_true p378
                              replace q378 := eq_true q378
                              have p379 : 0 ≤ (x19_4 : Int) := of_decide_eq_true (by first | (with_reducible assumption) | assumption)
                              have q379 : x19_4 < (t342.length : Int) := of_decide_eq_true (by first | (with_reducible assumption) | assumption)
                              obtain ⟨ad379, A379_0, c379_0, e379, hx379_0, hl379_0, hi379_0⟩ := at_L6 (Kd.S_reads' HO_10.out).2.2 x19_4 p379 q379
                              obtain rfl : ad373 = ad379 := (by injection e379)
                              obtain ⟨ce379, hce379, hMe379, hcc379⟩ := Kd.S_get HO_10.out [] x19_4 p379 (by first | exact q379 | exact of_decide_eq_true (by first | (with_reducible assumption) | assumption) | (have e_ := (Kd.S_reads' HO_10.out).1; omega))
                              obtain ⟨ve379_0, rfl, ge379_0⟩ := hMe379
                              have hv379_0 := hcc379 0 _ rfl
                              rw [Nat.add_zero, show ((Kd.slice 3 (Kd.int .i64))).sz = 1 from rfl, Nat.mul_one] at hv379_0
                              replace hv379_0 := Option.some.inj (hv379_0.symm.trans hx379_0)
                              rw [hv379_0] at ge379_0
                              have HL379_0 := Aside0.mk (show Kd.R (Kd.int .i64) 3 _ _ _ _ (rd_L6 t342 x19_4) from ge379_0)
                              clear hv379_0 ge379_0
                              clear hcc379 hce379
                              have HR379_0 := Aside0.mk hi379_0
                              have HC379_0 := Aside0.mk hl379_0
                              clear hi379_0 hl379_0
                              replace p379 := eq_true p379
                              replace q379 := eq_true q379
                              have ea_ := Option.some.inj (hx373_0.symm.trans hx379_0)
                              injection ea_ with ea_ en_ ec_
                              subst ea_
                              subst ec_
                              clear en_
                              have p380 : 0 ≤ (x20_5 : Int) := of_decide_eq_true (by first | (with_reducible assumption) | assumption)
                              have q380 : x20_5 < ((rd_L6 t342 x19_4).length : Int) := of_decide_eq_true (by first | (with_reducible assumption) | assumption)
                              obtain ⟨ad380, e380, hx380_0⟩ := Kd.at_int (by repeat (first | (with_reducible exact HR379_0.out) | (with_reducible refine Kd.C_alloc ?_ _) | (with_reducible refine Kd.C_drewN ?_ _) | (with_reducible refine Kd.C_drew ?_) | exact HR379_0.out)) x20_5 p380 q380
                              cases e380
                              replace p380 := eq_true p380
                              replace q380 := eq_true q380
                              go_wp2
                              repeat (go_quiet (fail); try go_wp2)
                              go_roundg k5
                              case measure => have := HJ5.out; have := HJ20.out; have := HK3.out; have := HK4.out; have := HK5.out; omega
                              case rel => exact ⟨(wrap64 (x20_5 + 1)), (by first | rfl | (simp; done) | (simp [*]; done)), H', ⟨by have := HJ5.out; have := HJ20.out; have := HK3.out; have := HK4.out; have := HK5.out; omega⟩, ⟨by (with_reducible repeat (first | apply Kd.S_alloc | apply Kd.S_drewN | apply Kd.S_drew)); exact HO_10.out⟩, ⟨by repeat (first | (with_reducible first | exact HB.out | apply below_alloc | apply pw_below_drewN | apply below_drew1) | exact HB.out)⟩⟩
                             ·as_aux_lemma =>
                              rw [if_neg c72] at H
                              have c72b0 : ((rd (rd_L6 t342 x19_4) x20_5) == (wrap64 (Int.tdiv (wrap64 ((wrap64 (((rd_T33 l1 0).f2) * (l0.length : Int))) * (wrap64 ((l0.length : Int) - 1)))) 2))) = false := beq_eq_false_iff_ne.mpr c72
                              have c72b1 : ((rd (rd_L6 t342 x19_4) x20_5) != (wrap64 (Int.tdiv (wrap64 ((wrap64 (((rd_T33 l1 0).f2) * (l0.length : Int))) * (wrap64 ((l0.length : Int) - 1)))) 2))) = true := bne_iff_ne.mpr c72
                              exact absurd H (by simp)
                            ·as_aux_lemma =>
                             rw [if_neg c71] at H
                             have c71b0 : (x19_4 == ((rd_T33 l1 0).f1)) = false := beq_eq_false_iff_ne.mpr c71
                             have c71b1 : (x19_4 != ((rd_T33 l1 0).f1)) = true := bne_iff_ne.mpr c71
                             have H' := Aside0.mk H
                             clear H
                             obtain ⟨Ao74, co74, eo74⟩ := Kd.S_slice HO_10.out
                             subst eo74
                             have p373 : 0 ≤ (x19_4 : Int) := of_decide_eq_true (by first | (with_reducible assumption) | assumption)
                             have q373 : x19_4 < (t342.length : Int) := of_decide_eq_true (by first | (with_reducible assumption) | assumption)
                             obtain ⟨ad373, A373_0, c373_0, e373, hx373_0, hl373_0, hi373_0⟩ := at_L6 (Kd.S_reads' HO_10.out).2.2 x19_4 p373 q373
                             cases e373
                             obtain ⟨ce373, hce373, hMe373, hcc373⟩ := Kd.S_get HO_10.out [] x19_4 p373 (by first | exact q373 | exact of_decide_eq_true (by first | (with_reducible assumption) | assumption) | (have e_ := (Kd.S_reads' HO_10.out).1; omega))
                             obtain ⟨ve373_0, rfl, ge373_0⟩ := hMe373
                             have hv373_0 := hcc373 0 _ rfl
                             rw [Nat.add_zero, show ((Kd.slice 3 (Kd.int .i64))).sz = 1 from rfl, Nat.mul_one] at hv373_0
                             replace hv373_0 := Option.some.inj (hv373_0.symm.trans hx373_0)
                             rw [hv373_0] at ge373_0
                             have HL373_0 := Aside0.mk (show Kd.R (Kd.int .i64) 3 _ _ _ _ (rd_L6 t342 x19_4) from ge373_0)
                             clear hv373_0 ge373_0
                             clear hcc373 hce373
                             have HR373_0 := Aside0.mk hi373_0
                             have HC373_0 := Aside0.mk hl373_0
                             clear hi373_0 hl373_0
                             replace p373 := eq_true p373
                             replace q373 := eq_true q373
                             have p374 : 0 ≤ (x20_5 : Int) := of_decide_eq_true (by first | (with_reducible assumption) | assumption)
                             have q374 : x20_5 < ((rd_L6 t342 x19_4).length : Int) := of_decide_eq_true (by first | (with_reducible assumption) | assumption)
                             obtain ⟨ad374, e374, hx374_0⟩ := Kd.at_int (by repeat (first | (with_reducible exact HR373_0.out) | (with_reducible refine Kd.C_alloc ?_ _) | (with_reducible refine Kd.C_drewN ?_ _) | (with_reducible refine Kd.C_drew ?_) | exact HR373_0.out)) x20_5 p374 q374
                             cases e374
                             replace p374 := eq_true p374
                             replace q374 := eq_true q374
                             have p375 : 0 ≤ (x19_4 : Int) := of_decide_eq_true (by first | (with_reducible assumption) | assumption)
                             have q375 : x19_4 < (t342.length : Int) := of_decide_eq_true (by first | (with_reducible assumption) | assumption)
                             obtain ⟨ad375, A375_0, c375_0, e375, hx375_0, hl375_0, hi375_0⟩ := at_L6 (Kd.S_reads' HO_10.out).2.2 x19_4 p375 q375
                             obtain rfl : ad373 = ad375 := (by injection e375)
                             obtain ⟨ce375, hce375, hMe375, hcc375⟩ := Kd.S_get HO_10.out [] x19_4 p375 (by first | exact q375 | exact of_decide_eq_true (by first | (with_reducible assumption) | assumption) | (have e_ := (Kd.S_reads' HO_10.out).1; omega))
                             obtain ⟨ve375_0, rfl, ge375_0⟩ := hMe375
                             have hv375_0 := hcc375 0 _ rfl
                             rw [Nat.add_zero, show ((Kd.slice 3 (Kd.int .i64))).sz = 1 from rfl, Nat.mul_one] at hv375_0
                             replace hv375_0 := Option.some.inj (hv375_0.symm.trans hx375_0)
                             rw [hv375_0] at ge375_0
                             have HL375_0 := Aside0.mk (show Kd.R (Kd.int .i64) 3 _ _ _ _ (rd_L6 t342 x19_4) from ge375_0)
                             clear hv375_0 ge375_0
                             clear hcc375 hce375
                             have HR375_0 := Aside0.mk hi375_0
                             have HC375_0 := Aside0.mk hl375_0
                             clear hi375_0 hl375_0
                             replace p375 := eq_true p375
                             replace q375 := eq_true q375
                             have ea_ := Option.some.inj (hx373_0.symm.trans hx375_0)
                             injection ea_ with ea_ en_ ec_
                             subst ea_
                             subst ec_
                             clear en_
                             have p376 : 0 ≤ (x20_5 : Int) := of_decide_eq_true (by first | (with_reducible assumption) | assumption)
                             have q376 : x20_5 < ((rd_L6 t342 x19_4).length : Int) := of_decide_eq_true (by first | (with_reducible assumption) | assumption)
                             obtain ⟨ad376, e376, hx376_0⟩ := Kd.at_int (by repeat (first | (with_reducible exact HR375_0.out) | (with_reducible refine Kd.C_alloc ?_ _) | (with_reducible refine Kd.C_drewN ?_ _) | (with_reducible refine Kd.C_drew ?_) | exact HR375_0.out)) x20_5 p376 q376
                             cases e376
                             replace p376 := eq_true p376
                             replace q376 := eq_true q376
                             have p377 : 0 ≤ (0 : Int) := (by omega)
                             have q377 : 0 < (l1.length : Int) := of_decide_eq_true (by first | (with_reducible assumption) | assumption)
                             obtain ⟨ad377, e377, hx377_0, hx377_1, hx377_2⟩ := at_T33 HR1.out 0 p377 q377
                             obtain rfl : ad372 = ad377 := (by injection e377)
                             have qi377 : (0 < l1.length) = True := eq_true (by omega)
                             (try rw [show ((0 : Int)).toNat = 0 from rfl] at hx377_0)
                             (try rw [show 0 * 3 = 0 from rfl] at hx377_0)
                             (try rw [Addr.add_zero'] at hx377_0)
                             (try rw [show ((0 : Int)).toNat = 0 from rfl] at hx377_1)
                             (try rw [show 0 * 3 = 0 from rfl] at hx377_1)
                             (try rw [Addr.add_zero'] at hx377_1)
                             (try rw [show ((0 : Int)).toNat = 0 from rfl] at hx377_2)
                             (try rw [show 0 * 3 = 0 from rfl] at hx377_2)
                             (try rw [Addr.add_zero'] at hx377_2)
                             replace hx377_0 := (HB.out.cell (World.block_lt_of_cell? w _ hx377_0)).trans hx377_0
                             replace hx377_1 := (HB.out.cell (World.block_lt_of_cell? w _ hx377_1)).trans hx377_1
                             replace hx377_2 := (HB.out.cell (World.block_lt_of_cell? w _ hx377_2)).trans hx377_2
                             replace p377 := eq_true p377
                             replace q377 := eq_true q377
                             have p378 : 0 ≤ (0 : Int) := (by omega)
                             have q378 : 0 < (l1.length : Int) := of_decide_eq_true (by first | (with_reducible assumption) | assumption)
                             obtain ⟨ad378, e378, hx378_0, hx378_1, hx378_2⟩ := at_T33 HR1.out 0 p378 q378
                             obtain rfl : ad372 = ad378 := (by injection e378)
                             have qi378 : (0 < l1.length) = True := eq_true (by omega)
                             (try rw [show ((0 : Int)).toNat = 0 from rfl] at hx378_0)
                             (try rw [show 0 * 3 = 0 from rfl] at hx378_0)
                             (try rw [Addr.add_zero'] at hx378_0)
                             (try rw [show ((0 : Int)).toNat = 0 from rfl] at hx378_1)
                             (try rw [show 0 * 3 = 0 from rfl] at hx378_1)
                             (try rw [Addr.add_zero'] at hx378_1)
                             (try rw [show ((0 : Int)).toNat = 0 from rfl] at hx378_2)
                             (try rw [show 0 * 3 = 0 from rfl] at hx378_2)
                             (try rw [Addr.add_zero'] at hx378_2)
                             replace hx378_0 := (HB.out.cell (World.block_lt_of_cell? w _ hx378_0)).trans hx378_0
                             replace hx378_1 := (HB.out.cell (World.block_lt_of_cell? w _ hx378_1)).trans hx378_1
                             replace hx378_2 := (HB.out.cell (World.block_lt_of_cell? w _ hx378_2)).trans hx378_2
                             replace p378 := eq_true p378
                             replace q378 := eq_true q378
                             go_wp2
                             repeat (go_quiet (fail); try go_wp2)
                             go_roundg k5
                             case measure => have := HJ5.out; have := HJ20.out; have := HK3.out; have := HK4.out; have := HK5.out; omega
                             case rel => exact ⟨(wrap64 (x20_5 + 1)), (by first | rfl | (simp; done) | (simp [*]; done)), H', ⟨by have := HJ5.out; have := HJ20.out; have := HK3.out; have := HK4.out; have := HK5.out; omega⟩, ⟨by (with_reducible repeat (first | apply Kd.S_alloc | apply Kd.S_drewN | apply Kd.S_drew)); exact HO_10.out⟩, ⟨by repeat (first | (with_reducible first | exact HB.out | apply below_alloc | apply pw_below_drewN | apply below_drew1) | exact HB.out)⟩⟩
                           ·as_aux_lemma =>
                            rw [if_neg c70] at H
                            have c70b0 : (x20_5 == ((rd_T33 l1 0).f0)) = false := beq_eq_false_iff_ne.mpr c70
                            have c70b1 : (x20_5 != ((rd_T33 l1 0).f0)) = true := bne_iff_ne.mpr c70
                            have H' := Aside0.mk H
                            clear H
                            obtain ⟨Ao75, co75, eo75⟩ := Kd.S_slice HO_10.out
                            subst eo75
                            have p373 : 0 ≤ (x19_4 : Int) := of_decide_eq_true (by first | (with_reducible assumption) | assumption)
                            have q373 : x19_4 < (t342.length : Int) := of_decide_eq_true (by first | (with_reducible assumption) | assumption)
                            obtain ⟨ad373, A373_0, c373_0, e373, hx373_0, hl373_0, hi373_0⟩ := at_L6 (Kd.S_reads' HO_10.out).2.2 x19_4 p373 q373
                            cases e373
                            obtain ⟨ce373, hce373, hMe373, hcc373⟩ := Kd.S_get HO_10.out [] x19_4 p373 (by first | exact q373 | exact of_decide_eq_true (by first | (with_reducible assumption) | assumption) | (have e_ := (Kd.S_reads' HO_10.out).1; omega))
                            obtain ⟨ve373_0, rfl, ge373_0⟩ := hMe373
                            have hv373_0 := hcc373 0 _ rfl
                            rw [Nat.add_zero, show ((Kd.slice 3 (Kd.int .i64))).sz = 1 from rfl, Nat.mul_one] at hv373_0
                            replace hv373_0 := Option.some.inj (hv373_0.symm.trans hx373_0)
                            rw [hv373_0] at ge373_0
                            have HL373_0 := Aside0.mk (show Kd.R (Kd.int .i64) 3 _ _ _ _ (rd_L6 t342 x19_4) from ge373_0)
                            clear hv373_0 ge373_0
                            clear hcc373 hce373
                            have HR373_0 := Aside0.mk hi373_0
                            have HC373_0 := Aside0.mk hl373_0
                            clear hi373_0 hl373_0
                            replace p373 := eq_true p373
                            replace q373 := eq_true q373
                            have p374 : 0 ≤ (x20_5 : Int) := of_decide_eq_true (by first | (with_reducible assumption) | assumption)
                            have q374 : x20_5 < ((rd_L6 t342 x19_4).length : Int) := of_decide_eq_true (by first | (with_reducible assumption) | assumption)
                            obtain ⟨ad374, e374, hx374_0⟩ := Kd.at_int (by repeat (first | (with_reducible exact HR373_0.out) | (with_reducible refine Kd.C_alloc ?_ _) | (with_reducible refine Kd.C_drewN ?_ _) | (with_reducible refine Kd.C_drew ?_) | exact HR373_0.out)) x20_5 p374 q374
                            cases e374
                            replace p374 := eq_true p374
                            replace q374 := eq_true q374
                            have p375 : 0 ≤ (x19_4 : Int) := of_decide_eq_true (by first | (with_reducible assumption) | assumption)
                            have q375 : x19_4 < (t342.length : Int) := of_decide_eq_true (by first | (with_reducible assumption) | assumption)
                            obtain ⟨ad375, A375_0, c375_0, e375, hx375_0, hl375_0, hi375_0⟩ := at_L6 (Kd.S_reads' HO_10.out).2.2 x19_4 p375 q375
                            obtain rfl : ad373 = ad375 := (by injection e375)
                            obtain ⟨ce375, hce375, hMe375, hcc375⟩ := Kd.S_get HO_10.out [] x19_4 p375 (by first | exact q375 | exact of_decide_eq_true (by first | (with_reducible assumption) | assumption) | (have e_ := (Kd.S_reads' HO_10.out).1; omega))
                            obtain ⟨ve375_0, rfl, ge375_0⟩ := hMe375
                            have hv375_0 := hcc375 0 _ rfl
                            rw [Nat.add_zero, show ((Kd.slice 3 (Kd.int .i64))).sz = 1 from rfl, Nat.mul_one] at hv375_0
                            replace hv375_0 := Option.some.inj (hv375_0.symm.trans hx375_0)
                            rw [hv375_0] at ge375_0
                            have HL375_0 := Aside0.mk (show Kd.R (Kd.int .i64) 3 _ _ _ _ (rd_L6 t342 x19_4) from ge375_0)
                            clear hv375_0 ge375_0
                            clear hcc375 hce375
                            have HR375_0 := Aside0.mk hi375_0
                            have HC375_0 := Aside0.mk hl375_0
                            clear hi375_0 hl375_0
                            replace p375 := eq_true p375
                            replace q375 := eq_true q375
                            have ea_ := Option.some.inj (hx373_0.symm.trans hx375_0)
                            injection ea_ with ea_ en_ ec_
                            subst ea_
                            subst ec_
                            clear en_
                            have p376 : 0 ≤ (x20_5 : Int) := of_decide_eq_true (by first | (with_reducible assumption) | assumption)
                            have q376 : x20_5 < ((rd_L6 t342 x19_4).length : Int) := of_decide_eq_true (by first | (with_reducible assumption) | assumption)
                            obtain ⟨ad376, e376, hx376_0⟩ := Kd.at_int (by repeat (first | (with_reducible exact HR375_0.out) | (with_reducible refine Kd.C_alloc ?_ _) | (with_reducible refine Kd.C_drewN ?_ _) | (with_reducible refine Kd.C_drew ?_) | exact HR375_0.out)) x20_5 p376 q376
                            cases e376
                            replace p376 := eq_true p376
                            replace q376 := eq_true q376
                            have p377 : 0 ≤ (0 : Int) := (by omega)
                            have q377 : 0 < (l1.length : Int) := of_decide_eq_true (by first | (with_reducible assumption) | assumption)
                            obtain ⟨ad377, e377, hx377_0, hx377_1, hx377_2⟩ := at_T33 HR1.out 0 p377 q377
                            obtain rfl : ad372 = ad377 := (by injection e377)
                            have qi377 : (0 < l1.length) = True := eq_true (by omega)
                            (try rw [show ((0 : Int)).toNat = 0 from rfl] at hx377_0)
                            (try rw [show 0 * 3 = 0 from rfl] at hx377_0)
                            (try rw [Addr.add_zero'] at hx377_0)
                            (try rw [show ((0 : Int)).toNat = 0 from rfl] at hx377_1)
                            (try rw [show 0 * 3 = 0 from rfl] at hx377_1)
                            (try rw [Addr.add_zero'] at hx377_1)
                            (try rw [show ((0 : Int)).toNat = 0 from rfl] at hx377_2)
                            (try rw [show 0 * 3 = 0 from rfl] at hx377_2)
                            (try rw [Addr.add_zero'] at hx377_2)
                            replace hx377_0 := (HB.out.cell (World.block_lt_of_cell? w _ hx377_0)).trans hx377_0
                            replace hx377_1 := (HB.out.cell (World.block_lt_of_cell? w _ hx377_1)).trans hx377_1
                            replace hx377_2 := (HB.out.cell (World.block_lt_of_cell? w _ hx377_2)).trans hx377_2
                            replace p377 := eq_true p377
                            replace q377 := eq_true q377
                            go_wp2
                            repeat (go_quiet (fail); try go_wp2)
                            go_roundg k5
                            case measure => have := HJ5.out; have := HJ20.out; have := HK3.out; have := HK4.out; have := HK5.out; omega
                            case rel => exact ⟨(wrap64 (x20_5 + 1)), (by first | rfl | (simp; done) | (simp [*]; done)), H', ⟨by have := HJ5.out; have := HJ20.out; have := HK3.out; have := HK4.out; have := HK5.out; omega⟩, ⟨by (with_reducible repeat (first | apply Kd.S_alloc | apply Kd.S_drewN | apply Kd.S_drew)); exact HO_10.out⟩, ⟨by repeat (first | (with_reducible first | exact HB.out | apply below_alloc | apply pw_below_drewN | apply below_drew1) | exact HB.out)⟩⟩
                          ·as_aux_lemma =>
                           rw [if_neg c69] at H
                           exact absurd H (by simp)
                       ·as_aux_lemma =>
                        rw [if_neg c66] at H
                        exact absurd H (by simp)
                      ·as_aux_lemma =>
                       rw [if_neg c65] at H
                       exact absurd H (by simp)
                     ·as_aux_lemma =>
                      rw [if_neg c64] at H
                      exact absurd H (by simp)
                    ·as_aux_lemma =>
                     rw [if_neg c63] at H
                     exact absurd H (by simp)
                   ·as_aux_lemma =>
                    rw [if_neg c62] at H
                    have c62b0 : decide (x20_5 < a3) = false := decide_eq_false c62
                    clear c62
                    have H' := Aside0.mk H
                    clear H
                    go_wp2
                    repeat (go_quiet (fail); try go_wp2)
                    go_roundg k5
                    case measure => have := HJ5.out; have := HJ20.out; have := HK3.out; have := HK4.out; have := HK5.out; omega
                    case rel => exact ⟨(wrap64 (x19_4 + 1)), (by first | rfl | (simp; done) | (simp [*]; done)), H', ⟨by have := HJ5.out; have := HJ20.out; have := HK3.out; have := HK4.out; have := HK5.out; omega⟩, ⟨by (with_reducible repeat (first | apply Kd.S_alloc | apply Kd.S_drewN | apply Kd.S_drew)); exact HO_10.out⟩, ⟨by repeat (first | (with_reducible first | exact HB.out | apply below_alloc | apply pw_below_drewN | apply below_drew1) | exact HB.out)⟩⟩
                ·as_aux_lemma =>
                 rw [if_neg c61] at H
                 have c61b0 : decide (x19_4 < a3) = false := decide_eq_false c61
                 clear c61
                 have hend := Aside0.mk (Option.some.inj H)
                 clear H
                 go_wp2
                 repeat (go_quiet (fail); try go_wp2)
                 go_ret
                 exact ⟨by first | rfl | (rw [hend.out]; done) | (simp only [hend.out]; done) | (simp [*]; first | exact hend.out | exact eq_of_beq hend.out | exact of_decide_eq_true hend.out) | (have h_ := hend.out; simp_all; done) | (simp [*, errW_none, errW_some] <;> rfl), by repeat (first | (with_reducible first | exact HB.out | apply below_alloc | apply pw_below_drewN | apply below_drew1) | exact HB.out)⟩
             ·as_aux_lemma =>
              rw [if_neg c60] at H
              exact absurd H (by simp)
            ·as_aux_lemma =>
             rw [if_neg c59] at H
             have c59b0 : ((l1.length : Int) == 1) = false := beq_eq_false_iff_ne.mpr c59
             have c59b1 : ((l1.length : Int) != 1) = true := bne_iff_ne.mpr c59
             have hend := Aside0.mk (Option.some.inj H)
             clear H
             go_wp2
             repeat (go_quiet (fail); try go_wp2)
             go_ret
             exact ⟨by first | rfl | (rw [hend.out]; done) | (simp only [hend.out]; done) | (simp [*]; first | exact hend.out | exact eq_of_beq hend.out | exact of_decide_eq_true hend.out) | (have h_ := hend.out; simp_all; done) | (simp [*, errW_none, errW_some] <;> rfl), by repeat (first | (with_reducible first | exact HB.out | apply below_alloc | apply pw_below_drewN | apply below_drew1) | exact HB.out)⟩
     ·as_aux_lemma =>
      rw [if_neg c19] at H
      exact absurd H (by simp)
    ·as_aux_lemma =>
     rw [if_neg c18] at H
     exact absurd H (by simp)

end Go.Proofs.Ytihmhcdcbcleeaa.Q
