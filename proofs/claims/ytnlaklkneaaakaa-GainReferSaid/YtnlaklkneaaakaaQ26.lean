-- Written by qprint.py (a program of this session) over the program of the kit that prints contracts. Not trusted: Lean checks it.
import Derived.Test.YtnlaklkneaaakaaQShort
import Derived.Test.YtnlaklkneaaakaaQ0
import Derived.Test.YtnlaklkneaaakaaQ1
import Derived.Test.YtnlaklkneaaakaaQ9
import Derived.Test.YtnlaklkneaaakaaQ13
import Derived.Test.YtnlaklkneaaakaaQ18
import Derived.Test.YtnlaklkneaaakaaQ24
import Derived.Test.YtnlaklkneaaakaaQ25
namespace Go.Proofs.Ytnlaklkneaaakaa.Q
open Go.RowKit Go.Proofs.YtnlaklkneaaakaaW.PrintWords Go.Proofs.YtnlaklkneaaakaaW.PrintLast Go.Proofs.YtnlaklkneaaakaaW.PrintMore
attribute [local go_sem] max2_int min2_int max_two min_two max_three min_three max_four min_four   -- for this text's walks alone
set_option linter.unusedVariables false
set_option linter.unusedSimpArgs false

attribute [local go_sem high] eqA36
/-! ### fringelaw26_GainRefer: function 6 -/
mutual
def fringelaw26_GainRefer.j0 : Nat → List (S36) → Int → Bool → Bool → Option (Bool)
 | 0, _, _, _, _ => none
 | k + 1, x0, x1, x5, x37 => if x37 = true then (some x5) else ((gain_Refer.f k x0 x1).bind fun bt343 => (if bt343.2 = 0 then ((fringeref26_Check.f k bt343.1).bind fun t347 => (if t347 = 0 then (if (bt343.1.length : Int) = (x0.length : Int) then (if 0 ≤ x1 then (if x1 < (bt343.1.length : Int) then (if ((rd_T36 bt343.1 x1).f1) = 0 then (fringelaw26_GainRefer.j1 k x0 x1 x5 bt343.1 (decide (((rd_T36 bt343.1 x1).f0) ≤ 0))) else (fringelaw26_GainRefer.j1 k x0 x1 x5 bt343.1 true)) else (none)) else (none)) else (fringelaw26_GainRefer.j1 k x0 x1 x5 bt343.1 true)) else (fringelaw26_GainRefer.j1 k x0 x1 x5 bt343.1 true))) else (if x5 = true then (some (bt343.2 == 16)) else (some false))))
def fringelaw26_GainRefer.j1 : Nat → List (S36) → Int → Bool → List (S36) → Bool → Option (Bool)
 | 0, _, _, _, _, _ => none
 | k + 1, x0, x1, x5, x6, x77 => if x77 = true then (some false) else (fringelaw26_GainRefer.l0 k x0 x1 x5 x6 0)
def fringelaw26_GainRefer.l0 : Nat → List (S36) → Int → Bool → List (S36) → Int → Option (Bool)
 | 0, _, _, _, _, _ => none
 | k + 1, x0, x1, x5, x6, x8 => if x8 < (x0.length : Int) then (if 0 ≤ x8 then (if x8 < (x6.length : Int) then (if 0 ≤ x1 then (if x1 < (x0.length : Int) then ((fringeref25_Mul.f k ((rd_T36 x6 x8).f0) ((rd_T36 x6 x8).f1) ((rd_T36 x6 x8).f2) ((rd_T36 x0 x1).f0) ((rd_T36 x0 x1).f1) ((rd_T36 x0 x1).f2)).bind fun bt352 => (if x1 < (x6.length : Int) then ((fringeref25_Mul.f k ((rd_T36 x6 x1).f0) ((rd_T36 x6 x1).f1) ((rd_T36 x6 x1).f2) ((rd_T36 x0 x8).f0) ((rd_T36 x0 x8).f1) ((rd_T36 x0 x8).f2)).bind fun bt359 => (if bt352.2.2.2 = 0 then (if bt359.2.2.2 = 0 then (if (!(bt352.1 == bt359.1) || (!(bt352.2.1 == bt359.2.1) || (!(bt352.2.2.1 == bt359.2.2.1)))) = true then (some false) else (fringelaw26_GainRefer.l0 k x0 x1 x5 x6 (wrap64 (x8 + 1)))) else (fringelaw26_GainRefer.l0 k x0 x1 x5 x6 (wrap64 (x8 + 1)))) else (fringelaw26_GainRefer.l0 k x0 x1 x5 x6 (wrap64 (x8 + 1))))) else (none))) else (none)) else (none)) else (none)) else (none)) else ((gain_Refer.f k x6 x1).bind fun bt364 => (if bt364.2 = 0 then (fringelaw26_GainRefer.l1 k x0 x5 x6 bt364.1 0) else (some x5)))
def fringelaw26_GainRefer.l1 : Nat → List (S36) → Bool → List (S36) → List (S36) → Int → Option (Bool)
 | 0, _, _, _, _, _ => none
 | k + 1, x0, x5, x6, x13, x15 => if x15 < (x0.length : Int) then (fringelaw26_GainRefer.j4 k x0 x5 x6 x13 x15 (decide (x15 < (x13.length : Int)))) else (fringelaw26_GainRefer.j4 k x0 x5 x6 x13 x15 false)
def fringelaw26_GainRefer.j4 : Nat → List (S36) → Bool → List (S36) → List (S36) → Int → Bool → Option (Bool)
 | 0, _, _, _, _, _, _ => none
 | k + 1, x0, x5, x6, x13, x15, x137 => if x137 = true then (if 0 ≤ x15 then (if x15 < (x6.length : Int) then ((fringeref25_Ray.f k ((rd_T36 x6 x15).f0) ((rd_T36 x6 x15).f1) ((rd_T36 x6 x15).f2)).bind fun bt369 => (if x15 < (x13.length : Int) then ((fringeref25_Ray.f k ((rd_T36 x13 x15).f0) ((rd_T36 x13 x15).f1) ((rd_T36 x13 x15).f2)).bind fun bt375 => (if bt369.2.2.2 = 0 then (if bt375.2.2.2 = 0 then (if (!(bt369.1 == bt375.1) || (!(bt369.2.1 == bt375.2.1) || (!(bt369.2.2.1 == bt375.2.2.1)))) = true then (some false) else (fringelaw26_GainRefer.l1 k x0 x5 x6 x13 (wrap64 (x15 + 1)))) else (some false)) else (some false))) else (none))) else (none)) else (none)) else (if x5 = true then (some ((x13.length : Int) == (x0.length : Int))) else (some false))
end
def fringelaw26_GainRefer.f (k : Nat) (l0 : List (S36)) (a1 : Int) : Option (Bool) := (fringelaw26_alive.f k).bind fun t341 => ((fringeref26_Check.f k l0).bind fun t342 => (if t342 = 0 then (if a1 < 0 then (fringelaw26_GainRefer.j0 k l0 a1 t341 true) else (if a1 ≥ (l0.length : Int) then (fringelaw26_GainRefer.j0 k l0 a1 t341 true) else (fringelaw26_GainRefer.j0 k l0 a1 t341 (!t341)))) else (fringelaw26_GainRefer.j0 k l0 a1 t341 true)))
theorem fringelaw26_GainRefer.mono_l : ∀ k, (∀ y0 y1 y2 y3, LeO (fringelaw26_GainRefer.j0 k y0 y1 y2 y3) (fringelaw26_GainRefer.j0 (k + 1) y0 y1 y2 y3)) ∧ (∀ y0 y1 y2 y3 y4, LeO (fringelaw26_GainRefer.j1 k y0 y1 y2 y3 y4) (fringelaw26_GainRefer.j1 (k + 1) y0 y1 y2 y3 y4)) ∧ (∀ y0 y1 y2 y3 y4, LeO (fringelaw26_GainRefer.l0 k y0 y1 y2 y3 y4) (fringelaw26_GainRefer.l0 (k + 1) y0 y1 y2 y3 y4)) ∧ (∀ y0 y1 y2 y3 y4, LeO (fringelaw26_GainRefer.l1 k y0 y1 y2 y3 y4) (fringelaw26_GainRefer.l1 (k + 1) y0 y1 y2 y3 y4)) ∧ (∀ y0 y1 y2 y3 y4 y5, LeO (fringelaw26_GainRefer.j4 k y0 y1 y2 y3 y4 y5) (fringelaw26_GainRefer.j4 (k + 1) y0 y1 y2 y3 y4 y5))
 | 0 => ⟨fun _ _ _ _ r h => by simp [fringelaw26_GainRefer.j0] at h, fun _ _ _ _ _ r h => by simp [fringelaw26_GainRefer.j1] at h, fun _ _ _ _ _ r h => by simp [fringelaw26_GainRefer.l0] at h, fun _ _ _ _ _ r h => by simp [fringelaw26_GainRefer.l1] at h, fun _ _ _ _ _ _ r h => by simp [fringelaw26_GainRefer.j4] at h⟩
 | k + 1 => by
  obtain ⟨ih0, ih1, ih2, ih3, ih4⟩ := fringelaw26_GainRefer.mono_l k
  refine ⟨?_, ?_, ?_, ?_, ?_⟩
  ·intro y0 y1 y2 y3
   unfold fringelaw26_GainRefer.j0
   repeat' first
   | (with_reducible exact ih0 _ _ _ _)
   | (with_reducible exact ih1 _ _ _ _ _)
   | (with_reducible exact ih2 _ _ _ _ _)
   | (with_reducible exact ih3 _ _ _ _ _)
   | (with_reducible exact ih4 _ _ _ _ _ _)
   | (with_reducible exact fringelaw26_alive.mono _)
   | (with_reducible exact fringeref25_Mul.mono _ _ _ _ _ _ _)
   | (with_reducible exact fringeref25_Ray.mono _ _ _ _)
   | (with_reducible exact fringeref26_Check.mono _ _)
   | (with_reducible exact gain_Refer.mono _ _ _)
   | (with_reducible exact LeO.refl _)
   | (with_reducible exact LeO.none _)
   | (with_reducible refine LeO.ite ?_ ?_)
   | (with_reducible refine LeO.bind ?_ (fun _ => ?_))
   | exact ih0 _ _ _ _
   | exact ih1 _ _ _ _ _
   | exact ih2 _ _ _ _ _
   | exact ih3 _ _ _ _ _
   | exact ih4 _ _ _ _ _ _
   | exact fringelaw26_alive.mono _
   | exact fringeref25_Mul.mono _ _ _ _ _ _ _
   | exact fringeref25_Ray.mono _ _ _ _
   | exact fringeref26_Check.mono _ _
   | exact gain_Refer.mono _ _ _
   | exact LeO.none _
   | refine LeO.ite ?_ ?_
   | refine LeO.bind ?_ (fun _ => ?_)
  ·intro y0 y1 y2 y3 y4
   unfold fringelaw26_GainRefer.j1
   repeat' first
   | (with_reducible exact ih0 _ _ _ _)
   | (with_reducible exact ih1 _ _ _ _ _)
   | (with_reducible exact ih2 _ _ _ _ _)
   | (with_reducible exact ih3 _ _ _ _ _)
   | (with_reducible exact ih4 _ _ _ _ _ _)
   | (with_reducible exact fringelaw26_alive.mono _)
   | (with_reducible exact fringeref25_Mul.mono _ _ _ _ _ _ _)
   | (with_reducible exact fringeref25_Ray.mono _ _ _ _)
   | (with_reducible exact fringeref26_Check.mono _ _)
   | (with_reducible exact gain_Refer.mono _ _ _)
   | (with_reducible exact LeO.refl _)
   | (with_reducible exact LeO.none _)
   | (with_reducible refine LeO.ite ?_ ?_)
   | (with_reducible refine LeO.bind ?_ (fun _ => ?_))
   | exact ih0 _ _ _ _
   | exact ih1 _ _ _ _ _
   | exact ih2 _ _ _ _ _
   | exact ih3 _ _ _ _ _
   | exact ih4 _ _ _ _ _ _
   | exact fringelaw26_alive.mono _
   | exact fringeref25_Mul.mono _ _ _ _ _ _ _
   | exact fringeref25_Ray.mono _ _ _ _
   | exact fringeref26_Check.mono _ _
   | exact gain_Refer.mono _ _ _
   | exact LeO.none _
   | refine LeO.ite ?_ ?_
   | refine LeO.bind ?_ (fun _ => ?_)
  ·intro y0 y1 y2 y3 y4
   unfold fringelaw26_GainRefer.l0
   repeat' first
   | (with_reducible exact ih0 _ _ _ _)
   | (with_reducible exact ih1 _ _ _ _ _)
   | (with_reducible exact ih2 _ _ _ _ _)
   | (with_reducible exact ih3 _ _ _ _ _)
   | (with_reducible exact ih4 _ _ _ _ _ _)
   | (with_reducible exact fringelaw26_alive.mono _)
   | (with_reducible exact fringeref25_Mul.mono _ _ _ _ _ _ _)
   | (with_reducible exact fringeref25_Ray.mono _ _ _ _)
   | (with_reducible exact fringeref26_Check.mono _ _)
   | (with_reducible exact gain_Refer.mono _ _ _)
   | (with_reducible exact LeO.refl _)
   | (with_reducible exact LeO.none _)
   | (with_reducible refine LeO.ite ?_ ?_)
   | (with_reducible refine LeO.bind ?_ (fun _ => ?_))
   | exact ih0 _ _ _ _
   | exact ih1 _ _ _ _ _
   | exact ih2 _ _ _ _ _
   | exact ih3 _ _ _ _ _
   | exact ih4 _ _ _ _ _ _
   | exact fringelaw26_alive.mono _
   | exact fringeref25_Mul.mono _ _ _ _ _ _ _
   | exact fringeref25_Ray.mono _ _ _ _
   | exact fringeref26_Check.mono _ _
   | exact gain_Refer.mono _ _ _
   | exact LeO.none _
   | refine LeO.ite ?_ ?_
   | refine LeO.bind ?_ (fun _ => ?_)
  ·intro y0 y1 y2 y3 y4
   unfold fringelaw26_GainRefer.l1
   repeat' first
   | (with_reducible exact ih0 _ _ _ _)
   | (with_reducible exact ih1 _ _ _ _ _)
   | (with_reducible exact ih2 _ _ _ _ _)
   | (with_reducible exact ih3 _ _ _ _ _)
   | (with_reducible exact ih4 _ _ _ _ _ _)
   | (with_reducible exact fringelaw26_alive.mono _)
   | (with_reducible exact fringeref25_Mul.mono _ _ _ _ _ _ _)
   | (with_reducible exact fringeref25_Ray.mono _ _ _ _)
   | (with_reducible exact fringeref26_Check.mono _ _)
   | (with_reducible exact gain_Refer.mono _ _ _)
   | (with_reducible exact LeO.refl _)
   | (with_reducible exact LeO.none _)
   | (with_reducible refine LeO.ite ?_ ?_)
   | (with_reducible refine LeO.bind ?_ (fun _ => ?_))
   | exact ih0 _ _ _ _
   | exact ih1 _ _ _ _ _
   | exact ih2 _ _ _ _ _
   | exact ih3 _ _ _ _ _
   | exact ih4 _ _ _ _ _ _
   | exact fringelaw26_alive.mono _
   | exact fringeref25_Mul.mono _ _ _ _ _ _ _
   | exact fringeref25_Ray.mono _ _ _ _
   | exact fringeref26_Check.mono _ _
   | exact gain_Refer.mono _ _ _
   | exact LeO.none _
   | refine LeO.ite ?_ ?_
   | refine LeO.bind ?_ (fun _ => ?_)
  ·intro y0 y1 y2 y3 y4 y5
   unfold fringelaw26_GainRefer.j4
   repeat' first
   | (with_reducible exact ih0 _ _ _ _)
   | (with_reducible exact ih1 _ _ _ _ _)
   | (with_reducible exact ih2 _ _ _ _ _)
   | (with_reducible exact ih3 _ _ _ _ _)
   | (with_reducible exact ih4 _ _ _ _ _ _)
   | (with_reducible exact fringelaw26_alive.mono _)
   | (with_reducible exact fringeref25_Mul.mono _ _ _ _ _ _ _)
   | (with_reducible exact fringeref25_Ray.mono _ _ _ _)
   | (with_reducible exact fringeref26_Check.mono _ _)
   | (with_reducible exact gain_Refer.mono _ _ _)
   | (with_reducible exact LeO.refl _)
   | (with_reducible exact LeO.none _)
   | (with_reducible refine LeO.ite ?_ ?_)
   | (with_reducible refine LeO.bind ?_ (fun _ => ?_))
   | exact ih0 _ _ _ _
   | exact ih1 _ _ _ _ _
   | exact ih2 _ _ _ _ _
   | exact ih3 _ _ _ _ _
   | exact ih4 _ _ _ _ _ _
   | exact fringelaw26_alive.mono _
   | exact fringeref25_Mul.mono _ _ _ _ _ _ _
   | exact fringeref25_Ray.mono _ _ _ _
   | exact fringeref26_Check.mono _ _
   | exact gain_Refer.mono _ _ _
   | exact LeO.none _
   | refine LeO.ite ?_ ?_
   | refine LeO.bind ?_ (fun _ => ?_)
theorem fringelaw26_GainRefer.mono : ∀ a0 a1 k, LeO (fringelaw26_GainRefer.f k a0 a1) (fringelaw26_GainRefer.f (k + 1) a0 a1) := by
 intro a0 a1 k
 obtain ⟨ih0, ih1, ih2, ih3, ih4⟩ := fringelaw26_GainRefer.mono_l k
 unfold fringelaw26_GainRefer.f
 repeat' first
   | (with_reducible exact ih0 _ _ _ _)
   | (with_reducible exact ih1 _ _ _ _ _)
   | (with_reducible exact ih2 _ _ _ _ _)
   | (with_reducible exact ih3 _ _ _ _ _)
   | (with_reducible exact ih4 _ _ _ _ _ _)
   | (with_reducible exact fringelaw26_alive.mono _)
   | (with_reducible exact fringeref25_Mul.mono _ _ _ _ _ _ _)
   | (with_reducible exact fringeref25_Ray.mono _ _ _ _)
   | (with_reducible exact fringeref26_Check.mono _ _)
   | (with_reducible exact gain_Refer.mono _ _ _)
   | (with_reducible exact LeO.refl _)
   | (with_reducible exact LeO.none _)
   | (with_reducible refine LeO.ite ?_ ?_)
   | (with_reducible refine LeO.bind ?_ (fun _ => ?_))
   | exact ih0 _ _ _ _
   | exact ih1 _ _ _ _ _
   | exact ih2 _ _ _ _ _
   | exact ih3 _ _ _ _ _
   | exact ih4 _ _ _ _ _ _
   | exact fringelaw26_alive.mono _
   | exact fringeref25_Mul.mono _ _ _ _ _ _ _
   | exact fringeref25_Ray.mono _ _ _ _
   | exact fringeref26_Check.mono _ _
   | exact gain_Refer.mono _ _ _
   | exact LeO.none _
   | refine LeO.ite ?_ ?_
   | refine LeO.bind ?_ (fun _ => ?_)
def fringelaw26_GainRefer.T12 : Bool × List (List Nat × List Nat) := (true, [([], []), ([], []), ([0, 1], [0, 1]), ([2], [2]), ([], []), ([], []), ([4, 5], [4, 5]), ([6], [6]), ([3, 7], [3, 7]), ([8], [8]), ([9], [9]), ([9], [9]), ([], []), ([12, 10, 8, 0, 1, 2, 3, 4, 5, 6, 7, 8, 9, 10, 12], [10, 12]), ([11, 13, 0, 1, 2, 3, 4, 5, 6, 7, 8, 9, 10, 11, 12, 13], [11])])
def fringelaw26_GainRefer.B12 : List Nat := [0, 0, 3, 7, 0, 0, 48, 112, 255, 511, 1023, 1023, 0, 6143, 16383]
theorem fringelaw26_GainRefer.tab12 : rtab .any (opsOf Try.f6 12) = fringelaw26_GainRefer.T12 := by kernel_rfl
theorem fringelaw26_GainRefer.bits12 : waitsOk fringelaw26_GainRefer.T12.2 fringelaw26_GainRefer.B12 = true := by kernel_rfl
def fringelaw26_GainRefer.T13 : Bool × List (List Nat × List Nat) := (true, [([], []), ([], []), ([0, 1], [0, 1]), ([2], [2]), ([], []), ([], []), ([4, 5], [4, 5]), ([6], [6]), ([3, 7], [3, 7]), ([8], [8]), ([9], [9]), ([9], [9]), ([], []), ([12, 10, 8, 0, 1, 2, 3, 4, 5, 6, 7, 8, 9, 10, 12], [10, 12]), ([11, 13, 0, 1, 2, 3, 4, 5, 6, 7, 8, 9, 10, 11, 12, 13], [11])])
def fringelaw26_GainRefer.B13 : List Nat := [0, 0, 3, 7, 0, 0, 48, 112, 255, 511, 1023, 1023, 0, 6143, 16383]
theorem fringelaw26_GainRefer.tab13 : rtab .any (opsOf Try.f6 13) = fringelaw26_GainRefer.T13 := by kernel_rfl
theorem fringelaw26_GainRefer.bits13 : waitsOk fringelaw26_GainRefer.T13.2 fringelaw26_GainRefer.B13 = true := by kernel_rfl
set_option maxHeartbeats 8000000 in
set_option maxRecDepth 100000 in
theorem fringelaw26_GainRefer.calls (k : Nat) (A0 : Option Addr) (c0 : Nat) (l0 : List (S36)) (a1 : Int) (w : World) (hr0 : Kd.C k36 w A0 l0.length l0) (hc0 : l0.length ≤ c0) (h : fringelaw26_GainRefer.f k l0 a1 = some true) :
  Calls Try.prog 6 #[.slice A0 l0.length c0, .int .i64 a1] w fun e w' => e = .returned (.bool true) ∧ Below w.heap.size w w' := by
 have hu36 := Try.underlying36
 have HR0 := Aside0.mk hr0
 have HC0 := Aside0.mk hc0
 clear hr0 hc0
 have HB := Aside0.mk (Below.refl w.heap.size w)
 have H : ((fringelaw26_alive.f k).bind fun t341 => ((fringeref26_Check.f k l0).bind fun t342 => (if t342 = 0 then (if a1 < 0 then (fringelaw26_GainRefer.j0 k l0 a1 t341 true) else (if a1 ≥ (l0.length : Int) then (fringelaw26_GainRefer.j0 k l0 a1 t341 true) else (fringelaw26_GainRefer.j0 k l0 a1 t341 (!t341)))) else (fringelaw26_GainRefer.j0 k l0 a1 t341 true)))) = some true := h
 clear h
 replace H := Option.bind_eq_some_iff.mp H
 obtain ⟨t341, A30, H⟩ := H
 (try dsimp only at H)
 have A3 := Aside0.mk A30
 clear A30
 have HC4 := Aside0.mk H
 clear H
 go_enter Try.func6, Try.ntmps6
 go_upto_region 2 with (first | ((with_reducible refine gate_callee (f := 14) rfl ?_); refine goesL_ (some 20) rfl rfl Try.func14 (by kernel_rfl) rfl #[] rfl (by (try simp only [List.map_toArray, List.map_cons, List.map_nil]); first | done | rfl | (simp only [List.length_drop, List.length_take]; rfl)) ?_; (with_reducible refine (fringelaw26_alive.calls k  t341 _ A3.out).mono ?_); rintro e w5 ⟨rfl, hb⟩; refine ⟨_, rfl, ?_⟩; have n0_ := Aside0.mk (below_step (bl HB.out) hb); clear HB; have HB := n0_; clear n0_; (try clear hb); (try clear hb2); (try clear hk); (try clear hi)))
 (try simp only [Act.put, List.setIfInBounds_toArray, List.set_cons_zero, List.set_cons_succ])
 go_cut [37] (fun v37 wc => ∃ (kq : Nat) (x37_3 : Bool), v37 = .bool x37_3 ∧ Aside0 (fringelaw26_GainRefer.j0 kq l0 a1 t341 x37_3 = some true) ∧ Aside0 (kq ≤ k) ∧ Aside0 (Below w.heap.size w wc))
 case first =>
  as_aux_lemma =>
  have H := HC4.out
  clear HC4
  replace H := Option.bind_eq_some_iff.mp H
  obtain ⟨t342, A60, H⟩ := H
  (try dsimp only at H)
  have A6 := Aside0.mk A60
  clear A60
  by_cases c7 : t342 = 0
  ·as_aux_lemma =>
   rw [if_pos c7] at H
   have c7b0 : (t342 == 0) = true := beq_iff_eq.mpr c7
   have c7b1 : (t342 != 0) = false := bne_eq_false_iff_eq.mpr c7
   clear c7
   (first | rw [c7b0] | (simp only [i64_w, i32_w]; rw [c7b0]) | skip)
   by_cases c8 : a1 < 0
   ·as_aux_lemma =>
    rw [if_pos c8] at H
    have c8b0 : decide (a1 < 0) = true := decide_eq_true c8
    clear c8
    have H' := Aside0.mk H
    clear H
    go_wp2_with (first | ((with_reducible refine gate_callee (f := 12) rfl ?_); refine goesL_ (some 22) rfl rfl Try.func12 (by kernel_rfl) rfl #[.slice A0 l0.length c0] rfl (by (try simp only [List.map_toArray, List.map_cons, List.map_nil]); first | done | rfl | (simp only [List.length_drop, List.length_take]; rfl)) ?_; (with_reducible refine (fringeref26_Check.calls k _ _ l0 t342 _ ?side1 ?side2 A6.out).mono ?_); (case side1 => repeat (first | exact (Kd.C_below HR0.out HB.out) | (with_reducible refine Kd.C_alloc ?_ _) | (with_reducible refine Kd.C_drewN ?_ _) | (with_reducible refine Kd.C_drew ?_))); (case side2 => exact HC0.out); rintro e w9 ⟨rfl, hb⟩; refine ⟨_, rfl, ?_⟩; have n0_ := Aside0.mk (below_step (bl HB.out) hb); clear HB; have HB := n0_; clear n0_; (try clear hb); (try clear hb2); (try clear hk); (try clear hi)))
    go_meet
    case rel => exact ⟨_, (true), (by first | rfl | (simp; done) | (simp [*]; done)), H', ⟨by first | omega | exact Nat.le_refl _⟩, ⟨by repeat (first | (with_reducible first | exact HB.out | apply below_alloc | apply pw_below_drewN | apply below_drew1) | exact HB.out)⟩⟩
   ·as_aux_lemma =>
    rw [if_neg c8] at H
    have c8b0 : decide (a1 < 0) = false := decide_eq_false c8
    clear c8
    by_cases c10 : a1 ≥ (l0.length : Int)
    ·as_aux_lemma =>
     rw [if_pos c10] at H
     have c10b0 : decide ((l0.length : Int) ≤ a1) = true := decide_eq_true c10
     clear c10
     have H' := Aside0.mk H
     clear H
     go_wp2_with (first | ((with_reducible refine gate_callee (f := 12) rfl ?_); refine goesL_ (some 22) rfl rfl Try.func12 (by kernel_rfl) rfl #[.slice A0 l0.length c0] rfl (by (try simp only [List.map_toArray, List.map_cons, List.map_nil]); first | done | rfl | (simp only [List.length_drop, List.length_take]; rfl)) ?_; (with_reducible refine (fringeref26_Check.calls k _ _ l0 t342 _ ?side1 ?side2 A6.out).mono ?_); (case side1 => repeat (first | exact (Kd.C_below HR0.out HB.out) | (with_reducible refine Kd.C_alloc ?_ _) | (with_reducible refine Kd.C_drewN ?_ _) | (with_reducible refine Kd.C_drew ?_))); (case side2 => exact HC0.out); rintro e w11 ⟨rfl, hb⟩; refine ⟨_, rfl, ?_⟩; have n0_ := Aside0.mk (below_step (bl HB.out) hb); clear HB; have HB := n0_; clear n0_; (try clear hb); (try clear hb2); (try clear hk); (try clear hi)))
     go_meet
     case rel => exact ⟨_, (true), (by first | rfl | (simp; done) | (simp [*]; done)), H', ⟨by first | omega | exact Nat.le_refl _⟩, ⟨by repeat (first | (with_reducible first | exact HB.out | apply below_alloc | apply pw_below_drewN | apply below_drew1) | exact HB.out)⟩⟩
    ·as_aux_lemma =>
     rw [if_neg c10] at H
     have c10b0 : decide ((l0.length : Int) ≤ a1) = false := decide_eq_false c10
     clear c10
     have H' := Aside0.mk H
     clear H
     go_wp2_with (first | ((with_reducible refine gate_callee (f := 12) rfl ?_); refine goesL_ (some 22) rfl rfl Try.func12 (by kernel_rfl) rfl #[.slice A0 l0.length c0] rfl (by (try simp only [List.map_toArray, List.map_cons, List.map_nil]); first | done | rfl | (simp only [List.length_drop, List.length_take]; rfl)) ?_; (with_reducible refine (fringeref26_Check.calls k _ _ l0 t342 _ ?side1 ?side2 A6.out).mono ?_); (case side1 => repeat (first | exact (Kd.C_below HR0.out HB.out) | (with_reducible refine Kd.C_alloc ?_ _) | (with_reducible refine Kd.C_drewN ?_ _) | (with_reducible refine Kd.C_drew ?_))); (case side2 => exact HC0.out); rintro e w12 ⟨rfl, hb⟩; refine ⟨_, rfl, ?_⟩; have n0_ := Aside0.mk (below_step (bl HB.out) hb); clear HB; have HB := n0_; clear n0_; (try clear hb); (try clear hb2); (try clear hk); (try clear hi)))
     go_meet
     case rel => exact ⟨_, (!t341), (by first | rfl | (simp; done) | (simp [*]; done)), H', ⟨by first | omega | exact Nat.le_refl _⟩, ⟨by repeat (first | (with_reducible first | exact HB.out | apply below_alloc | apply pw_below_drewN | apply below_drew1) | exact HB.out)⟩⟩
  ·as_aux_lemma =>
   rw [if_neg c7] at H
   have c7b0 : (t342 == 0) = false := beq_eq_false_iff_ne.mpr c7
   have c7b1 : (t342 != 0) = true := bne_iff_ne.mpr c7
   (first | rw [c7b0] | (simp only [i64_w, i32_w]; rw [c7b0]) | skip)
   have H' := Aside0.mk H
   clear H
   go_wp2_with (first | ((with_reducible refine gate_callee (f := 12) rfl ?_); refine goesL_ (some 22) rfl rfl Try.func12 (by kernel_rfl) rfl #[.slice A0 l0.length c0] rfl (by (try simp only [List.map_toArray, List.map_cons, List.map_nil]); first | done | rfl | (simp only [List.length_drop, List.length_take]; rfl)) ?_; (with_reducible refine (fringeref26_Check.calls k _ _ l0 t342 _ ?side1 ?side2 A6.out).mono ?_); (case side1 => repeat (first | exact (Kd.C_below HR0.out HB.out) | (with_reducible refine Kd.C_alloc ?_ _) | (with_reducible refine Kd.C_drewN ?_ _) | (with_reducible refine Kd.C_drew ?_))); (case side2 => exact HC0.out); rintro e w13 ⟨rfl, hb⟩; refine ⟨_, rfl, ?_⟩; have n0_ := Aside0.mk (below_step (bl HB.out) hb); clear HB; have HB := n0_; clear n0_; (try clear hb); (try clear hb2); (try clear hk); (try clear hi)))
   go_meet
   case rel => exact ⟨_, (true), (by first | rfl | (simp; done) | (simp [*]; done)), H', ⟨by first | omega | exact Nat.le_refl _⟩, ⟨by repeat (first | (with_reducible first | exact HB.out | apply below_alloc | apply pw_below_drewN | apply below_drew1) | exact HB.out)⟩⟩
 case rest =>
  as_aux_lemma =>
  clear HC4
  (try clear c1); (try clear p2); (try clear c6); (try clear c7); (try clear c7b0); (try clear c7b1); (try clear c8); (try clear c8b0); (try clear c10); (try clear c10b0); (try clear c12)
  obtain ⟨kq, x37_3, rfl, HA, HJ3, HB⟩ := hcut
  cases kq with
  | zero => exact absurd HA.out (by simp [fringelaw26_GainRefer.j0])
  | succ kj3 =>
   have H := HA.out
   clear HA
   simp only [fringelaw26_GainRefer.j0] at H
   by_cases c14 : x37_3 = true
   ·as_aux_lemma =>
    subst c14
    rw [if_pos rfl] at H
    have hend := Aside0.mk (Option.some.inj H)
    clear H
    go_wp2
    go_ret
    exact ⟨by first | rfl | (rw [hend.out]; done) | (simp only [hend.out]; done) | (simp [*]; first | exact hend.out | exact eq_of_beq hend.out | exact of_decide_eq_true hend.out) | (have h_ := hend.out; simp_all; done) | (simp [*, errW_none, errW_some] <;> rfl), by repeat (first | (with_reducible first | exact HB.out | apply below_alloc | apply pw_below_drewN | apply below_drew1) | exact HB.out)⟩
   ·as_aux_lemma =>
    replace c14 := Bool.eq_false_iff.mpr c14
    subst c14
    rw [if_neg (show ¬ (false = true) by decide)] at H
    replace H := Option.bind_eq_some_iff.mp H
    obtain ⟨⟨t343, t344⟩, A150, H⟩ := H
    (try dsimp only at H)
    have A15 := Aside0.mk A150
    clear A150
    by_cases c16 : t344 = 0
    ·as_aux_lemma =>
     rw [if_pos c16] at H
     have c16b0 : (t344 == 0) = true := beq_iff_eq.mpr c16
     have c16b1 : (t344 != 0) = false := bne_eq_false_iff_eq.mpr c16
     clear c16
     have HC17 := Aside0.mk H
     clear H
     go_upto_region 7 with (first | ((with_reducible refine gate_callee (f := 22) rfl ?_); refine goesL_ (some 42) rfl rfl Try.func22 (by kernel_rfl) rfl #[.slice A0 l0.length c0, .int .i64 a1] rfl (by (try simp only [List.map_toArray, List.map_cons, List.map_nil]); first | done | rfl | (simp only [List.length_drop, List.length_take]; rfl)) ?_; (with_reducible refine (gain_Refer.calls kj3 _ _ l0 a1 t343 t344 _ ?side1 ?side2 A15.out).mono ?_); (case side1 => repeat (first | exact (Kd.C_below HR0.out HB.out) | (with_reducible refine Kd.C_alloc ?_ _) | (with_reducible refine Kd.C_drewN ?_ _) | (with_reducible refine Kd.C_drew ?_))); (case side2 => exact HC0.out); rintro e w18 ⟨v345, rfl, ho0, hb⟩; refine ⟨_, rfl, ?_⟩; have n0_ := Aside0.mk (Kd.R_lower ho0 (below_size (bl HB.out))); have n1_ := Aside0.mk (below_step (bl HB.out) hb); clear HB; have HO346 := n0_; have HB := n1_; clear n0_ n1_; (try clear hb); (try clear hb2); (try clear hk); (try clear hi); (try clear ho0)))
     (try simp only [Act.put, List.setIfInBounds_toArray, List.set_cons_zero, List.set_cons_succ])
     go_cut [77] (fun v77 wc => ∃ (kq : Nat) (x77_16 : Bool), v77 = .bool x77_16 ∧ Aside0 (fringelaw26_GainRefer.j1 kq l0 a1 t341 t343 x77_16 = some true) ∧ Aside0 (kq ≤ kj3) ∧ Aside0 (Kd.R k36 36 wc w.heap.size (fun _ => True) v345 t343) ∧ Aside0 (Below w.heap.size w wc))
     case first =>
      as_aux_lemma =>
      have H := HC17.out
      clear HC17
      replace H := Option.bind_eq_some_iff.mp H
      obtain ⟨t347, A190, H⟩ := H
      (try dsimp only at H)
      have A19 := Aside0.mk A190
      clear A190
      by_cases c20 : t347 = 0
      ·as_aux_lemma =>
       rw [if_pos c20] at H
       have c20b0 : (t347 == 0) = true := beq_iff_eq.mpr c20
       have c20b1 : (t347 != 0) = false := bne_eq_false_iff_eq.mpr c20
       clear c20
       (first | rw [c20b0] | (simp only [i64_w, i32_w]; rw [c20b0]) | skip)
       by_cases c21 : (t343.length : Int) = (l0.length : Int)
       ·as_aux_lemma =>
        rw [if_pos c21] at H
        have c21b0 : ((t343.length : Int) == (l0.length : Int)) = true := beq_iff_eq.mpr c21
        have c21b1 : ((t343.length : Int) != (l0.length : Int)) = false := bne_eq_false_iff_eq.mpr c21
        have c21b2 : (t343.length == l0.length) = true := by first | simpa using c21 | (simp at c21 ⊢; omega)
        clear c21
        by_cases c22 : 0 ≤ a1
        ·as_aux_lemma =>
         rw [if_pos c22] at H
         have c22b0 : decide (0 ≤ a1) = true := decide_eq_true c22
         clear c22
         by_cases c23 : a1 < (t343.length : Int)
         ·as_aux_lemma =>
          rw [if_pos c23] at H
          have c23b0 : decide (a1 < (t343.length : Int)) = true := decide_eq_true c23
          clear c23
          by_cases c24 : ((rd_T36 t343 a1).f1) = 0
          ·as_aux_lemma =>
           rw [if_pos c24] at H
           have c24b0 : (((rd_T36 t343 a1).f1) == 0) = true := beq_iff_eq.mpr c24
           have c24b1 : (((rd_T36 t343 a1).f1) != 0) = false := bne_eq_false_iff_eq.mpr c24
           clear c24
           have H' := Aside0.mk H
           clear H
           obtain ⟨Ao25, co25, eo25⟩ := Kd.R_slice HO346.out
           subst eo25
           go_wp2_with (first | ((with_reducible refine gate_callee (f := 12) rfl ?_); refine goesL_ (some 53) rfl rfl Try.func12 (by kernel_rfl) rfl #[.slice Ao25 t343.length co25] rfl (by (try simp only [List.map_toArray, List.map_cons, List.map_nil]); first | done | rfl | (simp only [List.length_drop, List.length_take]; rfl)) ?_; (with_reducible refine (fringeref26_Check.calls kj3 _ _ t343 t347 _ ?side1 ?side2 A19.out).mono ?_); (case side1 => repeat (first | exact (Kd.R_reads' HO346.out).2.2 | (with_reducible refine Kd.C_alloc ?_ _) | (with_reducible refine Kd.C_drewN ?_ _) | (with_reducible refine Kd.C_drew ?_))); (case side2 => exact (Kd.R_reads' HO346.out).2.1); rintro e w26 ⟨rfl, hb⟩; refine ⟨_, rfl, ?_⟩; have n0_ := Aside0.mk (Kd.R_below (Rt HO346.out) hb); have n1_ := Aside0.mk (below_step (bl HB.out) hb); clear HO346; clear HB; have HO346 := n0_; have HB := n1_; clear n0_ n1_; (try clear hb); (try clear hb2); (try clear hk); (try clear hi); have p348 : 0 ≤ (a1 : Int) := of_decide_eq_true (by first | (with_reducible assumption) | assumption); have q348 : a1 < (t343.length : Int) := of_decide_eq_true (by first | (with_reducible assumption) | assumption); obtain ⟨ad348, e348, hx348_0, hx348_1, hx348_2⟩ := at_T36 (Kd.R_reads' HO346.out).2.2 a1 p348 q348; cases e348; replace p348 := eq_true p348; replace q348 := eq_true q348; have p349 : 0 ≤ (a1 : Int) := of_decide_eq_true (by first | (with_reducible assumption) | assumption); have q349 : a1 < (t343.length : Int) := of_decide_eq_true (by first | (with_reducible assumption) | assumption); obtain ⟨ad349, e349, hx349_0, hx349_1, hx349_2⟩ := at_T36 (Kd.R_reads' HO346.out).2.2 a1 p349 q349; obtain rfl : ad348 = ad349 := (by injection e349); replace p349 := eq_true p349; replace q349 := eq_true q349))
           go_meet
           case rel => exact ⟨_, (decide (((rd_T36 t343 a1).f0) ≤ 0)), (by first | rfl | (simp; done) | (simp [*]; done)), H', ⟨by have := HJ3.out; first | omega | exact Nat.le_refl _⟩, ⟨by (with_reducible repeat (first | apply Kd.R_alloc | apply Kd.R_drewN | apply Kd.R_drew)); exact HO346.out⟩, ⟨by repeat (first | (with_reducible first | exact HB.out | apply below_alloc | apply pw_below_drewN | apply below_drew1) | exact HB.out)⟩⟩
          ·as_aux_lemma =>
           rw [if_neg c24] at H
           have c24b0 : (((rd_T36 t343 a1).f1) == 0) = false := beq_eq_false_iff_ne.mpr c24
           have c24b1 : (((rd_T36 t343 a1).f1) != 0) = true := bne_iff_ne.mpr c24
           have H' := Aside0.mk H
           clear H
           obtain ⟨Ao27, co27, eo27⟩ := Kd.R_slice HO346.out
           subst eo27
           go_wp2_with (first | ((with_reducible refine gate_callee (f := 12) rfl ?_); refine goesL_ (some 53) rfl rfl Try.func12 (by kernel_rfl) rfl #[.slice Ao27 t343.length co27] rfl (by (try simp only [List.map_toArray, List.map_cons, List.map_nil]); first | done | rfl | (simp only [List.length_drop, List.length_take]; rfl)) ?_; (with_reducible refine (fringeref26_Check.calls kj3 _ _ t343 t347 _ ?side1 ?side2 A19.out).mono ?_); (case side1 => repeat (first | exact (Kd.R_reads' HO346.out).2.2 | (with_reducible refine Kd.C_alloc ?_ _) | (with_reducible refine Kd.C_drewN ?_ _) | (with_reducible refine Kd.C_drew ?_))); (case side2 => exact (Kd.R_reads' HO346.out).2.1); rintro e w28 ⟨rfl, hb⟩; refine ⟨_, rfl, ?_⟩; have n0_ := Aside0.mk (Kd.R_below (Rt HO346.out) hb); have n1_ := Aside0.mk (below_step (bl HB.out) hb); clear HO346; clear HB; have HO346 := n0_; have HB := n1_; clear n0_ n1_; (try clear hb); (try clear hb2); (try clear hk); (try clear hi); have p348 : 0 ≤ (a1 : Int) := of_decide_eq_true (by first | (with_reducible assumption) | assumption); have q348 : a1 < (t343.length : Int) := of_decide_eq_true (by first | (with_reducible assumption) | assumption); obtain ⟨ad348, e348, hx348_0, hx348_1, hx348_2⟩ := at_T36 (Kd.R_reads' HO346.out).2.2 a1 p348 q348; cases e348; replace p348 := eq_true p348; replace q348 := eq_true q348))
           go_meet
           case rel => exact ⟨_, (true), (by first | rfl | (simp; done) | (simp [*]; done)), H', ⟨by have := HJ3.out; first | omega | exact Nat.le_refl _⟩, ⟨by (with_reducible repeat (first | apply Kd.R_alloc | apply Kd.R_drewN | apply Kd.R_drew)); exact HO346.out⟩, ⟨by repeat (first | (with_reducible first | exact HB.out | apply below_alloc | apply pw_below_drewN | apply below_drew1) | exact HB.out)⟩⟩
         ·as_aux_lemma =>
          rw [if_neg c23] at H
          exact absurd H (by simp)
        ·as_aux_lemma =>
         rw [if_neg c22] at H
         exact absurd H (by simp)
       ·as_aux_lemma =>
        rw [if_neg c21] at H
        have c21b0 : ((t343.length : Int) == (l0.length : Int)) = false := beq_eq_false_iff_ne.mpr c21
        have c21b1 : ((t343.length : Int) != (l0.length : Int)) = true := bne_iff_ne.mpr c21
        have c21b2 : (t343.length == l0.length) = false := by first | simpa using c21 | (simp at c21 ⊢; omega)
        have H' := Aside0.mk H
        clear H
        obtain ⟨Ao29, co29, eo29⟩ := Kd.R_slice HO346.out
        subst eo29
        go_wp2_with (first | ((with_reducible refine gate_callee (f := 12) rfl ?_); refine goesL_ (some 53) rfl rfl Try.func12 (by kernel_rfl) rfl #[.slice Ao29 t343.length co29] rfl (by (try simp only [List.map_toArray, List.map_cons, List.map_nil]); first | done | rfl | (simp only [List.length_drop, List.length_take]; rfl)) ?_; (with_reducible refine (fringeref26_Check.calls kj3 _ _ t343 t347 _ ?side1 ?side2 A19.out).mono ?_); (case side1 => repeat (first | exact (Kd.R_reads' HO346.out).2.2 | (with_reducible refine Kd.C_alloc ?_ _) | (with_reducible refine Kd.C_drewN ?_ _) | (with_reducible refine Kd.C_drew ?_))); (case side2 => exact (Kd.R_reads' HO346.out).2.1); rintro e w30 ⟨rfl, hb⟩; refine ⟨_, rfl, ?_⟩; have n0_ := Aside0.mk (Kd.R_below (Rt HO346.out) hb); have n1_ := Aside0.mk (below_step (bl HB.out) hb); clear HO346; clear HB; have HO346 := n0_; have HB := n1_; clear n0_ n1_; (try clear hb); (try clear hb2); (try clear hk); (try clear hi)))
        go_meet
        case rel => exact ⟨_, (true), (by first | rfl | (simp; done) | (simp [*]; done)), H', ⟨by have := HJ3.out; first | omega | exact Nat.le_refl _⟩, ⟨by (with_reducible repeat (first | apply Kd.R_alloc | apply Kd.R_drewN | apply Kd.R_drew)); exact HO346.out⟩, ⟨by repeat (first | (with_reducible first | exact HB.out | apply below_alloc | apply pw_below_drewN | apply below_drew1) | exact HB.out)⟩⟩
      ·as_aux_lemma =>
       rw [if_neg c20] at H
       have c20b0 : (t347 == 0) = false := beq_eq_false_iff_ne.mpr c20
       have c20b1 : (t347 != 0) = true := bne_iff_ne.mpr c20
       (first | rw [c20b0] | (simp only [i64_w, i32_w]; rw [c20b0]) | skip)
       have H' := Aside0.mk H
       clear H
       obtain ⟨Ao31, co31, eo31⟩ := Kd.R_slice HO346.out
       subst eo31
       go_wp2_with (first | ((with_reducible refine gate_callee (f := 12) rfl ?_); refine goesL_ (some 53) rfl rfl Try.func12 (by kernel_rfl) rfl #[.slice Ao31 t343.length co31] rfl (by (try simp only [List.map_toArray, List.map_cons, List.map_nil]); first | done | rfl | (simp only [List.length_drop, List.length_take]; rfl)) ?_; (with_reducible refine (fringeref26_Check.calls kj3 _ _ t343 t347 _ ?side1 ?side2 A19.out).mono ?_); (case side1 => repeat (first | exact (Kd.R_reads' HO346.out).2.2 | (with_reducible refine Kd.C_alloc ?_ _) | (with_reducible refine Kd.C_drewN ?_ _) | (with_reducible refine Kd.C_drew ?_))); (case side2 => exact (Kd.R_reads' HO346.out).2.1); rintro e w32 ⟨rfl, hb⟩; refine ⟨_, rfl, ?_⟩; have n0_ := Aside0.mk (Kd.R_below (Rt HO346.out) hb); have n1_ := Aside0.mk (below_step (bl HB.out) hb); clear HO346; clear HB; have HO346 := n0_; have HB := n1_; clear n0_ n1_; (try clear hb); (try clear hb2); (try clear hk); (try clear hi)))
       go_meet
       case rel => exact ⟨_, (true), (by first | rfl | (simp; done) | (simp [*]; done)), H', ⟨by have := HJ3.out; first | omega | exact Nat.le_refl _⟩, ⟨by (with_reducible repeat (first | apply Kd.R_alloc | apply Kd.R_drewN | apply Kd.R_drew)); exact HO346.out⟩, ⟨by repeat (first | (with_reducible first | exact HB.out | apply below_alloc | apply pw_below_drewN | apply below_drew1) | exact HB.out)⟩⟩
     case rest =>
      as_aux_lemma =>
      clear HC17
      (try clear c1); (try clear c2); (try clear p2); (try clear p3); (try clear q3); (try clear hx3); (try clear c6); (try clear c7); (try clear c7b0); (try clear c7b1); (try clear c8); (try clear c8b0)
      (try clear c10); (try clear c10b0); (try clear c12); (try clear c14); (try clear c16); (try clear c16b0); (try clear c16b1); (try clear c20); (try clear c20b0); (try clear c20b1); (try clear c21); (try clear c21b0)
      (try clear c21b1); (try clear c21b2); (try clear c22); (try clear c22b0); (try clear c23); (try clear c23b0); (try clear c24); (try clear c24b0); (try clear c24b1); (try clear hx348_0); (try clear hx348_1); (try clear hx348_2)
      (try clear hx349_0); (try clear hx349_1); (try clear hx349_2); (try clear p2); (try clear p348); (try clear p349); (try clear q348); (try clear q349)
      obtain ⟨kq, x77_16, rfl, HA, HJ16, HO_6, HB⟩ := hcut
      cases kq with
      | zero => exact absurd HA.out (by simp [fringelaw26_GainRefer.j1])
      | succ kj16 =>
       have H := HA.out
       clear HA
       simp only [fringelaw26_GainRefer.j1] at H
       by_cases c33 : x77_16 = true
       ·as_aux_lemma =>
        subst c33
        rw [if_pos rfl] at H
        exact absurd H (by simp)
       ·as_aux_lemma =>
        replace c33 := Bool.eq_false_iff.mpr c33
        subst c33
        rw [if_neg (show ¬ (false = true) by decide)] at H
        have H' := Aside0.mk H
        clear H
        go_wp2
        go_loopg [8] kj16 (fun kq v8 w' => ∃ (x8_3 : Int), v8 = .int .i64 x8_3 ∧ Aside0 (fringelaw26_GainRefer.l0 kq l0 a1 t341 t343 x8_3 = some true) ∧ Aside0 (kq ≤ kj16) ∧ Aside0 (Kd.R k36 36 w' w.heap.size (fun _ => True) v345 t343) ∧ Aside0 (Below w.heap.size w w'))
        case atStart => exact ⟨(0), (by first | rfl | (simp; done) | (simp [*]; done)), H', ⟨Nat.le_refl _⟩, ⟨by (with_reducible repeat (first | apply Kd.R_alloc | apply Kd.R_drewN | apply Kd.R_drew)); exact HO_6.out⟩, ⟨by repeat (first | (with_reducible first | exact HB.out | apply below_alloc | apply pw_below_drewN | apply below_drew1) | exact HB.out)⟩⟩
        case round =>
         as_aux_lemma =>
         clear H'
         (try clear c1); (try clear c2); (try clear p2); (try clear c3); (try clear p3); (try clear q3); (try clear hx3); (try clear c6); (try clear c7); (try clear c7b0); (try clear c7b1); (try clear c8)
         (try clear c8b0); (try clear c10); (try clear c10b0); (try clear c12); (try clear c14); (try clear c16); (try clear c16b0); (try clear c16b1); (try clear c20); (try clear c20b0); (try clear c20b1); (try clear c21)
         (try clear c21b0); (try clear c21b1); (try clear c21b2); (try clear c22); (try clear c22b0); (try clear c23); (try clear c23b0); (try clear c24); (try clear c24b0); (try clear c24b1); (try clear c33); (try clear hx348_0)
         (try clear hx348_1); (try clear hx348_2); (try clear hx349_0); (try clear hx349_1); (try clear hx349_2); (try clear p2); (try clear p3); (try clear p348); (try clear p349); (try clear q3); (try clear q348); (try clear q349)
         obtain ⟨x8_3, rfl, HA, HK3, HO_6, HB⟩ := hrel
         cases gk with
         | zero => exact absurd HA.out (by simp [fringelaw26_GainRefer.l0])
         | succ k3 =>
          have H := HA.out
          clear HA
          simp only [fringelaw26_GainRefer.l0] at H
          by_cases c34 : x8_3 < (l0.length : Int)
          ·as_aux_lemma =>
           rw [if_pos c34] at H
           have c34b0 : decide (x8_3 < (l0.length : Int)) = true := decide_eq_true c34
           clear c34
           by_cases c35 : 0 ≤ x8_3
           ·as_aux_lemma =>
            rw [if_pos c35] at H
            have c35b0 : decide (0 ≤ x8_3) = true := decide_eq_true c35
            clear c35
            by_cases c36 : x8_3 < (t343.length : Int)
            ·as_aux_lemma =>
             rw [if_pos c36] at H
             have c36b0 : decide (x8_3 < (t343.length : Int)) = true := decide_eq_true c36
             clear c36
             by_cases c37 : 0 ≤ a1
             ·as_aux_lemma =>
              rw [if_pos c37] at H
              have c37b0 : decide (0 ≤ a1) = true := decide_eq_true c37
              clear c37
              by_cases c38 : a1 < (l0.length : Int)
              ·as_aux_lemma =>
               rw [if_pos c38] at H
               have c38b0 : decide (a1 < (l0.length : Int)) = true := decide_eq_true c38
               clear c38
               replace H := Option.bind_eq_some_iff.mp H
               obtain ⟨⟨t352, t353, t354, t355⟩, A390, H⟩ := H
               (try dsimp only at H)
               have A39 := Aside0.mk A390
               clear A390
               by_cases c40 : a1 < (t343.length : Int)
               ·as_aux_lemma =>
                rw [if_pos c40] at H
                have c40b0 : decide (a1 < (t343.length : Int)) = true := decide_eq_true c40
                clear c40
                replace H := Option.bind_eq_some_iff.mp H
                obtain ⟨⟨t359, t360, t361, t362⟩, A410, H⟩ := H
                (try dsimp only at H)
                have A41 := Aside0.mk A410
                clear A410
                by_cases c42 : t355 = 0
                ·as_aux_lemma =>
                 rw [if_pos c42] at H
                 have c42b0 : (t355 == 0) = true := beq_iff_eq.mpr c42
                 have c42b1 : (t355 != 0) = false := bne_eq_false_iff_eq.mpr c42
                 clear c42
                 by_cases c43 : t362 = 0
                 ·as_aux_lemma =>
                  rw [if_pos c43] at H
                  have c43b0 : (t362 == 0) = true := beq_iff_eq.mpr c43
                  have c43b1 : (t362 != 0) = false := bne_eq_false_iff_eq.mpr c43
                  clear c43
                  by_cases c44 : (!(t352 == t359) || (!(t353 == t360) || (!(t354 == t361)))) = true
                  ·as_aux_lemma =>
                   rw [if_pos c44] at H
                   have c44b0 : (!(t352 == t359) || (!(t353 == t360) || (!(t354 == t361)))) = true := c44
                   clear c44
                   exact absurd H (by simp)
                  ·as_aux_lemma =>
                   rw [if_neg c44] at H
                   have c44b0 : (!(t352 == t359) || (!(t353 == t360) || (!(t354 == t361)))) = false := by simpa using c44
                   clear c44
                   have H' := Aside0.mk H
                   clear H
                   try go_wp2
                   have n0_ := Aside0.mk (Kd.R_drew HO_6.out)
                   have n1_ := Aside0.mk (below_drew1 HB.out)
                   clear HO_6
                   clear HB
                   have HO_6 := n0_
                   have HB := n1_
                   clear n0_ n1_
                   obtain ⟨Ao46, co46, eo46⟩ := Kd.R_slice HO_6.out
                   (first | subst eo46 | (injection eo46 with f1_ f2_ f3_; have f4_ := f1_.symm; have f5_ := f3_.symm; clear f1_ f2_ f3_; subst f4_; subst f5_))
                   have p350 : 0 ≤ (x8_3 : Int) := of_decide_eq_true (by first | (with_reducible assumption) | assumption)
                   have q350 : x8_3 < (t343.length : Int) := of_decide_eq_true (by first | (with_reducible assumption) | assumption)
                   obtain ⟨ad350, e350, hx350_0, hx350_1, hx350_2⟩ := at_T36 (Kd.R_reads' HO_6.out).2.2 x8_3 p350 q350
                   cases e350
                   replace p350 := eq_true p350
                   replace q350 := eq_true q350
                   have p351 : 0 ≤ (a1 : Int) := of_decide_eq_true (by first | (with_reducible assumption) | assumption)
                   have q351 : a1 < (l0.length : Int) := of_decide_eq_true (by first | (with_reducible assumption) | assumption)
                   obtain ⟨ad351, e351, hx351_0, hx351_1, hx351_2⟩ := at_T36 HR0.out a1 p351 q351
                   have hw351_2 := hx351_2
                   have hw351_1 := hx351_1
                   have hw351_0 := hx351_0
                   cases e351
                   replace hx351_0 := (HB.out.cell (World.block_lt_of_cell? w _ hx351_0)).trans hx351_0
                   replace hx351_1 := (HB.out.cell (World.block_lt_of_cell? w _ hx351_1)).trans hx351_1
                   replace hx351_2 := (HB.out.cell (World.block_lt_of_cell? w _ hx351_2)).trans hx351_2
                   replace p351 := eq_true p351
                   replace q351 := eq_true q351
                   refine start_ (n := 15) (S := fun w' => w'.cell? (ad350.add ((x8_3).toNat * 3)) = some (.int .i64 ((rd_T36 t343 x8_3).f0)) ∧ w'.cell? ⟨(ad350.add ((x8_3).toNat * 3)).block, (ad350.add ((x8_3).toNat * 3)).off + 1, none⟩ = some (.int .i64 ((rd_T36 t343 x8_3).f1)) ∧ w'.cell? ⟨(ad350.add ((x8_3).toNat * 3)).block, (ad350.add ((x8_3).toNat * 3)).off + 2, none⟩ = some (.int .i64 ((rd_T36 t343 x8_3).f2)) ∧ w'.cell? (ad351.add ((a1).toNat * 3)) = some (.int .i64 ((rd_T36 l0 a1).f0)) ∧ w'.cell? ⟨(ad351.add ((a1).toNat * 3)).block, (ad351.add ((a1).toNat * 3)).off + 1, none⟩ = some (.int .i64 ((rd_T36 l0 a1).f1)) ∧ w'.cell? ⟨(ad351.add ((a1).toNat * 3)).block, (ad351.add ((a1).toNat * 3)).off + 2, none⟩ = some (.int .i64 ((rd_T36 l0 a1).f2))) (ds := []) #[false, false, false, false, false, false, false, false, false, false, false, false, false, false, false] (by kernel_rfl) rfl rfl ⟨hx350_0, hx350_1, hx350_2, ((HB.out.cell (World.block_lt_of_cell? w _ hw351_0)).trans hw351_0), ((HB.out.cell (World.block_lt_of_cell? w _ hw351_1)).trans hw351_1), ((HB.out.cell (World.block_lt_of_cell? w _ hw351_2)).trans hw351_2)⟩ (fun hHeld => ?_); refine with_tabW fringelaw26_GainRefer.tab12 fringelaw26_GainRefer.bits12 (fun HT_ HW_ => ?_)
                   generalize wr.drew = w45 at HO_6 HB hx350_0 hx350_1 hx350_2 hx351_0 hx351_1 hx351_2 hHeld ⊢
                   refine pure_ (i := 0) (N := some 85) (v := ?_) (a' := ?_) #[true, false, false, false, false, false, false, false, false, false, false, false, false, false, false] rfl rfl (any_of HT_.out (by kernel_rfl)) (fun _ _ _ h => h) (Or.inl ⟨by rfl, ?_⟩) ?_ ?_
                   rotate_left
                   ·as_aux_lemma =>
                    intro w'
                    go_simp
                    with_reducible rfl
                   rotate_left
                   ·as_aux_lemma =>
                    simp only [Act.put, List.setIfInBounds_toArray, List.set_cons_zero, List.set_cons_succ, i64_w, i32_w]
                    rfl
                   refine pure_ (i := 1) (N := some 86) (v := ?_) (a' := ?_) #[true, true, false, false, false, false, false, false, false, false, false, false, false, false, false] rfl rfl (any_of HT_.out (by kernel_rfl)) (fun _ _ _ h => h) (Or.inl ⟨by rfl, ?_⟩) ?_ ?_
                   rotate_left
                   ·as_aux_lemma =>
                    intro w'
                    go_simp
                    with_reducible rfl
                   rotate_left
                   ·as_aux_lemma =>
                    simp only [Act.put, List.setIfInBounds_toArray, List.set_cons_zero, List.set_cons_succ, i64_w, i32_w]
                    rfl
                   refine pure_ (i := 2) (N := some 87) (v := ?_) (a' := ?_) #[true, true, true, false, false, false, false, false, false, false, false, false, false, false, false] rfl rfl (any_of HT_.out (by kernel_rfl)) (fun _ _ _ h => h) (Or.inl ⟨by rfl, ?_⟩) ?_ ?_
                   rotate_left
                   ·as_aux_lemma =>
                    intro w'
                    go_simp
                    with_reducible rfl
                   rotate_left
                   ·as_aux_lemma =>
                    simp only [Act.put, List.setIfInBounds_toArray, List.set_cons_zero, List.set_cons_succ, i64_w, i32_w]
                    rfl
                   refine pure_ (i := 4) (N := some 89) (v := ?_) (a' := ?_) #[true, true, true, false, true, false, false, false, false, false, false, false, false, false, false] rfl rfl (any_of HT_.out (by kernel_rfl)) (fun _ _ _ h => h) (Or.inl ⟨by rfl, ?_⟩) ?_ ?_
                   rotate_left
                   ·as_aux_lemma =>
                    intro w'
                    go_simp
                    with_reducible rfl
                   rotate_left
                   ·as_aux_lemma =>
                    simp only [Act.put, List.setIfInBounds_toArray, List.set_cons_zero, List.set_cons_succ, i64_w, i32_w]
                    rfl
                   refine pure_ (i := 5) (N := some 90) (v := ?_) (a' := ?_) #[true, true, true, false, true, true, false, false, false, false, false, false, false, false, false] rfl rfl (any_of HT_.out (by kernel_rfl)) (fun _ _ _ h => h) (Or.inl ⟨by rfl, ?_⟩) ?_ ?_
                   rotate_left
                   ·as_aux_lemma =>
                    intro w'
                    go_simp
                    with_reducible rfl
                   rotate_left
                   ·as_aux_lemma =>
                    simp only [Act.put, List.setIfInBounds_toArray, List.set_cons_zero, List.set_cons_succ, i64_w, i32_w]
                    rfl
                   refine pure_ (i := 6) (N := some 91) (v := ?_) (a' := ?_) #[true, true, true, false, true, true, true, false, false, false, false, false, false, false, false] rfl rfl (any_of HT_.out (by kernel_rfl)) (fun _ _ _ h => h) (Or.inl ⟨by rfl, ?_⟩) ?_ ?_
                   rotate_left
                   ·as_aux_lemma =>
                    intro w'
                    go_simp
                    with_reducible rfl
                   rotate_left
                   ·as_aux_lemma =>
                    simp only [Act.put, List.setIfInBounds_toArray, List.set_cons_zero, List.set_cons_succ, i64_w, i32_w]
                    rfl
                   refine take_ (i := 3) (N := some 88) (v := ?_) (a' := ?_) #[true, true, true, true, true, true, true, false, false, false, false, false, false, false, false] rfl rfl (take_ofW HT_.out HW_.out (by kernel_rfl)) (fun _ _ _ h => h) (Or.inl ⟨by rfl, ?_⟩) hHeld ?_ ?_
                   rotate_left
                   ·as_aux_lemma =>
                    rintro w' ⟨s0, s1, s2, s3, s4, s5⟩
                    go_simp
                    with_reducible rfl
                   rotate_left
                   ·as_aux_lemma =>
                    simp only [Act.put, List.setIfInBounds_toArray, List.set_cons_zero, List.set_cons_succ, i64_w, i32_w]
                    rfl
                   refine take_ (i := 7) (N := some 92) (v := ?_) (a' := ?_) #[true, true, true, true, true, true, true, true, false, false, false, false, false, false, false] rfl rfl (take_ofW HT_.out HW_.out (by kernel_rfl)) (fun _ _ _ h => h) (Or.inl ⟨by rfl, ?_⟩) hHeld ?_ ?_
                   rotate_left
                   ·as_aux_lemma =>
                    rintro w' ⟨s0, s1, s2, s3, s4, s5⟩
                    go_simp
                    with_reducible rfl
                   rotate_left
                   ·as_aux_lemma =>
                    simp only [Act.put, List.setIfInBounds_toArray, List.set_cons_zero, List.set_cons_succ, i64_w, i32_w]
                    rfl
                   refine join_ (σ := Nat) 2 #[true, true, true, true, true, true, true, true, true, true, true, true, true, false, false] (fun s_ => [(93, .tuple #[.agg #[.int .i64 t352, .int .i64 t353, .int .i64 t354], .int .i64 t355]), (9, .pointer (some ⟨s_, 0, none⟩)), (84, .tuple #[.agg #[.int .i64 t352, .int .i64 t353, .int .i64 t354], .int .i64 t355]), (94, .agg #[.int .i64 t352, .int .i64 t353, .int .i64 t354]), (95, .int .i64 t355)]) (fun s_ w' => (w'.cell? (ad350.add ((x8_3).toNat * 3)) = some (.int .i64 ((rd_T36 t343 x8_3).f0)) ∧ w'.cell? ⟨(ad350.add ((x8_3).toNat * 3)).block, (ad350.add ((x8_3).toNat * 3)).off + 1, none⟩ = some (.int .i64 ((rd_T36 t343 x8_3).f1)) ∧ w'.cell? ⟨(ad350.add ((x8_3).toNat * 3)).block, (ad350.add ((x8_3).toNat * 3)).off + 2, none⟩ = some (.int .i64 ((rd_T36 t343 x8_3).f2)) ∧ w'.cell? (ad351.add ((a1).toNat * 3)) = some (.int .i64 ((rd_T36 l0 a1).f0)) ∧ w'.cell? ⟨(ad351.add ((a1).toNat * 3)).block, (ad351.add ((a1).toNat * 3)).off + 1, none⟩ = some (.int .i64 ((rd_T36 l0 a1).f1)) ∧ w'.cell? ⟨(ad351.add ((a1).toNat * 3)).block, (ad351.add ((a1).toNat * 3)).off + 2, none⟩ = some (.int .i64 ((rd_T36 l0 a1).f2))) ∧ (Kd.R k36 36 w' w.heap.size (fun k_ => k_ ≠ s_) (.slice (some ad350) t343.length co46) t343) ∧ (w'.heap[s_]? = some (.cells #[.int .i64 0, .int .i64 0, .int .i64 0] 36 (0, 0))) ∧ (w.heap.size ≤ s_) ∧ (w.heap.size ≤ s_) ∧ (Below w.heap.size w w')) ?_ ?_
                   rotate_left
                   ·as_aux_lemma =>
                    intro hCont
                    refine two_ (i := 8) (j := 12) (Ni := some 93) (Nj := some 9) #[true, true, true, true, true, true, true, true, true, false, false, false, false, false, false] #[true, true, true, true, true, true, true, true, false, false, false, false, true, false, false] rfl rfl rfl rfl (two_of HT_.out (by kernel_rfl)) (by decide) (by decide) (fun K hK => ?_) (fun K hK => ?_)
                    ·as_aux_lemma =>
                     skip
                     refine goes_ Try.func23 (by kernel_rfl) rfl #[.agg #[.int .i64 ((rd_T36 t343 x8_3).f0), .int .i64 ((rd_T36 t343 x8_3).f1), .int .i64 ((rd_T36 t343 x8_3).f2)], .agg #[.int .i64 ((rd_T36 l0 a1).f0), .int .i64 ((rd_T36 l0 a1).f1), .int .i64 ((rd_T36 l0 a1).f2)]] (by rfl) rfl rfl (by (try simp only [List.map_toArray, List.map_cons, List.map_nil]); first | done | rfl | (simp only [List.length_drop, List.length_take]; rfl)) ?_
                     with_reducible refine (fringeref25_Mul.calls k3 ((rd_T36 t343 x8_3).f0) ((rd_T36 t343 x8_3).f1) ((rd_T36 t343 x8_3).f2) ((rd_T36 l0 a1).f0) ((rd_T36 l0 a1).f1) ((rd_T36 l0 a1).f2) t352 t353 t354 t355 _ A39.out).mono ?_
                     rintro e w47 ⟨rfl, hb⟩
                     have HS0_ := (hb.cell (World.block_lt_of_cell? _ _ (hHeld.1))).trans (hHeld.1)
                     have HS1_ := (hb.cell (World.block_lt_of_cell? _ _ (hHeld.2.1))).trans (hHeld.2.1)
                     have HS2_ := (hb.cell (World.block_lt_of_cell? _ _ (hHeld.2.2.1))).trans (hHeld.2.2.1)
                     refine ⟨_, rfl, ?_⟩
                     have n0_ := Aside0.mk (Kd.R_below (Rt HO_6.out) hb)
                     have n1_ := Aside0.mk (below_step (bl HB.out) hb)
                     clear HO_6
                     clear HB
                     have HO_6 := n0_
                     have HB := n1_
                     clear n0_ n1_
                     (try clear hb)
                     (try clear hb2)
                     (try clear hk)
                     (try clear hi)
                     refine hK.out _ _ ⟨HS0_, HS1_, HS2_, ((HB.out.cell (World.block_lt_of_cell? w _ hw351_0)).trans hw351_0), ((HB.out.cell (World.block_lt_of_cell? w _ hw351_1)).trans hw351_1), ((HB.out.cell (World.block_lt_of_cell? w _ hw351_2)).trans hw351_2)⟩ (fun hHeld => ?_)
                     clear hK K
                     refine norm_ (a' := ?_) ?_ ?_
                     rotate_left
                     ·as_aux_lemma =>
                      show Act.put _ (some 93) _ = _
                      simp only [Act.put, List.setIfInBounds_toArray, List.set_cons_zero, List.set_cons_succ, i64_w, i32_w]
                      rfl
                     refine pure_ (i := 9) (N := some 84) (v := ?_) (a' := ?_) #[true, true, true, true, true, true, true, true, true, true, false, false, false, false, false] rfl rfl (any_of HT_.out (by kernel_rfl)) (fun _ _ _ h => h) (Or.inl ⟨by rfl, ?_⟩) ?_ ?_
                     rotate_left
                     ·as_aux_lemma =>
                      intro w'
                      go_simp
                      with_reducible rfl
                     rotate_left
                     ·as_aux_lemma =>
                      simp only [Act.put, List.setIfInBounds_toArray, List.set_cons_zero, List.set_cons_succ, i64_w, i32_w]
                      rfl
                     refine pure_ (i := 10) (N := some 94) (v := ?_) (a' := ?_) #[true, true, true, true, true, true, true, true, true, true, true, false, false, false, false] rfl rfl (any_of HT_.out (by kernel_rfl)) (fun _ _ _ h => h) (Or.inl ⟨by rfl, ?_⟩) ?_ ?_
                     rotate_left
                     ·as_aux_lemma =>
                      intro w'
                      go_simp
                      with_reducible rfl
                     rotate_left
                     ·as_aux_lemma =>
                      simp only [Act.put, List.setIfInBounds_toArray, List.set_cons_zero, List.set_cons_succ, i64_w, i32_w]
                      rfl
                     refine pure_ (i := 11) (N := some 95) (v := ?_) (a' := ?_) #[true, true, true, true, true, true, true, true, true, true, true, true, false, false, false] rfl rfl (any_of HT_.out (by kernel_rfl)) (fun _ _ _ h => h) (Or.inl ⟨by rfl, ?_⟩) ?_ ?_
                     rotate_left
                     ·as_aux_lemma =>
                      intro w'
                      go_simp
                      with_reducible rfl
                     rotate_left
                     ·as_aux_lemma =>
                      simp only [Act.put, List.setIfInBounds_toArray, List.set_cons_zero, List.set_cons_succ, i64_w, i32_w]
                      rfl
                     refine one_ (i := 12) (N := some 9) #[true, true, true, true, true, true, true, true, true, true, true, true, true, false, false] rfl rfl (one_of HT_.out (by kernel_rfl)) (by decide) (fun K hK => ?_)
                     refine box_step ?hg (N := 9) ?hd (cs := #[.int .i64 0, .int .i64 0, .int .i64 0]) (t := 36) ?hr ?_; (case hd => rfl); (case hg => rfl); (case hr => first | (go_simp; done) | (go_simp; rfl))
                     intro gb356 hg w48 hbox hb
                     have HS0_ := (hb.cell (World.block_lt_of_cell? _ _ (hHeld.1))).trans (hHeld.1)
                     have HS1_ := (hb.cell (World.block_lt_of_cell? _ _ (hHeld.2.1))).trans (hHeld.2.1)
                     have HS2_ := (hb.cell (World.block_lt_of_cell? _ _ (hHeld.2.2.1))).trans (hHeld.2.2.1)
                     have n0_ := Aside0.mk (Kd.R_below (Kd.R_elderB (Rt HO_6.out) gb356 (Nat.le_of_eq hg.symm)) hb)
                     have n1_ := Aside0.mk (below_step (bl HB.out) hb)
                     have n2_ := Aside0.mk (hbox)
                     have n3_ := Aside0.mk ((by rw [hg]; exact (below_size (bl HB.out)) : w.heap.size ≤ gb356))
                     have n4_ := Aside0.mk ((by rw [hg]; exact (below_size (bl HB.out)) : w.heap.size ≤ gb356))
                     clear HO_6
                     clear HB
                     have HO_6 := n0_
                     have HB := n1_
                     have BK356 := n2_
                     have GW356 := n3_
                     have GE356 := n4_
                     clear n0_ n1_ n2_ n3_ n4_
                     clear hb hbox hg
                     refine hK.out _ _ ⟨HS0_, HS1_, HS2_, ((HB.out.cell (World.block_lt_of_cell? w _ hw351_0)).trans hw351_0), ((HB.out.cell (World.block_lt_of_cell? w _ hw351_1)).trans hw351_1), ((HB.out.cell (World.block_lt_of_cell? w _ hw351_2)).trans hw351_2)⟩ (fun hHeld => ?_)
                     clear hK K
                     refine norm_ (a' := ?_) ?_ ?_
                     rotate_left
                     ·as_aux_lemma =>
                      show Act.put _ (some 9) _ = _
                      simp only [Act.put, List.setIfInBounds_toArray, List.set_cons_zero, List.set_cons_succ, i64_w, i32_w]
                      rfl
                     exact norm_ (by simp only [putAll, Act.put, List.setIfInBounds_toArray, List.set_cons_zero, List.set_cons_succ]) (hCont (gb356) _ ⟨hHeld, (by (with_reducible repeat (first | apply Kd.R_alloc | apply Kd.R_drewN | apply Kd.R_drew)); exact Kd.R_mono HO_6.out (fun _ hk => hk.2)), (bt BK356.out), GW356.out, GE356.out, (bl HB.out)⟩)
                    ·as_aux_lemma =>
                     skip
                     refine box_step ?hg (N := 9) ?hd (cs := #[.int .i64 0, .int .i64 0, .int .i64 0]) (t := 36) ?hr ?_; (case hd => rfl); (case hg => rfl); (case hr => first | (go_simp; done) | (go_simp; rfl))
                     intro gb356 hg w47 hbox hb
                     have HS0_ := (hb.cell (World.block_lt_of_cell? _ _ (hHeld.1))).trans (hHeld.1)
                     have HS1_ := (hb.cell (World.block_lt_of_cell? _ _ (hHeld.2.1))).trans (hHeld.2.1)
                     have HS2_ := (hb.cell (World.block_lt_of_cell? _ _ (hHeld.2.2.1))).trans (hHeld.2.2.1)
                     have n0_ := Aside0.mk (Kd.R_below (Kd.R_elderB (Rt HO_6.out) gb356 (Nat.le_of_eq hg.symm)) hb)
                     have n1_ := Aside0.mk (below_step (bl HB.out) hb)
                     have n2_ := Aside0.mk (hbox)
                     have n3_ := Aside0.mk ((by rw [hg]; exact (below_size (bl HB.out)) : w.heap.size ≤ gb356))
                     have n4_ := Aside0.mk ((by rw [hg]; exact (below_size (bl HB.out)) : w.heap.size ≤ gb356))
                     clear HO_6
                     clear HB
                     have HO_6 := n0_
                     have HB := n1_
                     have BK356 := n2_
                     have GW356 := n3_
                     have GE356 := n4_
                     clear n0_ n1_ n2_ n3_ n4_
                     clear hb hbox hg
                     refine hK.out _ _ ⟨HS0_, HS1_, HS2_, ((HB.out.cell (World.block_lt_of_cell? w _ hw351_0)).trans hw351_0), ((HB.out.cell (World.block_lt_of_cell? w _ hw351_1)).trans hw351_1), ((HB.out.cell (World.block_lt_of_cell? w _ hw351_2)).trans hw351_2)⟩ (fun hHeld => ?_)
                     clear hK K
                     refine norm_ (a' := ?_) ?_ ?_
                     rotate_left
                     ·as_aux_lemma =>
                      show Act.put _ (some 9) _ = _
                      simp only [Act.put, List.setIfInBounds_toArray, List.set_cons_zero, List.set_cons_succ, i64_w, i32_w]
                      rfl
                     refine one_ (i := 8) (N := some 93) #[true, true, true, true, true, true, true, true, true, false, false, false, true, false, false] rfl rfl (one_of HT_.out (by kernel_rfl)) (by decide) (fun K hK => ?_)
                     refine goes_ Try.func23 (by kernel_rfl) rfl #[.agg #[.int .i64 ((rd_T36 t343 x8_3).f0), .int .i64 ((rd_T36 t343 x8_3).f1), .int .i64 ((rd_T36 t343 x8_3).f2)], .agg #[.int .i64 ((rd_T36 l0 a1).f0), .int .i64 ((rd_T36 l0 a1).f1), .int .i64 ((rd_T36 l0 a1).f2)]] (by rfl) rfl rfl (by (try simp only [List.map_toArray, List.map_cons, List.map_nil]); first | done | rfl | (simp only [List.length_drop, List.length_take]; rfl)) ?_
                     with_reducible refine (fringeref25_Mul.calls k3 ((rd_T36 t343 x8_3).f0) ((rd_T36 t343 x8_3).f1) ((rd_T36 t343 x8_3).f2) ((rd_T36 l0 a1).f0) ((rd_T36 l0 a1).f1) ((rd_T36 l0 a1).f2) t352 t353 t354 t355 _ A39.out).mono ?_
                     rintro e w48 ⟨rfl, hb⟩
                     have HS0_ := (hb.cell (World.block_lt_of_cell? _ _ (hHeld.1))).trans (hHeld.1)
                     have HS1_ := (hb.cell (World.block_lt_of_cell? _ _ (hHeld.2.1))).trans (hHeld.2.1)
                     have HS2_ := (hb.cell (World.block_lt_of_cell? _ _ (hHeld.2.2.1))).trans (hHeld.2.2.1)
                     refine ⟨_, rfl, ?_⟩
                     have n0_ := Aside0.mk (Kd.R_below (Rt HO_6.out) hb)
                     have n1_ := Aside0.mk (blk_below (g := gb356) (o := .cells #[.int .i64 0, .int .i64 0, .int .i64 0] 36 (0, 0)) (bt BK356.out) hb)
                     have n2_ := Aside0.mk (below_step (bl HB.out) hb)
                     clear HO_6
                     clear BK356
                     clear HB
                     have HO_6 := n0_
                     have BK356 := n1_
                     have HB := n2_
                     clear n0_ n1_ n2_
                     (try clear hb)
                     (try clear hb2)
                     (try clear hk)
                     (try clear hi)
                     refine hK.out _ _ ⟨HS0_, HS1_, HS2_, ((HB.out.cell (World.block_lt_of_cell? w _ hw351_0)).trans hw351_0), ((HB.out.cell (World.block_lt_of_cell? w _ hw351_1)).trans hw351_1), ((HB.out.cell (World.block_lt_of_cell? w _ hw351_2)).trans hw351_2)⟩ (fun hHeld => ?_)
                     clear hK K
                     refine norm_ (a' := ?_) ?_ ?_
                     rotate_left
                     ·as_aux_lemma =>
                      show Act.put _ (some 93) _ = _
                      simp only [Act.put, List.setIfInBounds_toArray, List.set_cons_zero, List.set_cons_succ, i64_w, i32_w]
                      rfl
                     refine pure_ (i := 9) (N := some 84) (v := ?_) (a' := ?_) #[true, true, true, true, true, true, true, true, true, true, false, false, true, false, false] rfl rfl (any_of HT_.out (by kernel_rfl)) (fun _ _ _ h => h) (Or.inl ⟨by rfl, ?_⟩) ?_ ?_
                     rotate_left
                     ·as_aux_lemma =>
                      intro w'
                      go_simp
                      with_reducible rfl
                     rotate_left
                     ·as_aux_lemma =>
                      simp only [Act.put, List.setIfInBounds_toArray, List.set_cons_zero, List.set_cons_succ, i64_w, i32_w]
                      rfl
                     refine pure_ (i := 10) (N := some 94) (v := ?_) (a' := ?_) #[true, true, true, true, true, true, true, true, true, true, true, false, true, false, false] rfl rfl (any_of HT_.out (by kernel_rfl)) (fun _ _ _ h => h) (Or.inl ⟨by rfl, ?_⟩) ?_ ?_
                     rotate_left
                     ·as_aux_lemma =>
                      intro w'
                      go_simp
                      with_reducible rfl
                     rotate_left
                     ·as_aux_lemma =>
                      simp only [Act.put, List.setIfInBounds_toArray, List.set_cons_zero, List.set_cons_succ, i64_w, i32_w]
                      rfl
                     refine pure_ (i := 11) (N := some 95) (v := ?_) (a' := ?_) #[true, true, true, true, true, true, true, true, true, true, true, true, true, false, false] rfl rfl (any_of HT_.out (by kernel_rfl)) (fun _ _ _ h => h) (Or.inl ⟨by rfl, ?_⟩) ?_ ?_
                     rotate_left
                     ·as_aux_lemma =>
                      intro w'
                      go_simp
                      with_reducible rfl
                     rotate_left
                     ·as_aux_lemma =>
                      simp only [Act.put, List.setIfInBounds_toArray, List.set_cons_zero, List.set_cons_succ, i64_w, i32_w]
                      rfl
                     exact norm_ (by simp only [putAll, Act.put, List.setIfInBounds_toArray, List.set_cons_zero, List.set_cons_succ]) (hCont (gb356) _ ⟨hHeld, (by (with_reducible repeat (first | apply Kd.R_alloc | apply Kd.R_drewN | apply Kd.R_drew)); exact Kd.R_mono HO_6.out (fun _ hk => hk.2)), (bt BK356.out), GW356.out, GE356.out, (bl HB.out)⟩)
                   rintro gb356 w49 ⟨hS_, h0_, h1_, h2_, h3_, h4_⟩
                   have n0_ : Aside0 (Kd.R k36 36 w49 w.heap.size (fun k_ => k_ ≠ gb356) (.slice (some ad350) t343.length co46) t343) := ⟨h0_⟩
                   have n1_ : Aside0 (w49.heap[gb356]? = some (.cells #[.int .i64 0, .int .i64 0, .int .i64 0] 36 (0, 0))) := ⟨h1_⟩
                   have n2_ : Aside0 (w.heap.size ≤ gb356) := ⟨h2_⟩
                   have n3_ : Aside0 (w.heap.size ≤ gb356) := ⟨h3_⟩
                   have n4_ : Aside0 (Below w.heap.size w w49) := ⟨h4_⟩
                   clear HO_6
                   clear HB
                   clear h0_ h1_ h2_ h3_ h4_
                   have HO_6 := n0_
                   have BK356 := n1_
                   have GW356 := n2_
                   have GE356 := n3_
                   have HB := n4_
                   clear n0_ n1_ n2_ n3_ n4_
                   have hHeld : w49.cell? (ad350.add ((x8_3).toNat * 3)) = some (.int .i64 ((rd_T36 t343 x8_3).f0)) ∧ w49.cell? ⟨(ad350.add ((x8_3).toNat * 3)).block, (ad350.add ((x8_3).toNat * 3)).off + 1, none⟩ = some (.int .i64 ((rd_T36 t343 x8_3).f1)) ∧ w49.cell? ⟨(ad350.add ((x8_3).toNat * 3)).block, (ad350.add ((x8_3).toNat * 3)).off + 2, none⟩ = some (.int .i64 ((rd_T36 t343 x8_3).f2)) ∧ w49.cell? (ad351.add ((a1).toNat * 3)) = some (.int .i64 ((rd_T36 l0 a1).f0)) ∧ w49.cell? ⟨(ad351.add ((a1).toNat * 3)).block, (ad351.add ((a1).toNat * 3)).off + 1, none⟩ = some (.int .i64 ((rd_T36 l0 a1).f1)) ∧ w49.cell? ⟨(ad351.add ((a1).toNat * 3)).block, (ad351.add ((a1).toNat * 3)).off + 2, none⟩ = some (.int .i64 ((rd_T36 l0 a1).f2)) := hS_
                   refine norm_ (a' := ?_) ?_ ?_
                   rotate_left
                   ·as_aux_lemma =>
                    simp only [putAll, Act.put, List.setIfInBounds_toArray, List.set_cons_zero, List.set_cons_succ]
                    rfl
                   refine one_ (i := 13) (N := none) #[true, true, true, true, true, true, true, true, true, true, true, true, true, true, false] rfl rfl (one_of HT_.out (by kernel_rfl)) (by decide) (fun K hK => ?_)
                   have hs50 : w49.cell? ⟨gb356, 0, none⟩ = some (.int .i64 0) := (blk_cell BK356.out 0).trans rfl
                   have hfs50 := blk_frozen BK356.out 0
                   have hs51 : w49.cell? ⟨gb356, 1, none⟩ = some (.int .i64 0) := (blk_cell BK356.out 1).trans rfl
                   have hfs51 := blk_frozen BK356.out 1
                   have hs52 : w49.cell? ⟨gb356, 2, none⟩ = some (.int .i64 0) := (blk_cell BK356.out 2).trans rfl
                   have hfs52 := blk_frozen BK356.out 2
                   refine skip_ (w1 := ?_) (by rfl) rfl ?_ ?_
                   rotate_left
                   ·as_aux_lemma =>
                    go_simp
                    rfl
                   have F0_ : _ ≠ gb356 := Kd.own_blk (Kd.R_away HO_6.out (fun _ hk => hk))
                   refine hK.out _ _ ⟨((cell_far (p := ⟨gb356, _, none⟩) (by rw [add_block]; exact F0_) _).trans (((cell_far (p := ⟨gb356, _, none⟩) (by rw [add_block]; exact F0_) _).trans (((cell_far (p := ⟨gb356, _, none⟩) (by rw [add_block]; exact F0_) _).trans (hHeld.1)))))), ((cell_far (p := ⟨gb356, _, none⟩) (by rw [add_block]; exact F0_) _).trans (((cell_far (p := ⟨gb356, _, none⟩) (by rw [add_block]; exact F0_) _).trans (((cell_far (p := ⟨gb356, _, none⟩) (by rw [add_block]; exact F0_) _).trans (hHeld.2.1)))))), ((cell_far (p := ⟨gb356, _, none⟩) (by rw [add_block]; exact F0_) _).trans (((cell_far (p := ⟨gb356, _, none⟩) (by rw [add_block]; exact F0_) _).trans (((cell_far (p := ⟨gb356, _, none⟩) (by rw [add_block]; exact F0_) _).trans (hHeld.2.2.1)))))), ((cell_far (p := ⟨gb356, _, none⟩) (by first | exact Nat.ne_of_lt (Nat.lt_of_lt_of_le (by have := World.block_lt_of_cell? _ _ hw351_0; first | rwa [add_block] at this | exact this) GW356.out) | (rw [add_block]; exact Nat.ne_of_lt (Nat.lt_of_lt_of_le (by have := World.block_lt_of_cell? _ _ hw351_0; first | rwa [add_block] at this | exact this) GW356.out))) _).trans (((cell_far (p := ⟨gb356, _, none⟩) (by first | exact Nat.ne_of_lt (Nat.lt_of_lt_of_le (by have := World.block_lt_of_cell? _ _ hw351_0; first | rwa [add_block] at this | exact this) GW356.out) | (rw [add_block]; exact Nat.ne_of_lt (Nat.lt_of_lt_of_le (by have := World.block_lt_of_cell? _ _ hw351_0; first | rwa [add_block] at this | exact this) GW356.out))) _).trans (((cell_far (p := ⟨gb356, _, none⟩) (by first | exact Nat.ne_of_lt (Nat.lt_of_lt_of_le (by have := World.block_lt_of_cell? _ _ hw351_0; first | rwa [add_block] at this | exact this) GW356.out) | (rw [add_block]; exact Nat.ne_of_lt (Nat.lt_of_lt_of_le (by have := World.block_lt_of_cell? _ _ hw351_0; first | rwa [add_block] at this | exact this) GW356.out))) _).trans (hHeld.2.2.2.1)))))), ((cell_far (p := ⟨gb356, _, none⟩) (by first | exact Nat.ne_of_lt (Nat.lt_of_lt_of_le (by have := World.block_lt_of_cell? _ _ hw351_1; first | rwa [add_block] at this | exact this) GW356.out) | (rw [add_block]; exact Nat.ne_of_lt (Nat.lt_of_lt_of_le (by have := World.block_lt_of_cell? _ _ hw351_1; first | rwa [add_block] at this | exact this) GW356.out))) _).trans (((cell_far (p := ⟨gb356, _, none⟩) (by first | exact Nat.ne_of_lt (Nat.lt_of_lt_of_le (by have := World.block_lt_of_cell? _ _ hw351_1; first | rwa [add_block] at this | exact this) GW356.out) | (rw [add_block]; exact Nat.ne_of_lt (Nat.lt_of_lt_of_le (by have := World.block_lt_of_cell? _ _ hw351_1; first | rwa [add_block] at this | exact this) GW356.out))) _).trans (((cell_far (p := ⟨gb356, _, none⟩) (by first | exact Nat.ne_of_lt (Nat.lt_of_lt_of_le (by have := World.block_lt_of_cell? _ _ hw351_1; first | rwa [add_block] at this | exact this) GW356.out) | (rw [add_block]; exact Nat.ne_of_lt (Nat.lt_of_lt_of_le (by have := World.block_lt_of_cell? _ _ hw351_1; first | rwa [add_block] at this | exact this) GW356.out))) _).trans (hHeld.2.2.2.2.1)))))), ((cell_far (p := ⟨gb356, _, none⟩) (by first | exact Nat.ne_of_lt (Nat.lt_of_lt_of_le (by have := World.block_lt_of_cell? _ _ hw351_2; first | rwa [add_block] at this | exact this) GW356.out) | (rw [add_block]; exact Nat.ne_of_lt (Nat.lt_of_lt_of_le (by have := World.block_lt_of_cell? _ _ hw351_2; first | rwa [add_block] at this | exact this) GW356.out))) _).trans (((cell_far (p := ⟨gb356, _, none⟩) (by first | exact Nat.ne_of_lt (Nat.lt_of_lt_of_le (by have := World.block_lt_of_cell? _ _ hw351_2; first | rwa [add_block] at this | exact this) GW356.out) | (rw [add_block]; exact Nat.ne_of_lt (Nat.lt_of_lt_of_le (by have := World.block_lt_of_cell? _ _ hw351_2; first | rwa [add_block] at this | exact this) GW356.out))) _).trans (((cell_far (p := ⟨gb356, _, none⟩) (by first | exact Nat.ne_of_lt (Nat.lt_of_lt_of_le (by have := World.block_lt_of_cell? _ _ hw351_2; first | rwa [add_block] at this | exact this) GW356.out) | (rw [add_block]; exact Nat.ne_of_lt (Nat.lt_of_lt_of_le (by have := World.block_lt_of_cell? _ _ hw351_2; first | rwa [add_block] at this | exact this) GW356.out))) _).trans (hHeld.2.2.2.2.2))))))⟩ (fun hHeld => ?_)
                   clear hK K
                   refine pure_ (i := 14) (N := some 10) (v := ?_) (a' := ?_) #[true, true, true, true, true, true, true, true, true, true, true, true, true, true, true] rfl rfl (any_of HT_.out (by kernel_rfl)) (fun _ _ _ h => h) (Or.inl ⟨by rfl, ?_⟩) ?_ ?_
                   rotate_left
                   ·as_aux_lemma =>
                    intro w'
                    go_simp
                    with_reducible rfl
                   rotate_left
                   ·as_aux_lemma =>
                    simp only [Act.put, List.setIfInBounds_toArray, List.set_cons_zero, List.set_cons_succ, i64_w, i32_w]
                    rfl
                   refine done_ (done_of HT_.out (by kernel_rfl)) ?_
                   try go_wp2
                   have n0_ : Aside0 (Kd.R k36 36 (((w49.setCell ⟨gb356, 0, none⟩ (.int .i64 t352)).setCell ⟨gb356, 1, none⟩ (.int .i64 t353)).setCell ⟨gb356, 2, none⟩ (.int .i64 t354)) w.heap.size (fun k_ => k_ ≠ gb356) (.slice (some ad350) t343.length co46) t343) := ⟨by (with_reducible repeat (first | apply Kd.R_alloc | apply Kd.R_drewN | apply Kd.R_drew)); exact Kd.R_mono (Kd.R_far (p := ⟨gb356, 2, none⟩) (Kd.R_far (p := ⟨gb356, 1, none⟩) (Kd.R_far (p := ⟨gb356, 0, none⟩) (Kd.R_mono HO_6.out (fun k_ hk => (⟨hk, hk⟩ : _ ∧ k_ ≠ gb356))) (fun _ hk => hk.2) (.int .i64 t352)) (fun _ hk => hk.2) (.int .i64 t353)) (fun _ hk => hk.2) (.int .i64 t354)) (fun _ hk => hk.1)⟩
                   have n1_ : Aside0 ((((w49.setCell ⟨gb356, 0, none⟩ (.int .i64 t352)).setCell ⟨gb356, 1, none⟩ (.int .i64 t353)).setCell ⟨gb356, 2, none⟩ (.int .i64 t354)).heap[gb356]? = some (.cells #[.int .i64 t352, .int .i64 t353, .int .i64 t354] 36 (0, 0))) := ⟨by (with_reducible repeat (first | refine blk_drewN ?_ _ | refine blk_drew ?_ | refine blk_alloc ?_ _)); refine blk_put (cs := #[.int .i64 t352, .int .i64 t353, .int .i64 0]) ?_ 2 _ rfl; (with_reducible repeat (first | refine blk_drewN ?_ _ | refine blk_drew ?_ | refine blk_alloc ?_ _)); refine blk_put (cs := #[.int .i64 t352, .int .i64 0, .int .i64 0]) ?_ 1 _ rfl; (with_reducible repeat (first | refine blk_drewN ?_ _ | refine blk_drew ?_ | refine blk_alloc ?_ _)); refine blk_put (cs := #[.int .i64 0, .int .i64 0, .int .i64 0]) ?_ 0 _ rfl; (with_reducible repeat (first | refine blk_drewN ?_ _ | refine blk_drew ?_ | refine blk_alloc ?_ _)); exact BK356.out⟩
                   have n2_ : Aside0 (Below w.heap.size w (((w49.setCell ⟨gb356, 0, none⟩ (.int .i64 t352)).setCell ⟨gb356, 1, none⟩ (.int .i64 t353)).setCell ⟨gb356, 2, none⟩ (.int .i64 t354))) := ⟨by repeat (first | (with_reducible first | exact HB.out | apply below_alloc | apply pw_below_drewN | apply below_drew1 | refine below_set ?_ GE356.out) | exact HB.out)⟩
                   (try clear HO_6)
                   (try clear BK356)
                   (try clear HB)
                   generalize (((w49.setCell ⟨gb356, 0, none⟩ (.int .i64 t352)).setCell ⟨gb356, 1, none⟩ (.int .i64 t353)).setCell ⟨gb356, 2, none⟩ (.int .i64 t354)) = w53 at n0_ n1_ n2_ ⊢
                   have HO_6 := n0_
                   have BK356 := n1_
                   have HB := n2_
                   clear n0_ n1_ n2_
                   have n0_ := Aside0.mk (Kd.R_drew HO_6.out)
                   have n1_ := Aside0.mk (blk_drew BK356.out)
                   have n2_ := Aside0.mk (below_drew1 HB.out)
                   clear HO_6
                   clear BK356
                   clear HB
                   have HO_6 := n0_
                   have BK356 := n1_
                   have HB := n2_
                   clear n0_ n1_ n2_
                   have p357 : 0 ≤ (a1 : Int) := of_decide_eq_true (by first | (with_reducible assumption) | assumption)
                   have q357 : a1 < (t343.length : Int) := of_decide_eq_true (by first | (with_reducible assumption) | assumption)
                   obtain ⟨ad357, e357, hx357_0, hx357_1, hx357_2⟩ := at_T36 (Kd.R_reads' HO_6.out).2.2 a1 p357 q357
                   obtain rfl : ad350 = ad357 := (by injection e357)
                   replace p357 := eq_true p357
                   replace q357 := eq_true q357
                   have p358 : 0 ≤ (x8_3 : Int) := of_decide_eq_true (by first | (with_reducible assumption) | assumption)
                   have q358 : x8_3 < (l0.length : Int) := of_decide_eq_true (by first | (with_reducible assumption) | assumption)
                   obtain ⟨ad358, e358, hx358_0, hx358_1, hx358_2⟩ := at_T36 HR0.out x8_3 p358 q358
                   have hw358_2 := hx358_2
                   have hw358_1 := hx358_1
                   have hw358_0 := hx358_0
                   obtain rfl : ad351 = ad358 := (by injection e358)
                   replace hx358_0 := (HB.out.cell (World.block_lt_of_cell? w _ hx358_0)).trans hx358_0
                   replace hx358_1 := (HB.out.cell (World.block_lt_of_cell? w _ hx358_1)).trans hx358_1
                   replace hx358_2 := (HB.out.cell (World.block_lt_of_cell? w _ hx358_2)).trans hx358_2
                   replace p358 := eq_true p358
                   replace q358 := eq_true q358
                   refine start_ (n := 15) (S := fun w' => w'.cell? (ad350.add ((a1).toNat * 3)) = some (.int .i64 ((rd_T36 t343 a1).f0)) ∧ w'.cell? ⟨(ad350.add ((a1).toNat * 3)).block, (ad350.add ((a1).toNat * 3)).off + 1, none⟩ = some (.int .i64 ((rd_T36 t343 a1).f1)) ∧ w'.cell? ⟨(ad350.add ((a1).toNat * 3)).block, (ad350.add ((a1).toNat * 3)).off + 2, none⟩ = some (.int .i64 ((rd_T36 t343 a1).f2)) ∧ w'.cell? (ad351.add ((x8_3).toNat * 3)) = some (.int .i64 ((rd_T36 l0 x8_3).f0)) ∧ w'.cell? ⟨(ad351.add ((x8_3).toNat * 3)).block, (ad351.add ((x8_3).toNat * 3)).off + 1, none⟩ = some (.int .i64 ((rd_T36 l0 x8_3).f1)) ∧ w'.cell? ⟨(ad351.add ((x8_3).toNat * 3)).block, (ad351.add ((x8_3).toNat * 3)).off + 2, none⟩ = some (.int .i64 ((rd_T36 l0 x8_3).f2))) (ds := []) #[false, false, false, false, false, false, false, false, false, false, false, false, false, false, false] (by kernel_rfl) rfl rfl ⟨hx357_0, hx357_1, hx357_2, ((HB.out.cell (World.block_lt_of_cell? w _ hw358_0)).trans hw358_0), ((HB.out.cell (World.block_lt_of_cell? w _ hw358_1)).trans hw358_1), ((HB.out.cell (World.block_lt_of_cell? w _ hw358_2)).trans hw358_2)⟩ (fun hHeld => ?_); refine with_tabW fringelaw26_GainRefer.tab13 fringelaw26_GainRefer.bits13 (fun HT_ HW_ => ?_)
                   generalize w53.drew = w54 at HO_6 BK356 HB hx357_0 hx357_1 hx357_2 hx358_0 hx358_1 hx358_2 hHeld ⊢
                   refine pure_ (i := 0) (N := some 97) (v := ?_) (a' := ?_) #[true, false, false, false, false, false, false, false, false, false, false, false, false, false, false] rfl rfl (any_of HT_.out (by kernel_rfl)) (fun _ _ _ h => h) (Or.inl ⟨by rfl, ?_⟩) ?_ ?_
                   rotate_left
                   ·as_aux_lemma =>
                    intro w'
                    go_simp
                    with_reducible rfl
                   rotate_left
                   ·as_aux_lemma =>
                    simp only [Act.put, List.setIfInBounds_toArray, List.set_cons_zero, List.set_cons_succ, i64_w, i32_w]
                    rfl
                   refine pure_ (i := 1) (N := some 98) (v := ?_) (a' := ?_) #[true, true, false, false, false, false, false, false, false, false, false, false, false, false, false] rfl rfl (any_of HT_.out (by kernel_rfl)) (fun _ _ _ h => h) (Or.inl ⟨by rfl, ?_⟩) ?_ ?_
                   rotate_left
                   ·as_aux_lemma =>
                    intro w'
                    go_simp
                    with_reducible rfl
                   rotate_left
                   ·as_aux_lemma =>
                    simp only [Act.put, List.setIfInBounds_toArray, List.set_cons_zero, List.set_cons_succ, i64_w, i32_w]
                    rfl
                   refine pure_ (i := 2) (N := some 99) (v := ?_) (a' := ?_) #[true, true, true, false, false, false, false, false, false, false, false, false, false, false, false] rfl rfl (any_of HT_.out (by kernel_rfl)) (fun _ _ _ h => h) (Or.inl ⟨by rfl, ?_⟩) ?_ ?_
                   rotate_left
                   ·as_aux_lemma =>
                    intro w'
                    go_simp
                    with_reducible rfl
                   rotate_left
                   ·as_aux_lemma =>
                    simp only [Act.put, List.setIfInBounds_toArray, List.set_cons_zero, List.set_cons_succ, i64_w, i32_w]
                    rfl
                   refine pure_ (i := 4) (N := some 101) (v := ?_) (a' := ?_) #[true, true, true, false, true, false, false, false, false, false, false, false, false, false, false] rfl rfl (any_of HT_.out (by kernel_rfl)) (fun _ _ _ h => h) (Or.inl ⟨by rfl, ?_⟩) ?_ ?_
                   rotate_left
                   ·as_aux_lemma =>
                    intro w'
                    go_simp
                    with_reducible rfl
                   rotate_left
                   ·as_aux_lemma =>
                    simp only [Act.put, List.setIfInBounds_toArray, List.set_cons_zero, List.set_cons_succ, i64_w, i32_w]
                    rfl
                   refine pure_ (i := 5) (N := some 102) (v := ?_) (a' := ?_) #[true, true, true, false, true, true, false, false, false, false, false, false, false, false, false] rfl rfl (any_of HT_.out (by kernel_rfl)) (fun _ _ _ h => h) (Or.inl ⟨by rfl, ?_⟩) ?_ ?_
                   rotate_left
                   ·as_aux_lemma =>
                    intro w'
                    go_simp
                    with_reducible rfl
                   rotate_left
                   ·as_aux_lemma =>
                    simp only [Act.put, List.setIfInBounds_toArray, List.set_cons_zero, List.set_cons_succ, i64_w, i32_w]
                    rfl
                   refine pure_ (i := 6) (N := some 103) (v := ?_) (a' := ?_) #[true, true, true, false, true, true, true, false, false, false, false, false, false, false, false] rfl rfl (any_of HT_.out (by kernel_rfl)) (fun _ _ _ h => h) (Or.inl ⟨by rfl, ?_⟩) ?_ ?_
                   rotate_left
                   ·as_aux_lemma =>
                    intro w'
                    go_simp
                    with_reducible rfl
                   rotate_left
                   ·as_aux_lemma =>
                    simp only [Act.put, List.setIfInBounds_toArray, List.set_cons_zero, List.set_cons_succ, i64_w, i32_w]
                    rfl
                   refine take_ (i := 3) (N := some 100) (v := ?_) (a' := ?_) #[true, true, true, true, true, true, true, false, false, false, false, false, false, false, false] rfl rfl (take_ofW HT_.out HW_.out (by kernel_rfl)) (fun _ _ _ h => h) (Or.inl ⟨by rfl, ?_⟩) hHeld ?_ ?_
                   rotate_left
                   ·as_aux_lemma =>
                    rintro w' ⟨s0, s1, s2, s3, s4, s5⟩
                    go_simp
                    with_reducible rfl
                   rotate_left
                   ·as_aux_lemma =>
                    simp only [Act.put, List.setIfInBounds_toArray, List.set_cons_zero, List.set_cons_succ, i64_w, i32_w]
                    rfl
                   refine take_ (i := 7) (N := some 104) (v := ?_) (a' := ?_) #[true, true, true, true, true, true, true, true, false, false, false, false, false, false, false] rfl rfl (take_ofW HT_.out HW_.out (by kernel_rfl)) (fun _ _ _ h => h) (Or.inl ⟨by rfl, ?_⟩) hHeld ?_ ?_
                   rotate_left
                   ·as_aux_lemma =>
                    rintro w' ⟨s0, s1, s2, s3, s4, s5⟩
                    go_simp
                    with_reducible rfl
                   rotate_left
                   ·as_aux_lemma =>
                    simp only [Act.put, List.setIfInBounds_toArray, List.set_cons_zero, List.set_cons_succ, i64_w, i32_w]
                    rfl
                   refine join_ (σ := Nat) 2 #[true, true, true, true, true, true, true, true, true, true, true, true, true, false, false] (fun s_ => [(105, .tuple #[.agg #[.int .i64 t359, .int .i64 t360, .int .i64 t361], .int .i64 t362]), (11, .pointer (some ⟨s_, 0, none⟩)), (96, .tuple #[.agg #[.int .i64 t359, .int .i64 t360, .int .i64 t361], .int .i64 t362]), (106, .agg #[.int .i64 t359, .int .i64 t360, .int .i64 t361]), (107, .int .i64 t362)]) (fun s_ w' => (w'.cell? (ad350.add ((a1).toNat * 3)) = some (.int .i64 ((rd_T36 t343 a1).f0)) ∧ w'.cell? ⟨(ad350.add ((a1).toNat * 3)).block, (ad350.add ((a1).toNat * 3)).off + 1, none⟩ = some (.int .i64 ((rd_T36 t343 a1).f1)) ∧ w'.cell? ⟨(ad350.add ((a1).toNat * 3)).block, (ad350.add ((a1).toNat * 3)).off + 2, none⟩ = some (.int .i64 ((rd_T36 t343 a1).f2)) ∧ w'.cell? (ad351.add ((x8_3).toNat * 3)) = some (.int .i64 ((rd_T36 l0 x8_3).f0)) ∧ w'.cell? ⟨(ad351.add ((x8_3).toNat * 3)).block, (ad351.add ((x8_3).toNat * 3)).off + 1, none⟩ = some (.int .i64 ((rd_T36 l0 x8_3).f1)) ∧ w'.cell? ⟨(ad351.add ((x8_3).toNat * 3)).block, (ad351.add ((x8_3).toNat * 3)).off + 2, none⟩ = some (.int .i64 ((rd_T36 l0 x8_3).f2))) ∧ (Kd.R k36 36 w' w.heap.size (fun k_ => k_ ≠ gb356 ∧ k_ ≠ s_) (.slice (some ad350) t343.length co46) t343) ∧ (w'.heap[gb356]? = some (.cells #[.int .i64 t352, .int .i64 t353, .int .i64 t354] 36 (0, 0))) ∧ (w'.heap[s_]? = some (.cells #[.int .i64 0, .int .i64 0, .int .i64 0] 36 (0, 0))) ∧ (w.heap.size ≤ s_) ∧ (w.heap.size ≤ s_) ∧ (gb356 ≠ s_) ∧ (s_ ≠ gb356) ∧ (Below w.heap.size w w')) ?_ ?_
                   rotate_left
                   ·as_aux_lemma =>
                    intro hCont
                    refine two_ (i := 8) (j := 12) (Ni := some 105) (Nj := some 11) #[true, true, true, true, true, true, true, true, true, false, false, false, false, false, false] #[true, true, true, true, true, true, true, true, false, false, false, false, true, false, false] rfl rfl rfl rfl (two_of HT_.out (by kernel_rfl)) (by decide) (by decide) (fun K hK => ?_) (fun K hK => ?_)
                    ·as_aux_lemma =>
                     skip
                     refine goes_ Try.func23 (by kernel_rfl) rfl #[.agg #[.int .i64 ((rd_T36 t343 a1).f0), .int .i64 ((rd_T36 t343 a1).f1), .int .i64 ((rd_T36 t343 a1).f2)], .agg #[.int .i64 ((rd_T36 l0 x8_3).f0), .int .i64 ((rd_T36 l0 x8_3).f1), .int .i64 ((rd_T36 l0 x8_3).f2)]] (by rfl) rfl rfl (by (try simp only [List.map_toArray, List.map_cons, List.map_nil]); first | done | rfl | (simp only [List.length_drop, List.length_take]; rfl)) ?_
                     with_reducible refine (fringeref25_Mul.calls k3 ((rd_T36 t343 a1).f0) ((rd_T36 t343 a1).f1) ((rd_T36 t343 a1).f2) ((rd_T36 l0 x8_3).f0) ((rd_T36 l0 x8_3).f1) ((rd_T36 l0 x8_3).f2) t359 t360 t361 t362 _ A41.out).mono ?_
                     rintro e w55 ⟨rfl, hb⟩
                     have HS0_ := (hb.cell (World.block_lt_of_cell? _ _ (hHeld.1))).trans (hHeld.1)
                     have HS1_ := (hb.cell (World.block_lt_of_cell? _ _ (hHeld.2.1))).trans (hHeld.2.1)
                     have HS2_ := (hb.cell (World.block_lt_of_cell? _ _ (hHeld.2.2.1))).trans (hHeld.2.2.1)
                     refine ⟨_, rfl, ?_⟩
                     have n0_ := Aside0.mk (Kd.R_below (Rt HO_6.out) hb)
                     have n1_ := Aside0.mk (blk_below (g := gb356) (o := .cells #[.int .i64 t352, .int .i64 t353, .int .i64 t354] 36 (0, 0)) (bt BK356.out) hb)
                     have n2_ := Aside0.mk (below_step (bl HB.out) hb)
                     clear HO_6
                     clear BK356
                     clear HB
                     have HO_6 := n0_
                     have BK356 := n1_
                     have HB := n2_
                     clear n0_ n1_ n2_
                     (try clear hb)
                     (try clear hb2)
                     (try clear hk)
                     (try clear hi)
                     refine hK.out _ _ ⟨HS0_, HS1_, HS2_, ((HB.out.cell (World.block_lt_of_cell? w _ hw358_0)).trans hw358_0), ((HB.out.cell (World.block_lt_of_cell? w _ hw358_1)).trans hw358_1), ((HB.out.cell (World.block_lt_of_cell? w _ hw358_2)).trans hw358_2)⟩ (fun hHeld => ?_)
                     clear hK K
                     refine norm_ (a' := ?_) ?_ ?_
                     rotate_left
                     ·as_aux_lemma =>
                      show Act.put _ (some 105) _ = _
                      simp only [Act.put, List.setIfInBounds_toArray, List.set_cons_zero, List.set_cons_succ, i64_w, i32_w]
                      rfl
                     refine pure_ (i := 9) (N := some 96) (v := ?_) (a' := ?_) #[true, true, true, true, true, true, true, true, true, true, false, false, false, false, false] rfl rfl (any_of HT_.out (by kernel_rfl)) (fun _ _ _ h => h) (Or.inl ⟨by rfl, ?_⟩) ?_ ?_
                     rotate_left
                     ·as_aux_lemma =>
                      intro w'
                      go_simp
                      with_reducible rfl
                     rotate_left
                     ·as_aux_lemma =>
                      simp only [Act.put, List.setIfInBounds_toArray, List.set_cons_zero, List.set_cons_succ, i64_w, i32_w]
                      rfl
                     refine pure_ (i := 10) (N := some 106) (v := ?_) (a' := ?_) #[true, true, true, true, true, true, true, true, true, true, true, false, false, false, false] rfl rfl (any_of HT_.out (by kernel_rfl)) (fun _ _ _ h => h) (Or.inl ⟨by rfl, ?_⟩) ?_ ?_
                     rotate_left
                     ·as_aux_lemma =>
                      intro w'
                      go_simp
                      with_reducible rfl
                     rotate_left
                     ·as_aux_lemma =>
                      simp only [Act.put, List.setIfInBounds_toArray, List.set_cons_zero, List.set_cons_succ, i64_w, i32_w]
                      rfl
                     refine pure_ (i := 11) (N := some 107) (v := ?_) (a' := ?_) #[true, true, true, true, true, true, true, true, true, true, true, true, false, false, false] rfl rfl (any_of HT_.out (by kernel_rfl)) (fun _ _ _ h => h) (Or.inl ⟨by rfl, ?_⟩) ?_ ?_
                     rotate_left
                     ·as_aux_lemma =>
                      intro w'
                      go_simp
                      with_reducible rfl
                     rotate_left
                     ·as_aux_lemma =>
                      simp only [Act.put, List.setIfInBounds_toArray, List.set_cons_zero, List.set_cons_succ, i64_w, i32_w]
                      rfl
                     refine one_ (i := 12) (N := some 11) #[true, true, true, true, true, true, true, true, true, true, true, true, true, false, false] rfl rfl (one_of HT_.out (by kernel_rfl)) (by decide) (fun K hK => ?_)
                     refine box_step ?hg (N := 11) ?hd (cs := #[.int .i64 0, .int .i64 0, .int .i64 0]) (t := 36) ?hr ?_; (case hd => rfl); (case hg => rfl); (case hr => first | (go_simp; done) | (go_simp; rfl))
                     intro gb363 hg w56 hbox hb
                     have HS0_ := (hb.cell (World.block_lt_of_cell? _ _ (hHeld.1))).trans (hHeld.1)
                     have HS1_ := (hb.cell (World.block_lt_of_cell? _ _ (hHeld.2.1))).trans (hHeld.2.1)
                     have HS2_ := (hb.cell (World.block_lt_of_cell? _ _ (hHeld.2.2.1))).trans (hHeld.2.2.1)
                     have n0_ := Aside0.mk (Kd.R_below (Kd.R_elderB (Rt HO_6.out) gb363 (Nat.le_of_eq hg.symm)) hb)
                     have n1_ := Aside0.mk (blk_below (g := gb356) (o := .cells #[.int .i64 t352, .int .i64 t353, .int .i64 t354] 36 (0, 0)) (bt BK356.out) hb)
                     have n2_ := Aside0.mk (below_step (bl HB.out) hb)
                     have n3_ := Aside0.mk (hbox)
                     have n4_ := Aside0.mk ((by rw [hg]; exact (below_size (bl HB.out)) : w.heap.size ≤ gb363))
                     have n5_ := Aside0.mk ((by rw [hg]; exact (below_size (bl HB.out)) : w.heap.size ≤ gb363))
                     have n6_ := Aside0.mk ((by rw [hg]; exact Nat.ne_of_lt (blk_lt (g := gb356) (o := .cells #[.int .i64 t352, .int .i64 t353, .int .i64 t354] 36 (0, 0)) (bt BK356.out)) : gb356 ≠ gb363))
                     have n7_ := Aside0.mk ((by rw [hg]; exact Nat.ne_of_gt (blk_lt (g := gb356) (o := .cells #[.int .i64 t352, .int .i64 t353, .int .i64 t354] 36 (0, 0)) (bt BK356.out)) : gb363 ≠ gb356))
                     clear HO_6
                     clear BK356
                     clear HB
                     have HO_6 := n0_
                     have BK356 := n1_
                     have HB := n2_
                     have BK363 := n3_
                     have GW363 := n4_
                     have GE363 := n5_
                     have NB356_363 := n6_
                     have NB363_356 := n7_
                     clear n0_ n1_ n2_ n3_ n4_ n5_ n6_ n7_
                     clear hb hbox hg
                     refine hK.out _ _ ⟨HS0_, HS1_, HS2_, ((HB.out.cell (World.block_lt_of_cell? w _ hw358_0)).trans hw358_0), ((HB.out.cell (World.block_lt_of_cell? w _ hw358_1)).trans hw358_1), ((HB.out.cell (World.block_lt_of_cell? w _ hw358_2)).trans hw358_2)⟩ (fun hHeld => ?_)
                     clear hK K
                     refine norm_ (a' := ?_) ?_ ?_
                     rotate_left
                     ·as_aux_lemma =>
                      show Act.put _ (some 11) _ = _
                      simp only [Act.put, List.setIfInBounds_toArray, List.set_cons_zero, List.set_cons_succ, i64_w, i32_w]
                      rfl
                     exact norm_ (by simp only [putAll, Act.put, List.setIfInBounds_toArray, List.set_cons_zero, List.set_cons_succ]) (hCont (gb363) _ ⟨hHeld, (Rt HO_6.out), (bt BK356.out), (bt BK363.out), GW363.out, GE363.out, NB356_363.out, NB363_356.out, (bl HB.out)⟩)
                    ·as_aux_lemma =>
                     skip
                     refine box_step ?hg (N := 11) ?hd (cs := #[.int .i64 0, .int .i64 0, .int .i64 0]) (t := 36) ?hr ?_; (case hd => rfl); (case hg => rfl); (case hr => first | (go_simp; done) | (go_simp; rfl))
                     intro gb363 hg w55 hbox hb
                     have HS0_ := (hb.cell (World.block_lt_of_cell? _ _ (hHeld.1))).trans (hHeld.1)
                     have HS1_ := (hb.cell (World.block_lt_of_cell? _ _ (hHeld.2.1))).trans (hHeld.2.1)
                     have HS2_ := (hb.cell (World.block_lt_of_cell? _ _ (hHeld.2.2.1))).trans (hHeld.2.2.1)
                     have n0_ := Aside0.mk (Kd.R_below (Kd.R_elderB (Rt HO_6.out) gb363 (Nat.le_of_eq hg.symm)) hb)
                     have n1_ := Aside0.mk (blk_below (g := gb356) (o := .cells #[.int .i64 t352, .int .i64 t353, .int .i64 t354] 36 (0, 0)) (bt BK356.out) hb)
                     have n2_ := Aside0.mk (below_step (bl HB.out) hb)
                     have n3_ := Aside0.mk (hbox)
                     have n4_ := Aside0.mk ((by rw [hg]; exact (below_size (bl HB.out)) : w.heap.size ≤ gb363))
                     have n5_ := Aside0.mk ((by rw [hg]; exact (below_size (bl HB.out)) : w.heap.size ≤ gb363))
                     have n6_ := Aside0.mk ((by rw [hg]; exact Nat.ne_of_lt (blk_lt (g := gb356) (o := .cells #[.int .i64 t352, .int .i64 t353, .int .i64 t354] 36 (0, 0)) (bt BK356.out)) : gb356 ≠ gb363))
                     have n7_ := Aside0.mk ((by rw [hg]; exact Nat.ne_of_gt (blk_lt (g := gb356) (o := .cells #[.int .i64 t352, .int .i64 t353, .int .i64 t354] 36 (0, 0)) (bt BK356.out)) : gb363 ≠ gb356))
                     clear HO_6
                     clear BK356
                     clear HB
                     have HO_6 := n0_
                     have BK356 := n1_
                     have HB := n2_
                     have BK363 := n3_
                     have GW363 := n4_
                     have GE363 := n5_
                     have NB356_363 := n6_
                     have NB363_356 := n7_
                     clear n0_ n1_ n2_ n3_ n4_ n5_ n6_ n7_
                     clear hb hbox hg
                     refine hK.out _ _ ⟨HS0_, HS1_, HS2_, ((HB.out.cell (World.block_lt_of_cell? w _ hw358_0)).trans hw358_0), ((HB.out.cell (World.block_lt_of_cell? w _ hw358_1)).trans hw358_1), ((HB.out.cell (World.block_lt_of_cell? w _ hw358_2)).trans hw358_2)⟩ (fun hHeld => ?_)
                     clear hK K
                     refine norm_ (a' := ?_) ?_ ?_
                     rotate_left
                     ·as_aux_lemma =>
                      show Act.put _ (some 11) _ = _
                      simp only [Act.put, List.setIfInBounds_toArray, List.set_cons_zero, List.set_cons_succ, i64_w, i32_w]
                      rfl
                     refine one_ (i := 8) (N := some 105) #[true, true, true, true, true, true, true, true, true, false, false, false, true, false, false] rfl rfl (one_of HT_.out (by kernel_rfl)) (by decide) (fun K hK => ?_)
                     refine goes_ Try.func23 (by kernel_rfl) rfl #[.agg #[.int .i64 ((rd_T36 t343 a1).f0), .int .i64 ((rd_T36 t343 a1).f1), .int .i64 ((rd_T36 t343 a1).f2)], .agg #[.int .i64 ((rd_T36 l0 x8_3).f0), .int .i64 ((rd_T36 l0 x8_3).f1), .int .i64 ((rd_T36 l0 x8_3).f2)]] (by rfl) rfl rfl (by (try simp only [List.map_toArray, List.map_cons, List.map_nil]); first | done | rfl | (simp only [List.length_drop, List.length_take]; rfl)) ?_
                     with_reducible refine (fringeref25_Mul.calls k3 ((rd_T36 t343 a1).f0) ((rd_T36 t343 a1).f1) ((rd_T36 t343 a1).f2) ((rd_T36 l0 x8_3).f0) ((rd_T36 l0 x8_3).f1) ((rd_T36 l0 x8_3).f2) t359 t360 t361 t362 _ A41.out).mono ?_
                     rintro e w56 ⟨rfl, hb⟩
                     have HS0_ := (hb.cell (World.block_lt_of_cell? _ _ (hHeld.1))).trans (hHeld.1)
                     have HS1_ := (hb.cell (World.block_lt_of_cell? _ _ (hHeld.2.1))).trans (hHeld.2.1)
                     have HS2_ := (hb.cell (World.block_lt_of_cell? _ _ (hHeld.2.2.1))).trans (hHeld.2.2.1)
                     refine ⟨_, rfl, ?_⟩
                     have n0_ := Aside0.mk (Kd.R_below (Rt HO_6.out) hb)
                     have n1_ := Aside0.mk (blk_below (g := gb356) (o := .cells #[.int .i64 t352, .int .i64 t353, .int .i64 t354] 36 (0, 0)) (bt BK356.out) hb)
                     have n2_ := Aside0.mk (blk_below (g := gb363) (o := .cells #[.int .i64 0, .int .i64 0, .int .i64 0] 36 (0, 0)) (bt BK363.out) hb)
                     have n3_ := Aside0.mk (below_step (bl HB.out) hb)
                     clear HO_6
                     clear BK356
                     clear BK363
                     clear HB
                     have HO_6 := n0_
                     have BK356 := n1_
                     have BK363 := n2_
                     have HB := n3_
                     clear n0_ n1_ n2_ n3_
                     (try clear hb)
                     (try clear hb2)
                     (try clear hk)
                     (try clear hi)
                     refine hK.out _ _ ⟨HS0_, HS1_, HS2_, ((HB.out.cell (World.block_lt_of_cell? w _ hw358_0)).trans hw358_0), ((HB.out.cell (World.block_lt_of_cell? w _ hw358_1)).trans hw358_1), ((HB.out.cell (World.block_lt_of_cell? w _ hw358_2)).trans hw358_2)⟩ (fun hHeld => ?_)
                     clear hK K
                     refine norm_ (a' := ?_) ?_ ?_
                     rotate_left
                     ·as_aux_lemma =>
                      show Act.put _ (some 105) _ = _
                      simp only [Act.put, List.setIfInBounds_toArray, List.set_cons_zero, List.set_cons_succ, i64_w, i32_w]
                      rfl
                     refine pure_ (i := 9) (N := some 96) (v := ?_) (a' := ?_) #[true, true, true, true, true, true, true, true, true, true, false, false, true, false, false] rfl rfl (any_of HT_.out (by kernel_rfl)) (fun _ _ _ h => h) (Or.inl ⟨by rfl, ?_⟩) ?_ ?_
                     rotate_left
                     ·as_aux_lemma =>
                      intro w'
                      go_simp
                      with_reducible rfl
                     rotate_left
                     ·as_aux_lemma =>
                      simp only [Act.put, List.setIfInBounds_toArray, List.set_cons_zero, List.set_cons_succ, i64_w, i32_w]
                      rfl
                     refine pure_ (i := 10) (N := some 106) (v := ?_) (a' := ?_) #[true, true, true, true, true, true, true, true, true, true, true, false, true, false, false] rfl rfl (any_of HT_.out (by kernel_rfl)) (fun _ _ _ h => h) (Or.inl ⟨by rfl, ?_⟩) ?_ ?_
                     rotate_left
                     ·as_aux_lemma =>
                      intro w'
                      go_simp
                      with_reducible rfl
                     rotate_left
                     ·as_aux_lemma =>
                      simp only [Act.put, List.setIfInBounds_toArray, List.set_cons_zero, List.set_cons_succ, i64_w, i32_w]
                      rfl
                     refine pure_ (i := 11) (N := some 107) (v := ?_) (a' := ?_) #[true, true, true, true, true, true, true, true, true, true, true, true, true, false, false] rfl rfl (any_of HT_.out (by kernel_rfl)) (fun _ _ _ h => h) (Or.inl ⟨by rfl, ?_⟩) ?_ ?_
                     rotate_left
                     ·as_aux_lemma =>
                      intro w'
                      go_simp
                      with_reducible rfl
                     rotate_left
                     ·as_aux_lemma =>
                      simp only [Act.put, List.setIfInBounds_toArray, List.set_cons_zero, List.set_cons_succ, i64_w, i32_w]
                      rfl
                     exact norm_ (by simp only [putAll, Act.put, List.setIfInBounds_toArray, List.set_cons_zero, List.set_cons_succ]) (hCont (gb363) _ ⟨hHeld, (Rt HO_6.out), (bt BK356.out), (bt BK363.out), GW363.out, GE363.out, NB356_363.out, NB363_356.out, (bl HB.out)⟩)
                   rintro gb363 w57 ⟨hS_, h0_, h1_, h2_, h3_, h4_, h5_, h6_, h7_⟩
                   have n0_ : Aside0 (Kd.R k36 36 w57 w.heap.size (fun k_ => k_ ≠ gb356 ∧ k_ ≠ gb363) (.slice (some ad350) t343.length co46) t343) := ⟨h0_⟩
                   have n1_ : Aside0 (w57.heap[gb356]? = some (.cells #[.int .i64 t352, .int .i64 t353, .int .i64 t354] 36 (0, 0))) := ⟨h1_⟩
                   have n2_ : Aside0 (w57.heap[gb363]? = some (.cells #[.int .i64 0, .int .i64 0, .int .i64 0] 36 (0, 0))) := ⟨h2_⟩
                   have n3_ : Aside0 (w.heap.size ≤ gb363) := ⟨h3_⟩
                   have n4_ : Aside0 (w.heap.size ≤ gb363) := ⟨h4_⟩
                   have n5_ : Aside0 (gb356 ≠ gb363) := ⟨h5_⟩
                   have n6_ : Aside0 (gb363 ≠ gb356) := ⟨h6_⟩
                   have n7_ : Aside0 (Below w.heap.size w w57) := ⟨h7_⟩
                   clear HO_6
                   clear BK356
                   clear HB
                   clear h0_ h1_ h2_ h3_ h4_ h5_ h6_ h7_
                   have HO_6 := n0_
                   have BK356 := n1_
                   have BK363 := n2_
                   have GW363 := n3_
                   have GE363 := n4_
                   have NB356_363 := n5_
                   have NB363_356 := n6_
                   have HB := n7_
                   clear n0_ n1_ n2_ n3_ n4_ n5_ n6_ n7_
                   have hHeld : w57.cell? (ad350.add ((a1).toNat * 3)) = some (.int .i64 ((rd_T36 t343 a1).f0)) ∧ w57.cell? ⟨(ad350.add ((a1).toNat * 3)).block, (ad350.add ((a1).toNat * 3)).off + 1, none⟩ = some (.int .i64 ((rd_T36 t343 a1).f1)) ∧ w57.cell? ⟨(ad350.add ((a1).toNat * 3)).block, (ad350.add ((a1).toNat * 3)).off + 2, none⟩ = some (.int .i64 ((rd_T36 t343 a1).f2)) ∧ w57.cell? (ad351.add ((x8_3).toNat * 3)) = some (.int .i64 ((rd_T36 l0 x8_3).f0)) ∧ w57.cell? ⟨(ad351.add ((x8_3).toNat * 3)).block, (ad351.add ((x8_3).toNat * 3)).off + 1, none⟩ = some (.int .i64 ((rd_T36 l0 x8_3).f1)) ∧ w57.cell? ⟨(ad351.add ((x8_3).toNat * 3)).block, (ad351.add ((x8_3).toNat * 3)).off + 2, none⟩ = some (.int .i64 ((rd_T36 l0 x8_3).f2)) := hS_
                   refine norm_ (a' := ?_) ?_ ?_
                   rotate_left
                   ·as_aux_lemma =>
                    simp only [putAll, Act.put, List.setIfInBounds_toArray, List.set_cons_zero, List.set_cons_succ]
                    rfl
                   refine one_ (i := 13) (N := none) #[true, true, true, true, true, true, true, true, true, true, true, true, true, true, false] rfl rfl (one_of HT_.out (by kernel_rfl)) (by decide) (fun K hK => ?_)
                   have hs58 : w57.cell? ⟨gb363, 0, none⟩ = some (.int .i64 0) := (blk_cell BK363.out 0).trans rfl
                   have hfs58 := blk_frozen BK363.out 0
                   have hns58_0 := NB356_363.out
                   have hms58_0 := NB363_356.out
                   have hs59 : w57.cell? ⟨gb363, 1, none⟩ = some (.int .i64 0) := (blk_cell BK363.out 1).trans rfl
                   have hfs59 := blk_frozen BK363.out 1
                   have hns59_0 := NB356_363.out
                   have hms59_0 := NB363_356.out
                   have hs60 : w57.cell? ⟨gb363, 2, none⟩ = some (.int .i64 0) := (blk_cell BK363.out 2).trans rfl
                   have hfs60 := blk_frozen BK363.out 2
                   have hns60_0 := NB356_363.out
                   have hms60_0 := NB363_356.out
                   refine skip_ (w1 := ?_) (by rfl) rfl ?_ ?_
                   rotate_left
                   ·as_aux_lemma =>
                    go_simp
                    rfl
                   have F0_ : _ ≠ gb363 := Kd.own_blk (Kd.R_away HO_6.out (fun _ hk => hk.2))
                   refine hK.out _ _ ⟨((cell_far (p := ⟨gb363, _, none⟩) (by rw [add_block]; exact F0_) _).trans (((cell_far (p := ⟨gb363, _, none⟩) (by rw [add_block]; exact F0_) _).trans (((cell_far (p := ⟨gb363, _, none⟩) (by rw [add_block]; exact F0_) _).trans (hHeld.1)))))), ((cell_far (p := ⟨gb363, _, none⟩) (by rw [add_block]; exact F0_) _).trans (((cell_far (p := ⟨gb363, _, none⟩) (by rw [add_block]; exact F0_) _).trans (((cell_far (p := ⟨gb363, _, none⟩) (by rw [add_block]; exact F0_) _).trans (hHeld.2.1)))))), ((cell_far (p := ⟨gb363, _, none⟩) (by rw [add_block]; exact F0_) _).trans (((cell_far (p := ⟨gb363, _, none⟩) (by rw [add_block]; exact F0_) _).trans (((cell_far (p := ⟨gb363, _, none⟩) (by rw [add_block]; exact F0_) _).trans (hHeld.2.2.1)))))), ((cell_far (p := ⟨gb363, _, none⟩) (by first | exact Nat.ne_of_lt (Nat.lt_of_lt_of_le (by have := World.block_lt_of_cell? _ _ hw358_0; first | rwa [add_block] at this | exact this) GW363.out) | (rw [add_block]; exact Nat.ne_of_lt (Nat.lt_of_lt_of_le (by have := World.block_lt_of_cell? _ _ hw358_0; first | rwa [add_block] at this | exact this) GW363.out))) _).trans (((cell_far (p := ⟨gb363, _, none⟩) (by first | exact Nat.ne_of_lt (Nat.lt_of_lt_of_le (by have := World.block_lt_of_cell? _ _ hw358_0; first | rwa [add_block] at this | exact this) GW363.out) | (rw [add_block]; exact Nat.ne_of_lt (Nat.lt_of_lt_of_le (by have := World.block_lt_of_cell? _ _ hw358_0; first | rwa [add_block] at this | exact this) GW363.out))) _).trans (((cell_far (p := ⟨gb363, _, none⟩) (by first | exact Nat.ne_of_lt (Nat.lt_of_lt_of_le (by have := World.block_lt_of_cell? _ _ hw358_0; first | rwa [add_block] at this | exact this) GW363.out) | (rw [add_block]; exact Nat.ne_of_lt (Nat.lt_of_lt_of_le (by have := World.block_lt_of_cell? _ _ hw358_0; first | rwa [add_block] at this | exact this) GW363.out))) _).trans (hHeld.2.2.2.1)))))), ((cell_far (p := ⟨gb363, _, none⟩) (by first | exact Nat.ne_of_lt (Nat.lt_of_lt_of_le (by have := World.block_lt_of_cell? _ _ hw358_1; first | rwa [add_block] at this | exact this) GW363.out) | (rw [add_block]; exact Nat.ne_of_lt (Nat.lt_of_lt_of_le (by have := World.block_lt_of_cell? _ _ hw358_1; first | rwa [add_block] at this | exact this) GW363.out))) _).trans (((cell_far (p := ⟨gb363, _, none⟩) (by first | exact Nat.ne_of_lt (Nat.lt_of_lt_of_le (by have := World.block_lt_of_cell? _ _ hw358_1; first | rwa [add_block] at this | exact this) GW363.out) | (rw [add_block]; exact Nat.ne_of_lt (Nat.lt_of_lt_of_le (by have := World.block_lt_of_cell? _ _ hw358_1; first | rwa [add_block] at this | exact this) GW363.out))) _).trans (((cell_far (p := ⟨gb363, _, none⟩) (by first | exact Nat.ne_of_lt (Nat.lt_of_lt_of_le (by have := World.block_lt_of_cell? _ _ hw358_1; first | rwa [add_block] at this | exact this) GW363.out) | (rw [add_block]; exact Nat.ne_of_lt (Nat.lt_of_lt_of_le (by have := World.block_lt_of_cell? _ _ hw358_1; first | rwa [add_block] at this | exact this) GW363.out))) _).trans (hHeld.2.2.2.2.1)))))), ((cell_far (p := ⟨gb363, _, none⟩) (by first | exact Nat.ne_of_lt (Nat.lt_of_lt_of_le (by have := World.block_lt_of_cell? _ _ hw358_2; first | rwa [add_block] at this | exact this) GW363.out) | (rw [add_block]; exact Nat.ne_of_lt (Nat.lt_of_lt_of_le (by have := World.block_lt_of_cell? _ _ hw358_2; first | rwa [add_block] at this | exact this) GW363.out))) _).trans (((cell_far (p := ⟨gb363, _, none⟩) (by first | exact Nat.ne_of_lt (Nat.lt_of_lt_of_le (by have := World.block_lt_of_cell? _ _ hw358_2; first | rwa [add_block] at this | exact this) GW363.out) | (rw [add_block]; exact Nat.ne_of_lt (Nat.lt_of_lt_of_le (by have := World.block_lt_of_cell? _ _ hw358_2; first | rwa [add_block] at this | exact this) GW363.out))) _).trans (((cell_far (p := ⟨gb363, _, none⟩) (by first | exact Nat.ne_of_lt (Nat.lt_of_lt_of_le (by have := World.block_lt_of_cell? _ _ hw358_2; first | rwa [add_block] at this | exact this) GW363.out) | (rw [add_block]; exact Nat.ne_of_lt (Nat.lt_of_lt_of_le (by have := World.block_lt_of_cell? _ _ hw358_2; first | rwa [add_block] at this | exact this) GW363.out))) _).trans (hHeld.2.2.2.2.2))))))⟩ (fun hHeld => ?_)
                   clear hK K
                   refine pure_ (i := 14) (N := some 12) (v := ?_) (a' := ?_) #[true, true, true, true, true, true, true, true, true, true, true, true, true, true, true] rfl rfl (any_of HT_.out (by kernel_rfl)) (fun _ _ _ h => h) (Or.inl ⟨by rfl, ?_⟩) ?_ ?_
                   rotate_left
                   ·as_aux_lemma =>
                    intro w'
                    go_simp
                    with_reducible rfl
                   rotate_left
                   ·as_aux_lemma =>
                    simp only [Act.put, List.setIfInBounds_toArray, List.set_cons_zero, List.set_cons_succ, i64_w, i32_w]
                    rfl
                   refine done_ (done_of HT_.out (by kernel_rfl)) ?_
                   have hnb61 := NB356_363.out
                   have hnc61 := NB363_356.out
                   obtain ⟨hcz62_0, hcz62_1, hcz62_2, hfz62_0, hfz62_1, hfz62_2⟩ := cz3 BK356.out
                   obtain ⟨hcz63_0, hcz63_1, hcz63_2, hfz63_0, hfz63_1, hfz63_2⟩ := cz3 BK363.out
                   try go_wp2
                   go_roundg k3
                   case measure => have := HJ3.out; have := HJ16.out; have := HK3.out; omega
                   case rel => exact ⟨(wrap64 (x8_3 + 1)), (by first | rfl | (simp; done) | (simp [*]; done)), H', ⟨by have := HJ3.out; have := HJ16.out; have := HK3.out; omega⟩, ⟨by (with_reducible repeat (first | apply Kd.R_alloc | apply Kd.R_drewN | apply Kd.R_drew)); exact Kd.R_mono (Kd.R_far (p := ⟨gb363, 2, none⟩) (Kd.R_far (p := ⟨gb363, 1, none⟩) (Kd.R_far (p := ⟨gb363, 0, none⟩) (Kd.R_mono HO_6.out (fun k_ hk => (⟨hk, hk.2⟩ : _ ∧ k_ ≠ gb363))) (fun _ hk => hk.2) (.int .i64 t359)) (fun _ hk => hk.2) (.int .i64 t360)) (fun _ hk => hk.2) (.int .i64 t361)) (fun _ hk => trivial)⟩, ⟨by repeat (first | (with_reducible first | exact HB.out | apply below_alloc | apply pw_below_drewN | apply below_drew1 | refine below_set ?_ GE356.out | refine below_set ?_ GE363.out) | exact HB.out)⟩⟩
                 ·as_aux_lemma =>
                  rw [if_neg c43] at H
                  have c43b0 : (t362 == 0) = false := beq_eq_false_iff_ne.mpr c43
                  have c43b1 : (t362 != 0) = true := bne_iff_ne.mpr c43
                  have H' := Aside0.mk H
                  clear H
                  try go_wp2
                  have n0_ := Aside0.mk (Kd.R_drew HO_6.out)
                  have n1_ := Aside0.mk (below_drew1 HB.out)
                  clear HO_6
                  clear HB
                  have HO_6 := n0_
                  have HB := n1_
                  clear n0_ n1_
                  obtain ⟨Ao65, co65, eo65⟩ := Kd.R_slice HO_6.out
                  (first | subst eo65 | (injection eo65 with f1_ f2_ f3_; have f4_ := f1_.symm; have f5_ := f3_.symm; clear f1_ f2_ f3_; subst f4_; subst f5_))
                  have p350 : 0 ≤ (x8_3 : Int) := of_decide_eq_true (by first | (with_reducible assumption) | assumption)
                  have q350 : x8_3 < (t343.length : Int) := of_decide_eq_true (by first | (with_reducible assumption) | assumption)
                  obtain ⟨ad350, e350, hx350_0, hx350_1, hx350_2⟩ := at_T36 (Kd.R_reads' HO_6.out).2.2 x8_3 p350 q350
                  cases e350
                  replace p350 := eq_true p350
                  replace q350 := eq_true q350
                  have p351 : 0 ≤ (a1 : Int) := of_decide_eq_true (by first | (with_reducible assumption) | assumption)
                  have q351 : a1 < (l0.length : Int) := of_decide_eq_true (by first | (with_reducible assumption) | assumption)
                  obtain ⟨ad351, e351, hx351_0, hx351_1, hx351_2⟩ := at_T36 HR0.out a1 p351 q351
                  have hw351_2 := hx351_2
                  have hw351_1 := hx351_1
                  have hw351_0 := hx351_0
                  cases e351
                  replace hx351_0 := (HB.out.cell (World.block_lt_of_cell? w _ hx351_0)).trans hx351_0
                  replace hx351_1 := (HB.out.cell (World.block_lt_of_cell? w _ hx351_1)).trans hx351_1
                  replace hx351_2 := (HB.out.cell (World.block_lt_of_cell? w _ hx351_2)).trans hx351_2
                  replace p351 := eq_true p351
                  replace q351 := eq_true q351
                  refine start_ (n := 15) (S := fun w' => w'.cell? (ad350.add ((x8_3).toNat * 3)) = some (.int .i64 ((rd_T36 t343 x8_3).f0)) ∧ w'.cell? ⟨(ad350.add ((x8_3).toNat * 3)).block, (ad350.add ((x8_3).toNat * 3)).off + 1, none⟩ = some (.int .i64 ((rd_T36 t343 x8_3).f1)) ∧ w'.cell? ⟨(ad350.add ((x8_3).toNat * 3)).block, (ad350.add ((x8_3).toNat * 3)).off + 2, none⟩ = some (.int .i64 ((rd_T36 t343 x8_3).f2)) ∧ w'.cell? (ad351.add ((a1).toNat * 3)) = some (.int .i64 ((rd_T36 l0 a1).f0)) ∧ w'.cell? ⟨(ad351.add ((a1).toNat * 3)).block, (ad351.add ((a1).toNat * 3)).off + 1, none⟩ = some (.int .i64 ((rd_T36 l0 a1).f1)) ∧ w'.cell? ⟨(ad351.add ((a1).toNat * 3)).block, (ad351.add ((a1).toNat * 3)).off + 2, none⟩ = some (.int .i64 ((rd_T36 l0 a1).f2))) (ds := []) #[false, false, false, false, false, false, false, false, false, false, false, false, false, false, false] (by kernel_rfl) rfl rfl ⟨hx350_0, hx350_1, hx350_2, ((HB.out.cell (World.block_lt_of_cell? w _ hw351_0)).trans hw351_0), ((HB.out.cell (World.block_lt_of_cell? w _ hw351_1)).trans hw351_1), ((HB.out.cell (World.block_lt_of_cell? w _ hw351_2)).trans hw351_2)⟩ (fun hHeld => ?_); refine with_tabW fringelaw26_GainRefer.tab12 fringelaw26_GainRefer.bits12 (fun HT_ HW_ => ?_)
                  generalize wr.drew = w64 at HO_6 HB hx350_0 hx350_1 hx350_2 hx351_0 hx351_1 hx351_2 hHeld ⊢
                  refine pure_ (i := 0) (N := some 85) (v := ?_) (a' := ?_) #[true, false, false, false, false, false, false, false, false, false, false, false, false, false, false] rfl rfl (any_of HT_.out (by kernel_rfl)) (fun _ _ _ h => h) (Or.inl ⟨by rfl, ?_⟩) ?_ ?_
                  rotate_left
                  ·as_aux_lemma =>
                   intro w'
                   go_simp
                   with_reducible rfl
                  rotate_left
                  ·as_aux_lemma =>
                   simp only [Act.put, List.setIfInBounds_toArray, List.set_cons_zero, List.set_cons_succ, i64_w, i32_w]
                   rfl
                  refine pure_ (i := 1) (N := some 86) (v := ?_) (a' := ?_) #[true, true, false, false, false, false, false, false, false, false, false, false, false, false, false] rfl rfl (any_of HT_.out (by kernel_rfl)) (fun _ _ _ h => h) (Or.inl ⟨by rfl, ?_⟩) ?_ ?_
                  rotate_left
                  ·as_aux_lemma =>
                   intro w'
                   go_simp
                   with_reducible rfl
                  rotate_left
                  ·as_aux_lemma =>
                   simp only [Act.put, List.setIfInBounds_toArray, List.set_cons_zero, List.set_cons_succ, i64_w, i32_w]
                   rfl
                  refine pure_ (i := 2) (N := some 87) (v := ?_) (a' := ?_) #[true, true, true, false, false, false, false, false, false, false, false, false, false, false, false] rfl rfl (any_of HT_.out (by kernel_rfl)) (fun _ _ _ h => h) (Or.inl ⟨by rfl, ?_⟩) ?_ ?_
                  rotate_left
                  ·as_aux_lemma =>
                   intro w'
                   go_simp
                   with_reducible rfl
                  rotate_left
                  ·as_aux_lemma =>
                   simp only [Act.put, List.setIfInBounds_toArray, List.set_cons_zero, List.set_cons_succ, i64_w, i32_w]
                   rfl
                  refine pure_ (i := 4) (N := some 89) (v := ?_) (a' := ?_) #[true, true, true, false, true, false, false, false, false, false, false, false, false, false, false] rfl rfl (any_of HT_.out (by kernel_rfl)) (fun _ _ _ h => h) (Or.inl ⟨by rfl, ?_⟩) ?_ ?_
                  rotate_left
                  ·as_aux_lemma =>
                   intro w'
                   go_simp
                   with_reducible rfl
                  rotate_left
                  ·as_aux_lemma =>
                   simp only [Act.put, List.setIfInBounds_toArray, List.set_cons_zero, List.set_cons_succ, i64_w, i32_w]
                   rfl
                  refine pure_ (i := 5) (N := some 90) (v := ?_) (a' := ?_) #[true, true, true, false, true, true, false, false, false, false, false, false, false, false, false] rfl rfl (any_of HT_.out (by kernel_rfl)) (fun _ _ _ h => h) (Or.inl ⟨by rfl, ?_⟩) ?_ ?_
                  rotate_left
                  ·as_aux_lemma =>
                   intro w'
                   go_simp
                   with_reducible rfl
                  rotate_left
                  ·as_aux_lemma =>
                   simp only [Act.put, List.setIfInBounds_toArray, List.set_cons_zero, List.set_cons_succ, i64_w, i32_w]
                   rfl
                  refine pure_ (i := 6) (N := some 91) (v := ?_) (a' := ?_) #[true, true, true, false, true, true, true, false, false, false, false, false, false, false, false] rfl rfl (any_of HT_.out (by kernel_rfl)) (fun _ _ _ h => h) (Or.inl ⟨by rfl, ?_⟩) ?_ ?_
                  rotate_left
                  ·as_aux_lemma =>
                   intro w'
                   go_simp
                   with_reducible rfl
                  rotate_left
                  ·as_aux_lemma =>
                   simp only [Act.put, List.setIfInBounds_toArray, List.set_cons_zero, List.set_cons_succ, i64_w, i32_w]
                   rfl
                  refine take_ (i := 3) (N := some 88) (v := ?_) (a' := ?_) #[true, true, true, true, true, true, true, false, false, false, false, false, false, false, false] rfl rfl (take_ofW HT_.out HW_.out (by kernel_rfl)) (fun _ _ _ h => h) (Or.inl ⟨by rfl, ?_⟩) hHeld ?_ ?_
                  rotate_left
                  ·as_aux_lemma =>
                   rintro w' ⟨s0, s1, s2, s3, s4, s5⟩
                   go_simp
                   with_reducible rfl
                  rotate_left
                  ·as_aux_lemma =>
                   simp only [Act.put, List.setIfInBounds_toArray, List.set_cons_zero, List.set_cons_succ, i64_w, i32_w]
                   rfl
                  refine take_ (i := 7) (N := some 92) (v := ?_) (a' := ?_) #[true, true, true, true, true, true, true, true, false, false, false, false, false, false, false] rfl rfl (take_ofW HT_.out HW_.out (by kernel_rfl)) (fun _ _ _ h => h) (Or.inl ⟨by rfl, ?_⟩) hHeld ?_ ?_
                  rotate_left
                  ·as_aux_lemma =>
                   rintro w' ⟨s0, s1, s2, s3, s4, s5⟩
                   go_simp
                   with_reducible rfl
                  rotate_left
                  ·as_aux_lemma =>
                   simp only [Act.put, List.setIfInBounds_toArray, List.set_cons_zero, List.set_cons_succ, i64_w, i32_w]
                   rfl
                  refine join_ (σ := Nat) 2 #[true, true, true, true, true, true, true, true, true, true, true, true, true, false, false] (fun s_ => [(93, .tuple #[.agg #[.int .i64 t352, .int .i64 t353, .int .i64 t354], .int .i64 t355]), (9, .pointer (some ⟨s_, 0, none⟩)), (84, .tuple #[.agg #[.int .i64 t352, .int .i64 t353, .int .i64 t354], .int .i64 t355]), (94, .agg #[.int .i64 t352, .int .i64 t353, .int .i64 t354]), (95, .int .i64 t355)]) (fun s_ w' => (w'.cell? (ad350.add ((x8_3).toNat * 3)) = some (.int .i64 ((rd_T36 t343 x8_3).f0)) ∧ w'.cell? ⟨(ad350.add ((x8_3).toNat * 3)).block, (ad350.add ((x8_3).toNat * 3)).off + 1, none⟩ = some (.int .i64 ((rd_T36 t343 x8_3).f1)) ∧ w'.cell? ⟨(ad350.add ((x8_3).toNat * 3)).block, (ad350.add ((x8_3).toNat * 3)).off + 2, none⟩ = some (.int .i64 ((rd_T36 t343 x8_3).f2)) ∧ w'.cell? (ad351.add ((a1).toNat * 3)) = some (.int .i64 ((rd_T36 l0 a1).f0)) ∧ w'.cell? ⟨(ad351.add ((a1).toNat * 3)).block, (ad351.add ((a1).toNat * 3)).off + 1, none⟩ = some (.int .i64 ((rd_T36 l0 a1).f1)) ∧ w'.cell? ⟨(ad351.add ((a1).toNat * 3)).block, (ad351.add ((a1).toNat * 3)).off + 2, none⟩ = some (.int .i64 ((rd_T36 l0 a1).f2))) ∧ (Kd.R k36 36 w' w.heap.size (fun k_ => k_ ≠ s_) (.slice (some ad350) t343.length co65) t343) ∧ (w'.heap[s_]? = some (.cells #[.int .i64 0, .int .i64 0, .int .i64 0] 36 (0, 0))) ∧ (w.heap.size ≤ s_) ∧ (w.heap.size ≤ s_) ∧ (Below w.heap.size w w')) ?_ ?_
                  rotate_left
                  ·as_aux_lemma =>
                   intro hCont
                   refine two_ (i := 8) (j := 12) (Ni := some 93) (Nj := some 9) #[true, true, true, true, true, true, true, true, true, false, false, false, false, false, false] #[true, true, true, true, true, true, true, true, false, false, false, false, true, false, false] rfl rfl rfl rfl (two_of HT_.out (by kernel_rfl)) (by decide) (by decide) (fun K hK => ?_) (fun K hK => ?_)
                   ·as_aux_lemma =>
                    skip
                    refine goes_ Try.func23 (by kernel_rfl) rfl #[.agg #[.int .i64 ((rd_T36 t343 x8_3).f0), .int .i64 ((rd_T36 t343 x8_3).f1), .int .i64 ((rd_T36 t343 x8_3).f2)], .agg #[.int .i64 ((rd_T36 l0 a1).f0), .int .i64 ((rd_T36 l0 a1).f1), .int .i64 ((rd_T36 l0 a1).f2)]] (by rfl) rfl rfl (by (try simp only [List.map_toArray, List.map_cons, List.map_nil]); first | done | rfl | (simp only [List.length_drop, List.length_take]; rfl)) ?_
                    with_reducible refine (fringeref25_Mul.calls k3 ((rd_T36 t343 x8_3).f0) ((rd_T36 t343 x8_3).f1) ((rd_T36 t343 x8_3).f2) ((rd_T36 l0 a1).f0) ((rd_T36 l0 a1).f1) ((rd_T36 l0 a1).f2) t352 t353 t354 t355 _ A39.out).mono ?_
                    rintro e w66 ⟨rfl, hb⟩
                    have HS0_ := (hb.cell (World.block_lt_of_cell? _ _ (hHeld.1))).trans (hHeld.1)
                    have HS1_ := (hb.cell (World.block_lt_of_cell? _ _ (hHeld.2.1))).trans (hHeld.2.1)
                    have HS2_ := (hb.cell (World.block_lt_of_cell? _ _ (hHeld.2.2.1))).trans (hHeld.2.2.1)
                    refine ⟨_, rfl, ?_⟩
                    have n0_ := Aside0.mk (Kd.R_below (Rt HO_6.out) hb)
                    have n1_ := Aside0.mk (below_step (bl HB.out) hb)
                    clear HO_6
                    clear HB
                    have HO_6 := n0_
                    have HB := n1_
                    clear n0_ n1_
                    (try clear hb)
                    (try clear hb2)
                    (try clear hk)
                    (try clear hi)
                    refine hK.out _ _ ⟨HS0_, HS1_, HS2_, ((HB.out.cell (World.block_lt_of_cell? w _ hw351_0)).trans hw351_0), ((HB.out.cell (World.block_lt_of_cell? w _ hw351_1)).trans hw351_1), ((HB.out.cell (World.block_lt_of_cell? w _ hw351_2)).trans hw351_2)⟩ (fun hHeld => ?_)
                    clear hK K
                    refine norm_ (a' := ?_) ?_ ?_
                    rotate_left
                    ·as_aux_lemma =>
                     show Act.put _ (some 93) _ = _
                     simp only [Act.put, List.setIfInBounds_toArray, List.set_cons_zero, List.set_cons_succ, i64_w, i32_w]
                     rfl
                    refine pure_ (i := 9) (N := some 84) (v := ?_) (a' := ?_) #[true, true, true, true, true, true, true, true, true, true, false, false, false, false, false] rfl rfl (any_of HT_.out (by kernel_rfl)) (fun _ _ _ h => h) (Or.inl ⟨by rfl, ?_⟩) ?_ ?_
                    rotate_left
                    ·as_aux_lemma =>
                     intro w'
                     go_simp
                     with_reducible rfl
                    rotate_left
                    ·as_aux_lemma =>
                     simp only [Act.put, List.setIfInBounds_toArray, List.set_cons_zero, List.set_cons_succ, i64_w, i32_w]
                     rfl
                    refine pure_ (i := 10) (N := some 94) (v := ?_) (a' := ?_) #[true, true, true, true, true, true, true, true, true, true, true, false, false, false, false] rfl rfl (any_of HT_.out (by kernel_rfl)) (fun _ _ _ h => h) (Or.inl ⟨by rfl, ?_⟩) ?_ ?_
                    rotate_left
                    ·as_aux_lemma =>
                     intro w'
                     go_simp
                     with_reducible rfl
                    rotate_left
                    ·as_aux_lemma =>
                     simp only [Act.put, List.setIfInBounds_toArray, List.set_cons_zero, List.set_cons_succ, i64_w, i32_w]
                     rfl
                    refine pure_ (i := 11) (N := some 95) (v := ?_) (a' := ?_) #[true, true, true, true, true, true, true, true, true, true, true, true, false, false, false] rfl rfl (any_of HT_.out (by kernel_rfl)) (fun _ _ _ h => h) (Or.inl ⟨by rfl, ?_⟩) ?_ ?_
                    rotate_left
                    ·as_aux_lemma =>
                     intro w'
                     go_simp
                     with_reducible rfl
                    rotate_left
                    ·as_aux_lemma =>
                     simp only [Act.put, List.setIfInBounds_toArray, List.set_cons_zero, List.set_cons_succ, i64_w, i32_w]
                     rfl
                    refine one_ (i := 12) (N := some 9) #[true, true, true, true, true, true, true, true, true, true, true, true, true, false, false] rfl rfl (one_of HT_.out (by kernel_rfl)) (by decide) (fun K hK => ?_)
                    refine box_step ?hg (N := 9) ?hd (cs := #[.int .i64 0, .int .i64 0, .int .i64 0]) (t := 36) ?hr ?_; (case hd => rfl); (case hg => rfl); (case hr => first | (go_simp; done) | (go_simp; rfl))
                    intro gb356 hg w67 hbox hb
                    have HS0_ := (hb.cell (World.block_lt_of_cell? _ _ (hHeld.1))).trans (hHeld.1)
                    have HS1_ := (hb.cell (World.block_lt_of_cell? _ _ (hHeld.2.1))).trans (hHeld.2.1)
                    have HS2_ := (hb.cell (World.block_lt_of_cell? _ _ (hHeld.2.2.1))).trans (hHeld.2.2.1)
                    have n0_ := Aside0.mk (Kd.R_below (Kd.R_elderB (Rt HO_6.out) gb356 (Nat.le_of_eq hg.symm)) hb)
                    have n1_ := Aside0.mk (below_step (bl HB.out) hb)
                    have n2_ := Aside0.mk (hbox)
                    have n3_ := Aside0.mk ((by rw [hg]; exact (below_size (bl HB.out)) : w.heap.size ≤ gb356))
                    have n4_ := Aside0.mk ((by rw [hg]; exact (below_size (bl HB.out)) : w.heap.size ≤ gb356))
                    clear HO_6
                    clear HB
                    have HO_6 := n0_
                    have HB := n1_
                    have BK356 := n2_
                    have GW356 := n3_
                    have GE356 := n4_
                    clear n0_ n1_ n2_ n3_ n4_
                    clear hb hbox hg
                    refine hK.out _ _ ⟨HS0_, HS1_, HS2_, ((HB.out.cell (World.block_lt_of_cell? w _ hw351_0)).trans hw351_0), ((HB.out.cell (World.block_lt_of_cell? w _ hw351_1)).trans hw351_1), ((HB.out.cell (World.block_lt_of_cell? w _ hw351_2)).trans hw351_2)⟩ (fun hHeld => ?_)
                    clear hK K
                    refine norm_ (a' := ?_) ?_ ?_
                    rotate_left
                    ·as_aux_lemma =>
                     show Act.put _ (some 9) _ = _
                     simp only [Act.put, List.setIfInBounds_toArray, List.set_cons_zero, List.set_cons_succ, i64_w, i32_w]
                     rfl
                    exact norm_ (by simp only [putAll, Act.put, List.setIfInBounds_toArray, List.set_cons_zero, List.set_cons_succ]) (hCont (gb356) _ ⟨hHeld, (by (with_reducible repeat (first | apply Kd.R_alloc | apply Kd.R_drewN | apply Kd.R_drew)); exact Kd.R_mono HO_6.out (fun _ hk => hk.2)), (bt BK356.out), GW356.out, GE356.out, (bl HB.out)⟩)
                   ·as_aux_lemma =>
                    skip
                    refine box_step ?hg (N := 9) ?hd (cs := #[.int .i64 0, .int .i64 0, .int .i64 0]) (t := 36) ?hr ?_; (case hd => rfl); (case hg => rfl); (case hr => first | (go_simp; done) | (go_simp; rfl))
                    intro gb356 hg w66 hbox hb
                    have HS0_ := (hb.cell (World.block_lt_of_cell? _ _ (hHeld.1))).trans (hHeld.1)
                    have HS1_ := (hb.cell (World.block_lt_of_cell? _ _ (hHeld.2.1))).trans (hHeld.2.1)
                    have HS2_ := (hb.cell (World.block_lt_of_cell? _ _ (hHeld.2.2.1))).trans (hHeld.2.2.1)
                    have n0_ := Aside0.mk (Kd.R_below (Kd.R_elderB (Rt HO_6.out) gb356 (Nat.le_of_eq hg.symm)) hb)
                    have n1_ := Aside0.mk (below_step (bl HB.out) hb)
                    have n2_ := Aside0.mk (hbox)
                    have n3_ := Aside0.mk ((by rw [hg]; exact (below_size (bl HB.out)) : w.heap.size ≤ gb356))
                    have n4_ := Aside0.mk ((by rw [hg]; exact (below_size (bl HB.out)) : w.heap.size ≤ gb356))
                    clear HO_6
                    clear HB
                    have HO_6 := n0_
                    have HB := n1_
                    have BK356 := n2_
                    have GW356 := n3_
                    have GE356 := n4_
                    clear n0_ n1_ n2_ n3_ n4_
                    clear hb hbox hg
                    refine hK.out _ _ ⟨HS0_, HS1_, HS2_, ((HB.out.cell (World.block_lt_of_cell? w _ hw351_0)).trans hw351_0), ((HB.out.cell (World.block_lt_of_cell? w _ hw351_1)).trans hw351_1), ((HB.out.cell (World.block_lt_of_cell? w _ hw351_2)).trans hw351_2)⟩ (fun hHeld => ?_)
                    clear hK K
                    refine norm_ (a' := ?_) ?_ ?_
                    rotate_left
                    ·as_aux_lemma =>
                     show Act.put _ (some 9) _ = _
                     simp only [Act.put, List.setIfInBounds_toArray, List.set_cons_zero, List.set_cons_succ, i64_w, i32_w]
                     rfl
                    refine one_ (i := 8) (N := some 93) #[true, true, true, true, true, true, true, true, true, false, false, false, true, false, false] rfl rfl (one_of HT_.out (by kernel_rfl)) (by decide) (fun K hK => ?_)
                    refine goes_ Try.func23 (by kernel_rfl) rfl #[.agg #[.int .i64 ((rd_T36 t343 x8_3).f0), .int .i64 ((rd_T36 t343 x8_3).f1), .int .i64 ((rd_T36 t343 x8_3).f2)], .agg #[.int .i64 ((rd_T36 l0 a1).f0), .int .i64 ((rd_T36 l0 a1).f1), .int .i64 ((rd_T36 l0 a1).f2)]] (by rfl) rfl rfl (by (try simp only [List.map_toArray, List.map_cons, List.map_nil]); first | done | rfl | (simp only [List.length_drop, List.length_take]; rfl)) ?_
                    with_reducible refine (fringeref25_Mul.calls k3 ((rd_T36 t343 x8_3).f0) ((rd_T36 t343 x8_3).f1) ((rd_T36 t343 x8_3).f2) ((rd_T36 l0 a1).f0) ((rd_T36 l0 a1).f1) ((rd_T36 l0 a1).f2) t352 t353 t354 t355 _ A39.out).mono ?_
                    rintro e w67 ⟨rfl, hb⟩
                    have HS0_ := (hb.cell (World.block_lt_of_cell? _ _ (hHeld.1))).trans (hHeld.1)
                    have HS1_ := (hb.cell (World.block_lt_of_cell? _ _ (hHeld.2.1))).trans (hHeld.2.1)
                    have HS2_ := (hb.cell (World.block_lt_of_cell? _ _ (hHeld.2.2.1))).trans (hHeld.2.2.1)
                    refine ⟨_, rfl, ?_⟩
                    have n0_ := Aside0.mk (Kd.R_below (Rt HO_6.out) hb)
                    have n1_ := Aside0.mk (blk_below (g := gb356) (o := .cells #[.int .i64 0, .int .i64 0, .int .i64 0] 36 (0, 0)) (bt BK356.out) hb)
                    have n2_ := Aside0.mk (below_step (bl HB.out) hb)
                    clear HO_6
                    clear BK356
                    clear HB
                    have HO_6 := n0_
                    have BK356 := n1_
                    have HB := n2_
                    clear n0_ n1_ n2_
                    (try clear hb)
                    (try clear hb2)
                    (try clear hk)
                    (try clear hi)
                    refine hK.out _ _ ⟨HS0_, HS1_, HS2_, ((HB.out.cell (World.block_lt_of_cell? w _ hw351_0)).trans hw351_0), ((HB.out.cell (World.block_lt_of_cell? w _ hw351_1)).trans hw351_1), ((HB.out.cell (World.block_lt_of_cell? w _ hw351_2)).trans hw351_2)⟩ (fun hHeld => ?_)
                    clear hK K
                    refine norm_ (a' := ?_) ?_ ?_
                    rotate_left
                    ·as_aux_lemma =>
                     show Act.put _ (some 93) _ = _
                     simp only [Act.put, List.setIfInBounds_toArray, List.set_cons_zero, List.set_cons_succ, i64_w, i32_w]
                     rfl
                    refine pure_ (i := 9) (N := some 84) (v := ?_) (a' := ?_) #[true, true, true, true, true, true, true, true, true, true, false, false, true, false, false] rfl rfl (any_of HT_.out (by kernel_rfl)) (fun _ _ _ h => h) (Or.inl ⟨by rfl, ?_⟩) ?_ ?_
                    rotate_left
                    ·as_aux_lemma =>
                     intro w'
                     go_simp
                     with_reducible rfl
                    rotate_left
                    ·as_aux_lemma =>
                     simp only [Act.put, List.setIfInBounds_toArray, List.set_cons_zero, List.set_cons_succ, i64_w, i32_w]
                     rfl
                    refine pure_ (i := 10) (N := some 94) (v := ?_) (a' := ?_) #[true, true, true, true, true, true, true, true, true, true, true, false, true, false, false] rfl rfl (any_of HT_.out (by kernel_rfl)) (fun _ _ _ h => h) (Or.inl ⟨by rfl, ?_⟩) ?_ ?_
                    rotate_left
                    ·as_aux_lemma =>
                     intro w'
                     go_simp
                     with_reducible rfl
                    rotate_left
                    ·as_aux_lemma =>
                     simp only [Act.put, List.setIfInBounds_toArray, List.set_cons_zero, List.set_cons_succ, i64_w, i32_w]
                     rfl
                    refine pure_ (i := 11) (N := some 95) (v := ?_) (a' := ?_) #[true, true, true, true, true, true, true, true, true, true, true, true, true, false, false] rfl rfl (any_of HT_.out (by kernel_rfl)) (fun _ _ _ h => h) (Or.inl ⟨by rfl, ?_⟩) ?_ ?_
                    rotate_left
                    ·as_aux_lemma =>
                     intro w'
                     go_simp
                     with_reducible rfl
                    rotate_left
                    ·as_aux_lemma =>
                     simp only [Act.put, List.setIfInBounds_toArray, List.set_cons_zero, List.set_cons_succ, i64_w, i32_w]
                     rfl
                    exact norm_ (by simp only [putAll, Act.put, List.setIfInBounds_toArray, List.set_cons_zero, List.set_cons_succ]) (hCont (gb356) _ ⟨hHeld, (by (with_reducible repeat (first | apply Kd.R_alloc | apply Kd.R_drewN | apply Kd.R_drew)); exact Kd.R_mono HO_6.out (fun _ hk => hk.2)), (bt BK356.out), GW356.out, GE356.out, (bl HB.out)⟩)
                  rintro gb356 w68 ⟨hS_, h0_, h1_, h2_, h3_, h4_⟩
                  have n0_ : Aside0 (Kd.R k36 36 w68 w.heap.size (fun k_ => k_ ≠ gb356) (.slice (some ad350) t343.length co65) t343) := ⟨h0_⟩
                  have n1_ : Aside0 (w68.heap[gb356]? = some (.cells #[.int .i64 0, .int .i64 0, .int .i64 0] 36 (0, 0))) := ⟨h1_⟩
                  have n2_ : Aside0 (w.heap.size ≤ gb356) := ⟨h2_⟩
                  have n3_ : Aside0 (w.heap.size ≤ gb356) := ⟨h3_⟩
                  have n4_ : Aside0 (Below w.heap.size w w68) := ⟨h4_⟩
                  clear HO_6
                  clear HB
                  clear h0_ h1_ h2_ h3_ h4_
                  have HO_6 := n0_
                  have BK356 := n1_
                  have GW356 := n2_
                  have GE356 := n3_
                  have HB := n4_
                  clear n0_ n1_ n2_ n3_ n4_
                  have hHeld : w68.cell? (ad350.add ((x8_3).toNat * 3)) = some (.int .i64 ((rd_T36 t343 x8_3).f0)) ∧ w68.cell? ⟨(ad350.add ((x8_3).toNat * 3)).block, (ad350.add ((x8_3).toNat * 3)).off + 1, none⟩ = some (.int .i64 ((rd_T36 t343 x8_3).f1)) ∧ w68.cell? ⟨(ad350.add ((x8_3).toNat * 3)).block, (ad350.add ((x8_3).toNat * 3)).off + 2, none⟩ = some (.int .i64 ((rd_T36 t343 x8_3).f2)) ∧ w68.cell? (ad351.add ((a1).toNat * 3)) = some (.int .i64 ((rd_T36 l0 a1).f0)) ∧ w68.cell? ⟨(ad351.add ((a1).toNat * 3)).block, (ad351.add ((a1).toNat * 3)).off + 1, none⟩ = some (.int .i64 ((rd_T36 l0 a1).f1)) ∧ w68.cell? ⟨(ad351.add ((a1).toNat * 3)).block, (ad351.add ((a1).toNat * 3)).off + 2, none⟩ = some (.int .i64 ((rd_T36 l0 a1).f2)) := hS_
                  refine norm_ (a' := ?_) ?_ ?_
                  rotate_left
                  ·as_aux_lemma =>
                   simp only [putAll, Act.put, List.setIfInBounds_toArray, List.set_cons_zero, List.set_cons_succ]
                   rfl
                  refine one_ (i := 13) (N := none) #[true, true, true, true, true, true, true, true, true, true, true, true, true, true, false] rfl rfl (one_of HT_.out (by kernel_rfl)) (by decide) (fun K hK => ?_)
                  have hs69 : w68.cell? ⟨gb356, 0, none⟩ = some (.int .i64 0) := (blk_cell BK356.out 0).trans rfl
                  have hfs69 := blk_frozen BK356.out 0
                  have hs70 : w68.cell? ⟨gb356, 1, none⟩ = some (.int .i64 0) := (blk_cell BK356.out 1).trans rfl
                  have hfs70 := blk_frozen BK356.out 1
                  have hs71 : w68.cell? ⟨gb356, 2, none⟩ = some (.int .i64 0) := (blk_cell BK356.out 2).trans rfl
                  have hfs71 := blk_frozen BK356.out 2
                  refine skip_ (w1 := ?_) (by rfl) rfl ?_ ?_
                  rotate_left
                  ·as_aux_lemma =>
                   go_simp
                   rfl
                  have F0_ : _ ≠ gb356 := Kd.own_blk (Kd.R_away HO_6.out (fun _ hk => hk))
                  refine hK.out _ _ ⟨((cell_far (p := ⟨gb356, _, none⟩) (by rw [add_block]; exact F0_) _).trans (((cell_far (p := ⟨gb356, _, none⟩) (by rw [add_block]; exact F0_) _).trans (((cell_far (p := ⟨gb356, _, none⟩) (by rw [add_block]; exact F0_) _).trans (hHeld.1)))))), ((cell_far (p := ⟨gb356, _, none⟩) (by rw [add_block]; exact F0_) _).trans (((cell_far (p := ⟨gb356, _, none⟩) (by rw [add_block]; exact F0_) _).trans (((cell_far (p := ⟨gb356, _, none⟩) (by rw [add_block]; exact F0_) _).trans (hHeld.2.1)))))), ((cell_far (p := ⟨gb356, _, none⟩) (by rw [add_block]; exact F0_) _).trans (((cell_far (p := ⟨gb356, _, none⟩) (by rw [add_block]; exact F0_) _).trans (((cell_far (p := ⟨gb356, _, none⟩) (by rw [add_block]; exact F0_) _).trans (hHeld.2.2.1)))))), ((cell_far (p := ⟨gb356, _, none⟩) (by first | exact Nat.ne_of_lt (Nat.lt_of_lt_of_le (by have := World.block_lt_of_cell? _ _ hw351_0; first | rwa [add_block] at this | exact this) GW356.out) | (rw [add_block]; exact Nat.ne_of_lt (Nat.lt_of_lt_of_le (by have := World.block_lt_of_cell? _ _ hw351_0; first | rwa [add_block] at this | exact this) GW356.out))) _).trans (((cell_far (p := ⟨gb356, _, none⟩) (by first | exact Nat.ne_of_lt (Nat.lt_of_lt_of_le (by have := World.block_lt_of_cell? _ _ hw351_0; first | rwa [add_block] at this | exact this) GW356.out) | (rw [add_block]; exact Nat.ne_of_lt (Nat.lt_of_lt_of_le (by have := World.block_lt_of_cell? _ _ hw351_0; first | rwa [add_block] at this | exact this) GW356.out))) _).trans (((cell_far (p := ⟨gb356, _, none⟩) (by first | exact Nat.ne_of_lt (Nat.lt_of_lt_of_le (by have := World.block_lt_of_cell? _ _ hw351_0; first | rwa [add_block] at this | exact this) GW356.out) | (rw [add_block]; exact Nat.ne_of_lt (Nat.lt_of_lt_of_le (by have := World.block_lt_of_cell? _ _ hw351_0; first | rwa [add_block] at this | exact this) GW356.out))) _).trans (hHeld.2.2.2.1)))))), ((cell_far (p := ⟨gb356, _, none⟩) (by first | exact Nat.ne_of_lt (Nat.lt_of_lt_of_le (by have := World.block_lt_of_cell? _ _ hw351_1; first | rwa [add_block] at this | exact this) GW356.out) | (rw [add_block]; exact Nat.ne_of_lt (Nat.lt_of_lt_of_le (by have := World.block_lt_of_cell? _ _ hw351_1; first | rwa [add_block] at this | exact this) GW356.out))) _).trans (((cell_far (p := ⟨gb356, _, none⟩) (by first | exact Nat.ne_of_lt (Nat.lt_of_lt_of_le (by have := World.block_lt_of_cell? _ _ hw351_1; first | rwa [add_block] at this | exact this) GW356.out) | (rw [add_block]; exact Nat.ne_of_lt (Nat.lt_of_lt_of_le (by have := World.block_lt_of_cell? _ _ hw351_1; first | rwa [add_block] at this | exact this) GW356.out))) _).trans (((cell_far (p := ⟨gb356, _, none⟩) (by first | exact Nat.ne_of_lt (Nat.lt_of_lt_of_le (by have := World.block_lt_of_cell? _ _ hw351_1; first | rwa [add_block] at this | exact this) GW356.out) | (rw [add_block]; exact Nat.ne_of_lt (Nat.lt_of_lt_of_le (by have := World.block_lt_of_cell? _ _ hw351_1; first | rwa [add_block] at this | exact this) GW356.out))) _).trans (hHeld.2.2.2.2.1)))))), ((cell_far (p := ⟨gb356, _, none⟩) (by first | exact Nat.ne_of_lt (Nat.lt_of_lt_of_le (by have := World.block_lt_of_cell? _ _ hw351_2; first | rwa [add_block] at this | exact this) GW356.out) | (rw [add_block]; exact Nat.ne_of_lt (Nat.lt_of_lt_of_le (by have := World.block_lt_of_cell? _ _ hw351_2; first | rwa [add_block] at this | exact this) GW356.out))) _).trans (((cell_far (p := ⟨gb356, _, none⟩) (by first | exact Nat.ne_of_lt (Nat.lt_of_lt_of_le (by have := World.block_lt_of_cell? _ _ hw351_2; first | rwa [add_block] at this | exact this) GW356.out) | (rw [add_block]; exact Nat.ne_of_lt (Nat.lt_of_lt_of_le (by have := World.block_lt_of_cell? _ _ hw351_2; first | rwa [add_block] at this | exact this) GW356.out))) _).trans (((cell_far (p := ⟨gb356, _, none⟩) (by first | exact Nat.ne_of_lt (Nat.lt_of_lt_of_le (by have := World.block_lt_of_cell? _ _ hw351_2; first | rwa [add_block] at this | exact this) GW356.out) | (rw [add_block]; exact Nat.ne_of_lt (Nat.lt_of_lt_of_le (by have := World.block_lt_of_cell? _ _ hw351_2; first | rwa [add_block] at this | exact this) GW356.out))) _).trans (hHeld.2.2.2.2.2))))))⟩ (fun hHeld => ?_)
                  clear hK K
                  refine pure_ (i := 14) (N := some 10) (v := ?_) (a' := ?_) #[true, true, true, true, true, true, true, true, true, true, true, true, true, true, true] rfl rfl (any_of HT_.out (by kernel_rfl)) (fun _ _ _ h => h) (Or.inl ⟨by rfl, ?_⟩) ?_ ?_
                  rotate_left
                  ·as_aux_lemma =>
                   intro w'
                   go_simp
                   with_reducible rfl
                  rotate_left
                  ·as_aux_lemma =>
                   simp only [Act.put, List.setIfInBounds_toArray, List.set_cons_zero, List.set_cons_succ, i64_w, i32_w]
                   rfl
                  refine done_ (done_of HT_.out (by kernel_rfl)) ?_
                  try go_wp2
                  have n0_ : Aside0 (Kd.R k36 36 (((w68.setCell ⟨gb356, 0, none⟩ (.int .i64 t352)).setCell ⟨gb356, 1, none⟩ (.int .i64 t353)).setCell ⟨gb356, 2, none⟩ (.int .i64 t354)) w.heap.size (fun k_ => k_ ≠ gb356) (.slice (some ad350) t343.length co65) t343) := ⟨by (with_reducible repeat (first | apply Kd.R_alloc | apply Kd.R_drewN | apply Kd.R_drew)); exact Kd.R_mono (Kd.R_far (p := ⟨gb356, 2, none⟩) (Kd.R_far (p := ⟨gb356, 1, none⟩) (Kd.R_far (p := ⟨gb356, 0, none⟩) (Kd.R_mono HO_6.out (fun k_ hk => (⟨hk, hk⟩ : _ ∧ k_ ≠ gb356))) (fun _ hk => hk.2) (.int .i64 t352)) (fun _ hk => hk.2) (.int .i64 t353)) (fun _ hk => hk.2) (.int .i64 t354)) (fun _ hk => hk.1)⟩
                  have n1_ : Aside0 ((((w68.setCell ⟨gb356, 0, none⟩ (.int .i64 t352)).setCell ⟨gb356, 1, none⟩ (.int .i64 t353)).setCell ⟨gb356, 2, none⟩ (.int .i64 t354)).heap[gb356]? = some (.cells #[.int .i64 t352, .int .i64 t353, .int .i64 t354] 36 (0, 0))) := ⟨by (with_reducible repeat (first | refine blk_drewN ?_ _ | refine blk_drew ?_ | refine blk_alloc ?_ _)); refine blk_put (cs := #[.int .i64 t352, .int .i64 t353, .int .i64 0]) ?_ 2 _ rfl; (with_reducible repeat (first | refine blk_drewN ?_ _ | refine blk_drew ?_ | refine blk_alloc ?_ _)); refine blk_put (cs := #[.int .i64 t352, .int .i64 0, .int .i64 0]) ?_ 1 _ rfl; (with_reducible repeat (first | refine blk_drewN ?_ _ | refine blk_drew ?_ | refine blk_alloc ?_ _)); refine blk_put (cs := #[.int .i64 0, .int .i64 0, .int .i64 0]) ?_ 0 _ rfl; (with_reducible repeat (first | refine blk_drewN ?_ _ | refine blk_drew ?_ | refine blk_alloc ?_ _)); exact BK356.out⟩
                  have n2_ : Aside0 (Below w.heap.size w (((w68.setCell ⟨gb356, 0, none⟩ (.int .i64 t352)).setCell ⟨gb356, 1, none⟩ (.int .i64 t353)).setCell ⟨gb356, 2, none⟩ (.int .i64 t354))) := ⟨by repeat (first | (with_reducible first | exact HB.out | apply below_alloc | apply pw_below_drewN | apply below_drew1 | refine below_set ?_ GE356.out) | exact HB.out)⟩
                  (try clear HO_6)
                  (try clear BK356)
                  (try clear HB)
                  generalize (((w68.setCell ⟨gb356, 0, none⟩ (.int .i64 t352)).setCell ⟨gb356, 1, none⟩ (.int .i64 t353)).setCell ⟨gb356, 2, none⟩ (.int .i64 t354)) = w72 at n0_ n1_ n2_ ⊢
                  have HO_6 := n0_
                  have BK356 := n1_
                  have HB := n2_
                  clear n0_ n1_ n2_
                  have n0_ := Aside0.mk (Kd.R_drew HO_6.out)
                  have n1_ := Aside0.mk (blk_drew BK356.out)
                  have n2_ := Aside0.mk (below_drew1 HB.out)
                  clear HO_6
                  clear BK356
                  clear HB
                  have HO_6 := n0_
                  have BK356 := n1_
                  have HB := n2_
                  clear n0_ n1_ n2_
                  have p357 : 0 ≤ (a1 : Int) := of_decide_eq_true (by first | (with_reducible assumption) | assumption)
                  have q357 : a1 < (t343.length : Int) := of_decide_eq_true (by first | (with_reducible assumption) | assumption)
                  obtain ⟨ad357, e357, hx357_0, hx357_1, hx357_2⟩ := at_T36 (Kd.R_reads' HO_6.out).2.2 a1 p357 q357
                  obtain rfl : ad350 = ad357 := (by injection e357)
                  replace p357 := eq_true p357
                  replace q357 := eq_true q357
                  have p358 : 0 ≤ (x8_3 : Int) := of_decide_eq_true (by first | (with_reducible assumption) | assumption)
                  have q358 : x8_3 < (l0.length : Int) := of_decide_eq_true (by first | (with_reducible assumption) | assumption)
                  obtain ⟨ad358, e358, hx358_0, hx358_1, hx358_2⟩ := at_T36 HR0.out x8_3 p358 q358
                  have hw358_2 := hx358_2
                  have hw358_1 := hx358_1
                  have hw358_0 := hx358_0
                  obtain rfl : ad351 = ad358 := (by injection e358)
                  replace hx358_0 := (HB.out.cell (World.block_lt_of_cell? w _ hx358_0)).trans hx358_0
                  replace hx358_1 := (HB.out.cell (World.block_lt_of_cell? w _ hx358_1)).trans hx358_1
                  replace hx358_2 := (HB.out.cell (World.block_lt_of_cell? w _ hx358_2)).trans hx358_2
                  replace p358 := eq_true p358
                  replace q358 := eq_true q358
                  refine start_ (n := 15) (S := fun w' => w'.cell? (ad350.add ((a1).toNat * 3)) = some (.int .i64 ((rd_T36 t343 a1).f0)) ∧ w'.cell? ⟨(ad350.add ((a1).toNat * 3)).block, (ad350.add ((a1).toNat * 3)).off + 1, none⟩ = some (.int .i64 ((rd_T36 t343 a1).f1)) ∧ w'.cell? ⟨(ad350.add ((a1).toNat * 3)).block, (ad350.add ((a1).toNat * 3)).off + 2, none⟩ = some (.int .i64 ((rd_T36 t343 a1).f2)) ∧ w'.cell? (ad351.add ((x8_3).toNat * 3)) = some (.int .i64 ((rd_T36 l0 x8_3).f0)) ∧ w'.cell? ⟨(ad351.add ((x8_3).toNat * 3)).block, (ad351.add ((x8_3).toNat * 3)).off + 1, none⟩ = some (.int .i64 ((rd_T36 l0 x8_3).f1)) ∧ w'.cell? ⟨(ad351.add ((x8_3).toNat * 3)).block, (ad351.add ((x8_3).toNat * 3)).off + 2, none⟩ = some (.int .i64 ((rd_T36 l0 x8_3).f2))) (ds := []) #[false, false, false, false, false, false, false, false, false, false, false, false, false, false, false] (by kernel_rfl) rfl rfl ⟨hx357_0, hx357_1, hx357_2, ((HB.out.cell (World.block_lt_of_cell? w _ hw358_0)).trans hw358_0), ((HB.out.cell (World.block_lt_of_cell? w _ hw358_1)).trans hw358_1), ((HB.out.cell (World.block_lt_of_cell? w _ hw358_2)).trans hw358_2)⟩ (fun hHeld => ?_); refine with_tabW fringelaw26_GainRefer.tab13 fringelaw26_GainRefer.bits13 (fun HT_ HW_ => ?_)
                  generalize w72.drew = w73 at HO_6 BK356 HB hx357_0 hx357_1 hx357_2 hx358_0 hx358_1 hx358_2 hHeld ⊢
                  refine pure_ (i := 0) (N := some 97) (v := ?_) (a' := ?_) #[true, false, false, false, false, false, false, false, false, false, false, false, false, false, false] rfl rfl (any_of HT_.out (by kernel_rfl)) (fun _ _ _ h => h) (Or.inl ⟨by rfl, ?_⟩) ?_ ?_
                  rotate_left
                  ·as_aux_lemma =>
                   intro w'
                   go_simp
                   with_reducible rfl
                  rotate_left
                  ·as_aux_lemma =>
                   simp only [Act.put, List.setIfInBounds_toArray, List.set_cons_zero, List.set_cons_succ, i64_w, i32_w]
                   rfl
                  refine pure_ (i := 1) (N := some 98) (v := ?_) (a' := ?_) #[true, true, false, false, false, false, false, false, false, false, false, false, false, false, false] rfl rfl (any_of HT_.out (by kernel_rfl)) (fun _ _ _ h => h) (Or.inl ⟨by rfl, ?_⟩) ?_ ?_
                  rotate_left
                  ·as_aux_lemma =>
                   intro w'
                   go_simp
                   with_reducible rfl
                  rotate_left
                  ·as_aux_lemma =>
                   simp only [Act.put, List.setIfInBounds_toArray, List.set_cons_zero, List.set_cons_succ, i64_w, i32_w]
                   rfl
                  refine pure_ (i := 2) (N := some 99) (v := ?_) (a' := ?_) #[true, true, true, false, false, false, false, false, false, false, false, false, false, false, false] rfl rfl (any_of HT_.out (by kernel_rfl)) (fun _ _ _ h => h) (Or.inl ⟨by rfl, ?_⟩) ?_ ?_
                  rotate_left
                  ·as_aux_lemma =>
                   intro w'
                   go_simp
                   with_reducible rfl
                  rotate_left
                  ·as_aux_lemma =>
                   simp only [Act.put, List.setIfInBounds_toArray, List.set_cons_zero, List.set_cons_succ, i64_w, i32_w]
                   rfl
                  refine pure_ (i := 4) (N := some 101) (v := ?_) (a' := ?_) #[true, true, true, false, true, false, false, false, false, false, false, false, false, false, false] rfl rfl (any_of HT_.out (by kernel_rfl)) (fun _ _ _ h => h) (Or.inl ⟨by rfl, ?_⟩) ?_ ?_
                  rotate_left
                  ·as_aux_lemma =>
                   intro w'
                   go_simp
                   with_reducible rfl
                  rotate_left
                  ·as_aux_lemma =>
                   simp only [Act.put, List.setIfInBounds_toArray, List.set_cons_zero, List.set_cons_succ, i64_w, i32_w]
                   rfl
                  refine pure_ (i := 5) (N := some 102) (v := ?_) (a' := ?_) #[true, true, true, false, true, true, false, false, false, false, false, false, false, false, false] rfl rfl (any_of HT_.out (by kernel_rfl)) (fun _ _ _ h => h) (Or.inl ⟨by rfl, ?_⟩) ?_ ?_
                  rotate_left
                  ·as_aux_lemma =>
                   intro w'
                   go_simp
                   with_reducible rfl
                  rotate_left
                  ·as_aux_lemma =>
                   simp only [Act.put, List.setIfInBounds_toArray, List.set_cons_zero, List.set_cons_succ, i64_w, i32_w]
                   rfl
                  refine pure_ (i := 6) (N := some 103) (v := ?_) (a' := ?_) #[true, true, true, false, true, true, true, false, false, false, false, false, false, false, false] rfl rfl (any_of HT_.out (by kernel_rfl)) (fun _ _ _ h => h) (Or.inl ⟨by rfl, ?_⟩) ?_ ?_
                  rotate_left
                  ·as_aux_lemma =>
                   intro w'
                   go_simp
                   with_reducible rfl
                  rotate_left
                  ·as_aux_lemma =>
                   simp only [Act.put, List.setIfInBounds_toArray, List.set_cons_zero, List.set_cons_succ, i64_w, i32_w]
                   rfl
                  refine take_ (i := 3) (N := some 100) (v := ?_) (a' := ?_) #[true, true, true, true, true, true, true, false, false, false, false, false, false, false, false] rfl rfl (take_ofW HT_.out HW_.out (by kernel_rfl)) (fun _ _ _ h => h) (Or.inl ⟨by rfl, ?_⟩) hHeld ?_ ?_
                  rotate_left
                  ·as_aux_lemma =>
                   rintro w' ⟨s0, s1, s2, s3, s4, s5⟩
                   go_simp
                   with_reducible rfl
                  rotate_left
                  ·as_aux_lemma =>
                   simp only [Act.put, List.setIfInBounds_toArray, List.set_cons_zero, List.set_cons_succ, i64_w, i32_w]
                   rfl
                  refine take_ (i := 7) (N := some 104) (v := ?_) (a' := ?_) #[true, true, true, true, true, true, true, true, false, false, false, false, false, false, false] rfl rfl (take_ofW HT_.out HW_.out (by kernel_rfl)) (fun _ _ _ h => h) (Or.inl ⟨by rfl, ?_⟩) hHeld ?_ ?_
                  rotate_left
                  ·as_aux_lemma =>
                   rintro w' ⟨s0, s1, s2, s3, s4, s5⟩
                   go_simp
                   with_reducible rfl
                  rotate_left
                  ·as_aux_lemma =>
                   simp only [Act.put, List.setIfInBounds_toArray, List.set_cons_zero, List.set_cons_succ, i64_w, i32_w]
                   rfl
                  refine join_ (σ := Nat) 2 #[true, true, true, true, true, true, true, true, true, true, true, true, true, false, false] (fun s_ => [(105, .tuple #[.agg #[.int .i64 t359, .int .i64 t360, .int .i64 t361], .int .i64 t362]), (11, .pointer (some ⟨s_, 0, none⟩)), (96, .tuple #[.agg #[.int .i64 t359, .int .i64 t360, .int .i64 t361], .int .i64 t362]), (106, .agg #[.int .i64 t359, .int .i64 t360, .int .i64 t361]), (107, .int .i64 t362)]) (fun s_ w' => (w'.cell? (ad350.add ((a1).toNat * 3)) = some (.int .i64 ((rd_T36 t343 a1).f0)) ∧ w'.cell? ⟨(ad350.add ((a1).toNat * 3)).block, (ad350.add ((a1).toNat * 3)).off + 1, none⟩ = some (.int .i64 ((rd_T36 t343 a1).f1)) ∧ w'.cell? ⟨(ad350.add ((a1).toNat * 3)).block, (ad350.add ((a1).toNat * 3)).off + 2, none⟩ = some (.int .i64 ((rd_T36 t343 a1).f2)) ∧ w'.cell? (ad351.add ((x8_3).toNat * 3)) = some (.int .i64 ((rd_T36 l0 x8_3).f0)) ∧ w'.cell? ⟨(ad351.add ((x8_3).toNat * 3)).block, (ad351.add ((x8_3).toNat * 3)).off + 1, none⟩ = some (.int .i64 ((rd_T36 l0 x8_3).f1)) ∧ w'.cell? ⟨(ad351.add ((x8_3).toNat * 3)).block, (ad351.add ((x8_3).toNat * 3)).off + 2, none⟩ = some (.int .i64 ((rd_T36 l0 x8_3).f2))) ∧ (Kd.R k36 36 w' w.heap.size (fun k_ => k_ ≠ gb356 ∧ k_ ≠ s_) (.slice (some ad350) t343.length co65) t343) ∧ (w'.heap[gb356]? = some (.cells #[.int .i64 t352, .int .i64 t353, .int .i64 t354] 36 (0, 0))) ∧ (w'.heap[s_]? = some (.cells #[.int .i64 0, .int .i64 0, .int .i64 0] 36 (0, 0))) ∧ (w.heap.size ≤ s_) ∧ (w.heap.size ≤ s_) ∧ (gb356 ≠ s_) ∧ (s_ ≠ gb356) ∧ (Below w.heap.size w w')) ?_ ?_
                  rotate_left
                  ·as_aux_lemma =>
                   intro hCont
                   refine two_ (i := 8) (j := 12) (Ni := some 105) (Nj := some 11) #[true, true, true, true, true, true, true, true, true, false, false, false, false, false, false] #[true, true, true, true, true, true, true, true, false, false, false, false, true, false, false] rfl rfl rfl rfl (two_of HT_.out (by kernel_rfl)) (by decide) (by decide) (fun K hK => ?_) (fun K hK => ?_)
                   ·as_aux_lemma =>
                    skip
                    refine goes_ Try.func23 (by kernel_rfl) rfl #[.agg #[.int .i64 ((rd_T36 t343 a1).f0), .int .i64 ((rd_T36 t343 a1).f1), .int .i64 ((rd_T36 t343 a1).f2)], .agg #[.int .i64 ((rd_T36 l0 x8_3).f0), .int .i64 ((rd_T36 l0 x8_3).f1), .int .i64 ((rd_T36 l0 x8_3).f2)]] (by rfl) rfl rfl (by (try simp only [List.map_toArray, List.map_cons, List.map_nil]); first | done | rfl | (simp only [List.length_drop, List.length_take]; rfl)) ?_
                    with_reducible refine (fringeref25_Mul.calls k3 ((rd_T36 t343 a1).f0) ((rd_T36 t343 a1).f1) ((rd_T36 t343 a1).f2) ((rd_T36 l0 x8_3).f0) ((rd_T36 l0 x8_3).f1) ((rd_T36 l0 x8_3).f2) t359 t360 t361 t362 _ A41.out).mono ?_
                    rintro e w74 ⟨rfl, hb⟩
                    have HS0_ := (hb.cell (World.block_lt_of_cell? _ _ (hHeld.1))).trans (hHeld.1)
                    have HS1_ := (hb.cell (World.block_lt_of_cell? _ _ (hHeld.2.1))).trans (hHeld.2.1)
                    have HS2_ := (hb.cell (World.block_lt_of_cell? _ _ (hHeld.2.2.1))).trans (hHeld.2.2.1)
                    refine ⟨_, rfl, ?_⟩
                    have n0_ := Aside0.mk (Kd.R_below (Rt HO_6.out) hb)
                    have n1_ := Aside0.mk (blk_below (g := gb356) (o := .cells #[.int .i64 t352, .int .i64 t353, .int .i64 t354] 36 (0, 0)) (bt BK356.out) hb)
                    have n2_ := Aside0.mk (below_step (bl HB.out) hb)
                    clear HO_6
                    clear BK356
                    clear HB
                    have HO_6 := n0_
                    have BK356 := n1_
                    have HB := n2_
                    clear n0_ n1_ n2_
                    (try clear hb)
                    (try clear hb2)
                    (try clear hk)
                    (try clear hi)
                    refine hK.out _ _ ⟨HS0_, HS1_, HS2_, ((HB.out.cell (World.block_lt_of_cell? w _ hw358_0)).trans hw358_0), ((HB.out.cell (World.block_lt_of_cell? w _ hw358_1)).trans hw358_1), ((HB.out.cell (World.block_lt_of_cell? w _ hw358_2)).trans hw358_2)⟩ (fun hHeld => ?_)
                    clear hK K
                    refine norm_ (a' := ?_) ?_ ?_
                    rotate_left
                    ·as_aux_lemma =>
                     show Act.put _ (some 105) _ = _
                     simp only [Act.put, List.setIfInBounds_toArray, List.set_cons_zero, List.set_cons_succ, i64_w, i32_w]
                     rfl
                    refine pure_ (i := 9) (N := some 96) (v := ?_) (a' := ?_) #[true, true, true, true, true, true, true, true, true, true, false, false, false, false, false] rfl rfl (any_of HT_.out (by kernel_rfl)) (fun _ _ _ h => h) (Or.inl ⟨by rfl, ?_⟩) ?_ ?_
                    rotate_left
                    ·as_aux_lemma =>
                     intro w'
                     go_simp
                     with_reducible rfl
                    rotate_left
                    ·as_aux_lemma =>
                     simp only [Act.put, List.setIfInBounds_toArray, List.set_cons_zero, List.set_cons_succ, i64_w, i32_w]
                     rfl
                    refine pure_ (i := 10) (N := some 106) (v := ?_) (a' := ?_) #[true, true, true, true, true, true, true, true, true, true, true, false, false, false, false] rfl rfl (any_of HT_.out (by kernel_rfl)) (fun _ _ _ h => h) (Or.inl ⟨by rfl, ?_⟩) ?_ ?_
                    rotate_left
                    ·as_aux_lemma =>
                     intro w'
                     go_simp
                     with_reducible rfl
                    rotate_left
                    ·as_aux_lemma =>
                     simp only [Act.put, List.setIfInBounds_toArray, List.set_cons_zero, List.set_cons_succ, i64_w, i32_w]
                     rfl
                    refine pure_ (i := 11) (N := some 107) (v := ?_) (a' := ?_) #[true, true, true, true, true, true, true, true, true, true, true, true, false, false, false] rfl rfl (any_of HT_.out (by kernel_rfl)) (fun _ _ _ h => h) (Or.inl ⟨by rfl, ?_⟩) ?_ ?_
                    rotate_left
                    ·as_aux_lemma =>
                     intro w'
                     go_simp
                     with_reducible rfl
                    rotate_left
                    ·as_aux_lemma =>
                     simp only [Act.put, List.setIfInBounds_toArray, List.set_cons_zero, List.set_cons_succ, i64_w, i32_w]
                     rfl
                    refine one_ (i := 12) (N := some 11) #[true, true, true, true, true, true, true, true, true, true, true, true, true, false, false] rfl rfl (one_of HT_.out (by kernel_rfl)) (by decide) (fun K hK => ?_)
                    refine box_step ?hg (N := 11) ?hd (cs := #[.int .i64 0, .int .i64 0, .int .i64 0]) (t := 36) ?hr ?_; (case hd => rfl); (case hg => rfl); (case hr => first | (go_simp; done) | (go_simp; rfl))
                    intro gb363 hg w75 hbox hb
                    have HS0_ := (hb.cell (World.block_lt_of_cell? _ _ (hHeld.1))).trans (hHeld.1)
                    have HS1_ := (hb.cell (World.block_lt_of_cell? _ _ (hHeld.2.1))).trans (hHeld.2.1)
                    have HS2_ := (hb.cell (World.block_lt_of_cell? _ _ (hHeld.2.2.1))).trans (hHeld.2.2.1)
                    have n0_ := Aside0.mk (Kd.R_below (Kd.R_elderB (Rt HO_6.out) gb363 (Nat.le_of_eq hg.symm)) hb)
                    have n1_ := Aside0.mk (blk_below (g := gb356) (o := .cells #[.int .i64 t352, .int .i64 t353, .int .i64 t354] 36 (0, 0)) (bt BK356.out) hb)
                    have n2_ := Aside0.mk (below_step (bl HB.out) hb)
                    have n3_ := Aside0.mk (hbox)
                    have n4_ := Aside0.mk ((by rw [hg]; exact (below_size (bl HB.out)) : w.heap.size ≤ gb363))
                    have n5_ := Aside0.mk ((by rw [hg]; exact (below_size (bl HB.out)) : w.heap.size ≤ gb363))
                    have n6_ := Aside0.mk ((by rw [hg]; exact Nat.ne_of_lt (blk_lt (g := gb356) (o := .cells #[.int .i64 t352, .int .i64 t353, .int .i64 t354] 36 (0, 0)) (bt BK356.out)) : gb356 ≠ gb363))
                    have n7_ := Aside0.mk ((by rw [hg]; exact Nat.ne_of_gt (blk_lt (g := gb356) (o := .cells #[.int .i64 t352, .int .i64 t353, .int .i64 t354] 36 (0, 0)) (bt BK356.out)) : gb363 ≠ gb356))
                    clear HO_6
                    clear BK356
                    clear HB
                    have HO_6 := n0_
                    have BK356 := n1_
                    have HB := n2_
                    have BK363 := n3_
                    have GW363 := n4_
                    have GE363 := n5_
                    have NB356_363 := n6_
                    have NB363_356 := n7_
                    clear n0_ n1_ n2_ n3_ n4_ n5_ n6_ n7_
                    clear hb hbox hg
                    refine hK.out _ _ ⟨HS0_, HS1_, HS2_, ((HB.out.cell (World.block_lt_of_cell? w _ hw358_0)).trans hw358_0), ((HB.out.cell (World.block_lt_of_cell? w _ hw358_1)).trans hw358_1), ((HB.out.cell (World.block_lt_of_cell? w _ hw358_2)).trans hw358_2)⟩ (fun hHeld => ?_)
                    clear hK K
                    refine norm_ (a' := ?_) ?_ ?_
                    rotate_left
                    ·as_aux_lemma =>
                     show Act.put _ (some 11) _ = _
                     simp only [Act.put, List.setIfInBounds_toArray, List.set_cons_zero, List.set_cons_succ, i64_w, i32_w]
                     rfl
                    exact norm_ (by simp only [putAll, Act.put, List.setIfInBounds_toArray, List.set_cons_zero, List.set_cons_succ]) (hCont (gb363) _ ⟨hHeld, (Rt HO_6.out), (bt BK356.out), (bt BK363.out), GW363.out, GE363.out, NB356_363.out, NB363_356.out, (bl HB.out)⟩)
                   ·as_aux_lemma =>
                    skip
                    refine box_step ?hg (N := 11) ?hd (cs := #[.int .i64 0, .int .i64 0, .int .i64 0]) (t := 36) ?hr ?_; (case hd => rfl); (case hg => rfl); (case hr => first | (go_simp; done) | (go_simp; rfl))
                    intro gb363 hg w74 hbox hb
                    have HS0_ := (hb.cell (World.block_lt_of_cell? _ _ (hHeld.1))).trans (hHeld.1)
                    have HS1_ := (hb.cell (World.block_lt_of_cell? _ _ (hHeld.2.1))).trans (hHeld.2.1)
                    have HS2_ := (hb.cell (World.block_lt_of_cell? _ _ (hHeld.2.2.1))).trans (hHeld.2.2.1)
                    have n0_ := Aside0.mk (Kd.R_below (Kd.R_elderB (Rt HO_6.out) gb363 (Nat.le_of_eq hg.symm)) hb)
                    have n1_ := Aside0.mk (blk_below (g := gb356) (o := .cells #[.int .i64 t352, .int .i64 t353, .int .i64 t354] 36 (0, 0)) (bt BK356.out) hb)
                    have n2_ := Aside0.mk (below_step (bl HB.out) hb)
                    have n3_ := Aside0.mk (hbox)
                    have n4_ := Aside0.mk ((by rw [hg]; exact (below_size (bl HB.out)) : w.heap.size ≤ gb363))
                    have n5_ := Aside0.mk ((by rw [hg]; exact (below_size (bl HB.out)) : w.heap.size ≤ gb363))
                    have n6_ := Aside0.mk ((by rw [hg]; exact Nat.ne_of_lt (blk_lt (g := gb356) (o := .cells #[.int .i64 t352, .int .i64 t353, .int .i64 t354] 36 (0, 0)) (bt BK356.out)) : gb356 ≠ gb363))
                    have n7_ := Aside0.mk ((by rw [hg]; exact Nat.ne_of_gt (blk_lt (g := gb356) (o := .cells #[.int .i64 t352, .int .i64 t353, .int .i64 t354] 36 (0, 0)) (bt BK356.out)) : gb363 ≠ gb356))
                    clear HO_6
                    clear BK356
                    clear HB
                    have HO_6 := n0_
                    have BK356 := n1_
                    have HB := n2_
                    have BK363 := n3_
                    have GW363 := n4_
                    have GE363 := n5_
                    have NB356_363 := n6_
                    have NB363_356 := n7_
                    clear n0_ n1_ n2_ n3_ n4_ n5_ n6_ n7_
                    clear hb hbox hg
                    refine hK.out _ _ ⟨HS0_, HS1_, HS2_, ((HB.out.cell (World.block_lt_of_cell? w _ hw358_0)).trans hw358_0), ((HB.out.cell (World.block_lt_of_cell? w _ hw358_1)).trans hw358_1), ((HB.out.cell (World.block_lt_of_cell? w _ hw358_2)).trans hw358_2)⟩ (fun hHeld => ?_)
                    clear hK K
                    refine norm_ (a' := ?_) ?_ ?_
                    rotate_left
                    ·as_aux_lemma =>
                     show Act.put _ (some 11) _ = _
                     simp only [Act.put, List.setIfInBounds_toArray, List.set_cons_zero, List.set_cons_succ, i64_w, i32_w]
                     rfl
                    refine one_ (i := 8) (N := some 105) #[true, true, true, true, true, true, true, true, true, false, false, false, true, false, false] rfl rfl (one_of HT_.out (by kernel_rfl)) (by decide) (fun K hK => ?_)
                    refine goes_ Try.func23 (by kernel_rfl) rfl #[.agg #[.int .i64 ((rd_T36 t343 a1).f0), .int .i64 ((rd_T36 t343 a1).f1), .int .i64 ((rd_T36 t343 a1).f2)], .agg #[.int .i64 ((rd_T36 l0 x8_3).f0), .int .i64 ((rd_T36 l0 x8_3).f1), .int .i64 ((rd_T36 l0 x8_3).f2)]] (by rfl) rfl rfl (by (try simp only [List.map_toArray, List.map_cons, List.map_nil]); first | done | rfl | (simp only [List.length_drop, List.length_take]; rfl)) ?_
                    with_reducible refine (fringeref25_Mul.calls k3 ((rd_T36 t343 a1).f0) ((rd_T36 t343 a1).f1) ((rd_T36 t343 a1).f2) ((rd_T36 l0 x8_3).f0) ((rd_T36 l0 x8_3).f1) ((rd_T36 l0 x8_3).f2) t359 t360 t361 t362 _ A41.out).mono ?_
                    rintro e w75 ⟨rfl, hb⟩
                    have HS0_ := (hb.cell (World.block_lt_of_cell? _ _ (hHeld.1))).trans (hHeld.1)
                    have HS1_ := (hb.cell (World.block_lt_of_cell? _ _ (hHeld.2.1))).trans (hHeld.2.1)
                    have HS2_ := (hb.cell (World.block_lt_of_cell? _ _ (hHeld.2.2.1))).trans (hHeld.2.2.1)
                    refine ⟨_, rfl, ?_⟩
                    have n0_ := Aside0.mk (Kd.R_below (Rt HO_6.out) hb)
                    have n1_ := Aside0.mk (blk_below (g := gb356) (o := .cells #[.int .i64 t352, .int .i64 t353, .int .i64 t354] 36 (0, 0)) (bt BK356.out) hb)
                    have n2_ := Aside0.mk (blk_below (g := gb363) (o := .cells #[.int .i64 0, .int .i64 0, .int .i64 0] 36 (0, 0)) (bt BK363.out) hb)
                    have n3_ := Aside0.mk (below_step (bl HB.out) hb)
                    clear HO_6
                    clear BK356
                    clear BK363
                    clear HB
                    have HO_6 := n0_
                    have BK356 := n1_
                    have BK363 := n2_
                    have HB := n3_
                    clear n0_ n1_ n2_ n3_
                    (try clear hb)
                    (try clear hb2)
                    (try clear hk)
                    (try clear hi)
                    refine hK.out _ _ ⟨HS0_, HS1_, HS2_, ((HB.out.cell (World.block_lt_of_cell? w _ hw358_0)).trans hw358_0), ((HB.out.cell (World.block_lt_of_cell? w _ hw358_1)).trans hw358_1), ((HB.out.cell (World.block_lt_of_cell? w _ hw358_2)).trans hw358_2)⟩ (fun hHeld => ?_)
                    clear hK K
                    refine norm_ (a' := ?_) ?_ ?_
                    rotate_left
                    ·as_aux_lemma =>
                     show Act.put _ (some 105) _ = _
                     simp only [Act.put, List.setIfInBounds_toArray, List.set_cons_zero, List.set_cons_succ, i64_w, i32_w]
                     rfl
                    refine pure_ (i := 9) (N := some 96) (v := ?_) (a' := ?_) #[true, true, true, true, true, true, true, true, true, true, false, false, true, false, false] rfl rfl (any_of HT_.out (by kernel_rfl)) (fun _ _ _ h => h) (Or.inl ⟨by rfl, ?_⟩) ?_ ?_
                    rotate_left
                    ·as_aux_lemma =>
                     intro w'
                     go_simp
                     with_reducible rfl
                    rotate_left
                    ·as_aux_lemma =>
                     simp only [Act.put, List.setIfInBounds_toArray, List.set_cons_zero, List.set_cons_succ, i64_w, i32_w]
                     rfl
                    refine pure_ (i := 10) (N := some 106) (v := ?_) (a' := ?_) #[true, true, true, true, true, true, true, true, true, true, true, false, true, false, false] rfl rfl (any_of HT_.out (by kernel_rfl)) (fun _ _ _ h => h) (Or.inl ⟨by rfl, ?_⟩) ?_ ?_
                    rotate_left
                    ·as_aux_lemma =>
                     intro w'
                     go_simp
                     with_reducible rfl
                    rotate_left
                    ·as_aux_lemma =>
                     simp only [Act.put, List.setIfInBounds_toArray, List.set_cons_zero, List.set_cons_succ, i64_w, i32_w]
                     rfl
                    refine pure_ (i := 11) (N := some 107) (v := ?_) (a' := ?_) #[true, true, true, true, true, true, true, true, true, true, true, true, true, false, false] rfl rfl (any_of HT_.out (by kernel_rfl)) (fun _ _ _ h => h) (Or.inl ⟨by rfl, ?_⟩) ?_ ?_
                    rotate_left
                    ·as_aux_lemma =>
                     intro w'
                     go_simp
                     with_reducible rfl
                    rotate_left
                    ·as_aux_lemma =>
                     simp only [Act.put, List.setIfInBounds_toArray, List.set_cons_zero, List.set_cons_succ, i64_w, i32_w]
                     rfl
                    exact norm_ (by simp only [putAll, Act.put, List.setIfInBounds_toArray, List.set_cons_zero, List.set_cons_succ]) (hCont (gb363) _ ⟨hHeld, (Rt HO_6.out), (bt BK356.out), (bt BK363.out), GW363.out, GE363.out, NB356_363.out, NB363_356.out, (bl HB.out)⟩)
                  rintro gb363 w76 ⟨hS_, h0_, h1_, h2_, h3_, h4_, h5_, h6_, h7_⟩
                  have n0_ : Aside0 (Kd.R k36 36 w76 w.heap.size (fun k_ => k_ ≠ gb356 ∧ k_ ≠ gb363) (.slice (some ad350) t343.length co65) t343) := ⟨h0_⟩
                  have n1_ : Aside0 (w76.heap[gb356]? = some (.cells #[.int .i64 t352, .int .i64 t353, .int .i64 t354] 36 (0, 0))) := ⟨h1_⟩
                  have n2_ : Aside0 (w76.heap[gb363]? = some (.cells #[.int .i64 0, .int .i64 0, .int .i64 0] 36 (0, 0))) := ⟨h2_⟩
                  have n3_ : Aside0 (w.heap.size ≤ gb363) := ⟨h3_⟩
                  have n4_ : Aside0 (w.heap.size ≤ gb363) := ⟨h4_⟩
                  have n5_ : Aside0 (gb356 ≠ gb363) := ⟨h5_⟩
                  have n6_ : Aside0 (gb363 ≠ gb356) := ⟨h6_⟩
                  have n7_ : Aside0 (Below w.heap.size w w76) := ⟨h7_⟩
                  clear HO_6
                  clear BK356
                  clear HB
                  clear h0_ h1_ h2_ h3_ h4_ h5_ h6_ h7_
                  have HO_6 := n0_
                  have BK356 := n1_
                  have BK363 := n2_
                  have GW363 := n3_
                  have GE363 := n4_
                  have NB356_363 := n5_
                  have NB363_356 := n6_
                  have HB := n7_
                  clear n0_ n1_ n2_ n3_ n4_ n5_ n6_ n7_
                  have hHeld : w76.cell? (ad350.add ((a1).toNat * 3)) = some (.int .i64 ((rd_T36 t343 a1).f0)) ∧ w76.cell? ⟨(ad350.add ((a1).toNat * 3)).block, (ad350.add ((a1).toNat * 3)).off + 1, none⟩ = some (.int .i64 ((rd_T36 t343 a1).f1)) ∧ w76.cell? ⟨(ad350.add ((a1).toNat * 3)).block, (ad350.add ((a1).toNat * 3)).off + 2, none⟩ = some (.int .i64 ((rd_T36 t343 a1).f2)) ∧ w76.cell? (ad351.add ((x8_3).toNat * 3)) = some (.int .i64 ((rd_T36 l0 x8_3).f0)) ∧ w76.cell? ⟨(ad351.add ((x8_3).toNat * 3)).block, (ad351.add ((x8_3).toNat * 3)).off + 1, none⟩ = some (.int .i64 ((rd_T36 l0 x8_3).f1)) ∧ w76.cell? ⟨(ad351.add ((x8_3).toNat * 3)).block, (ad351.add ((x8_3).toNat * 3)).off + 2, none⟩ = some (.int .i64 ((rd_T36 l0 x8_3).f2)) := hS_
                  refine norm_ (a' := ?_) ?_ ?_
                  rotate_left
                  ·as_aux_lemma =>
                   simp only [putAll, Act.put, List.setIfInBounds_toArray, List.set_cons_zero, List.set_cons_succ]
                   rfl
                  refine one_ (i := 13) (N := none) #[true, true, true, true, true, true, true, true, true, true, true, true, true, true, false] rfl rfl (one_of HT_.out (by kernel_rfl)) (by decide) (fun K hK => ?_)
                  have hs77 : w76.cell? ⟨gb363, 0, none⟩ = some (.int .i64 0) := (blk_cell BK363.out 0).trans rfl
                  have hfs77 := blk_frozen BK363.out 0
                  have hns77_0 := NB356_363.out
                  have hms77_0 := NB363_356.out
                  have hs78 : w76.cell? ⟨gb363, 1, none⟩ = some (.int .i64 0) := (blk_cell BK363.out 1).trans rfl
                  have hfs78 := blk_frozen BK363.out 1
                  have hns78_0 := NB356_363.out
                  have hms78_0 := NB363_356.out
                  have hs79 : w76.cell? ⟨gb363, 2, none⟩ = some (.int .i64 0) := (blk_cell BK363.out 2).trans rfl
                  have hfs79 := blk_frozen BK363.out 2
                  have hns79_0 := NB356_363.out
                  have hms79_0 := NB363_356.out
                  refine skip_ (w1 := ?_) (by rfl) rfl ?_ ?_
                  rotate_left
                  ·as_aux_lemma =>
                   go_simp
                   rfl
                  have F0_ : _ ≠ gb363 := Kd.own_blk (Kd.R_away HO_6.out (fun _ hk => hk.2))
                  refine hK.out _ _ ⟨((cell_far (p := ⟨gb363, _, none⟩) (by rw [add_block]; exact F0_) _).trans (((cell_far (p := ⟨gb363, _, none⟩) (by rw [add_block]; exact F0_) _).trans (((cell_far (p := ⟨gb363, _, none⟩) (by rw [add_block]; exact F0_) _).trans (hHeld.1)))))), ((cell_far (p := ⟨gb363, _, none⟩) (by rw [add_block]; exact F0_) _).trans (((cell_far (p := ⟨gb363, _, none⟩) (by rw [add_block]; exact F0_) _).trans (((cell_far (p := ⟨gb363, _, none⟩) (by rw [add_block]; exact F0_) _).trans (hHeld.2.1)))))), ((cell_far (p := ⟨gb363, _, none⟩) (by rw [add_block]; exact F0_) _).trans (((cell_far (p := ⟨gb363, _, none⟩) (by rw [add_block]; exact F0_) _).trans (((cell_far (p := ⟨gb363, _, none⟩) (by rw [add_block]; exact F0_) _).trans (hHeld.2.2.1)))))), ((cell_far (p := ⟨gb363, _, none⟩) (by first | exact Nat.ne_of_lt (Nat.lt_of_lt_of_le (by have := World.block_lt_of_cell? _ _ hw358_0; first | rwa [add_block] at this | exact this) GW363.out) | (rw [add_block]; exact Nat.ne_of_lt (Nat.lt_of_lt_of_le (by have := World.block_lt_of_cell? _ _ hw358_0; first | rwa [add_block] at this | exact this) GW363.out))) _).trans (((cell_far (p := ⟨gb363, _, none⟩) (by first | exact Nat.ne_of_lt (Nat.lt_of_lt_of_le (by have := World.block_lt_of_cell? _ _ hw358_0; first | rwa [add_block] at this | exact this) GW363.out) | (rw [add_block]; exact Nat.ne_of_lt (Nat.lt_of_lt_of_le (by have := World.block_lt_of_cell? _ _ hw358_0; first | rwa [add_block] at this | exact this) GW363.out))) _).trans (((cell_far (p := ⟨gb363, _, none⟩) (by first | exact Nat.ne_of_lt (Nat.lt_of_lt_of_le (by have := World.block_lt_of_cell? _ _ hw358_0; first | rwa [add_block] at this | exact this) GW363.out) | (rw [add_block]; exact Nat.ne_of_lt (Nat.lt_of_lt_of_le (by have := World.block_lt_of_cell? _ _ hw358_0; first | rwa [add_block] at this | exact this) GW363.out))) _).trans (hHeld.2.2.2.1)))))), ((cell_far (p := ⟨gb363, _, none⟩) (by first | exact Nat.ne_of_lt (Nat.lt_of_lt_of_le (by have := World.block_lt_of_cell? _ _ hw358_1; first | rwa [add_block] at this | exact this) GW363.out) | (rw [add_block]; exact Nat.ne_of_lt (Nat.lt_of_lt_of_le (by have := World.block_lt_of_cell? _ _ hw358_1; first | rwa [add_block] at this | exact this) GW363.out))) _).trans (((cell_far (p := ⟨gb363, _, none⟩) (by first | exact Nat.ne_of_lt (Nat.lt_of_lt_of_le (by have := World.block_lt_of_cell? _ _ hw358_1; first | rwa [add_block] at this | exact this) GW363.out) | (rw [add_block]; exact Nat.ne_of_lt (Nat.lt_of_lt_of_le (by have := World.block_lt_of_cell? _ _ hw358_1; first | rwa [add_block] at this | exact this) GW363.out))) _).trans (((cell_far (p := ⟨gb363, _, none⟩) (by first | exact Nat.ne_of_lt (Nat.lt_of_lt_of_le (by have := World.block_lt_of_cell? _ _ hw358_1; first | rwa [add_block] at this | exact this) GW363.out) | (rw [add_block]; exact Nat.ne_of_lt (Nat.lt_of_lt_of_le (by have := World.block_lt_of_cell? _ _ hw358_1; first | rwa [add_block] at this | exact this) GW363.out))) _).trans (hHeld.2.2.2.2.1)))))), ((cell_far (p := ⟨gb363, _, none⟩) (by first | exact Nat.ne_of_lt (Nat.lt_of_lt_of_le (by have := World.block_lt_of_cell? _ _ hw358_2; first | rwa [add_block] at this | exact this) GW363.out) | (rw [add_block]; exact Nat.ne_of_lt (Nat.lt_of_lt_of_le (by have := World.block_lt_of_cell? _ _ hw358_2; first | rwa [add_block] at this | exact this) GW363.out))) _).trans (((cell_far (p := ⟨gb363, _, none⟩) (by first | exact Nat.ne_of_lt (Nat.lt_of_lt_of_le (by have := World.block_lt_of_cell? _ _ hw358_2; first | rwa [add_block] at this | exact this) GW363.out) | (rw [add_block]; exact Nat.ne_of_lt (Nat.lt_of_lt_of_le (by have := World.block_lt_of_cell? _ _ hw358_2; first | rwa [add_block] at this | exact this) GW363.out))) _).trans (((cell_far (p := ⟨gb363, _, none⟩) (by first | exact Nat.ne_of_lt (Nat.lt_of_lt_of_le (by have := World.block_lt_of_cell? _ _ hw358_2; first | rwa [add_block] at this | exact this) GW363.out) | (rw [add_block]; exact Nat.ne_of_lt (Nat.lt_of_lt_of_le (by have := World.block_lt_of_cell? _ _ hw358_2; first | rwa [add_block] at this | exact this) GW363.out))) _).trans (hHeld.2.2.2.2.2))))))⟩ (fun hHeld => ?_)
                  clear hK K
                  refine pure_ (i := 14) (N := some 12) (v := ?_) (a' := ?_) #[true, true, true, true, true, true, true, true, true, true, true, true, true, true, true] rfl rfl (any_of HT_.out (by kernel_rfl)) (fun _ _ _ h => h) (Or.inl ⟨by rfl, ?_⟩) ?_ ?_
                  rotate_left
                  ·as_aux_lemma =>
                   intro w'
                   go_simp
                   with_reducible rfl
                  rotate_left
                  ·as_aux_lemma =>
                   simp only [Act.put, List.setIfInBounds_toArray, List.set_cons_zero, List.set_cons_succ, i64_w, i32_w]
                   rfl
                  refine done_ (done_of HT_.out (by kernel_rfl)) ?_
                  try go_wp2
                  go_roundg k3
                  case measure => have := HJ3.out; have := HJ16.out; have := HK3.out; omega
                  case rel => exact ⟨(wrap64 (x8_3 + 1)), (by first | rfl | (simp; done) | (simp [*]; done)), H', ⟨by have := HJ3.out; have := HJ16.out; have := HK3.out; omega⟩, ⟨by (with_reducible repeat (first | apply Kd.R_alloc | apply Kd.R_drewN | apply Kd.R_drew)); exact Kd.R_mono (Kd.R_far (p := ⟨gb363, 2, none⟩) (Kd.R_far (p := ⟨gb363, 1, none⟩) (Kd.R_far (p := ⟨gb363, 0, none⟩) (Kd.R_mono HO_6.out (fun k_ hk => (⟨hk, hk.2⟩ : _ ∧ k_ ≠ gb363))) (fun _ hk => hk.2) (.int .i64 t359)) (fun _ hk => hk.2) (.int .i64 t360)) (fun _ hk => hk.2) (.int .i64 t361)) (fun _ hk => trivial)⟩, ⟨by repeat (first | (with_reducible first | exact HB.out | apply below_alloc | apply pw_below_drewN | apply below_drew1 | refine below_set ?_ GE356.out | refine below_set ?_ GE363.out) | exact HB.out)⟩⟩
                ·as_aux_lemma =>
                 rw [if_neg c42] at H
                 have c42b0 : (t355 == 0) = false := beq_eq_false_iff_ne.mpr c42
                 have c42b1 : (t355 != 0) = true := bne_iff_ne.mpr c42
                 have H' := Aside0.mk H
                 clear H
                 try go_wp2
                 have n0_ := Aside0.mk (Kd.R_drew HO_6.out)
                 have n1_ := Aside0.mk (below_drew1 HB.out)
                 clear HO_6
                 clear HB
                 have HO_6 := n0_
                 have HB := n1_
                 clear n0_ n1_
                 obtain ⟨Ao81, co81, eo81⟩ := Kd.R_slice HO_6.out
                 (first | subst eo81 | (injection eo81 with f1_ f2_ f3_; have f4_ := f1_.symm; have f5_ := f3_.symm; clear f1_ f2_ f3_; subst f4_; subst f5_))
                 have p350 : 0 ≤ (x8_3 : Int) := of_decide_eq_true (by first | (with_reducible assumption) | assumption)
                 have q350 : x8_3 < (t343.length : Int) := of_decide_eq_true (by first | (with_reducible assumption) | assumption)
                 obtain ⟨ad350, e350, hx350_0, hx350_1, hx350_2⟩ := at_T36 (Kd.R_reads' HO_6.out).2.2 x8_3 p350 q350
                 cases e350
                 replace p350 := eq_true p350
                 replace q350 := eq_true q350
                 have p351 : 0 ≤ (a1 : Int) := of_decide_eq_true (by first | (with_reducible assumption) | assumption)
                 have q351 : a1 < (l0.length : Int) := of_decide_eq_true (by first | (with_reducible assumption) | assumption)
                 obtain ⟨ad351, e351, hx351_0, hx351_1, hx351_2⟩ := at_T36 HR0.out a1 p351 q351
                 have hw351_2 := hx351_2
                 have hw351_1 := hx351_1
                 have hw351_0 := hx351_0
                 cases e351
                 replace hx351_0 := (HB.out.cell (World.block_lt_of_cell? w _ hx351_0)).trans hx351_0
                 replace hx351_1 := (HB.out.cell (World.block_lt_of_cell? w _ hx351_1)).trans hx351_1
                 replace hx351_2 := (HB.out.cell (World.block_lt_of_cell? w _ hx351_2)).trans hx351_2
                 replace p351 := eq_true p351
                 replace q351 := eq_true q351
                 refine start_ (n := 15) (S := fun w' => w'.cell? (ad350.add ((x8_3).toNat * 3)) = some (.int .i64 ((rd_T36 t343 x8_3).f0)) ∧ w'.cell? ⟨(ad350.add ((x8_3).toNat * 3)).block, (ad350.add ((x8_3).toNat * 3)).off + 1, none⟩ = some (.int .i64 ((rd_T36 t343 x8_3).f1)) ∧ w'.cell? ⟨(ad350.add ((x8_3).toNat * 3)).block, (ad350.add ((x8_3).toNat * 3)).off + 2, none⟩ = some (.int .i64 ((rd_T36 t343 x8_3).f2)) ∧ w'.cell? (ad351.add ((a1).toNat * 3)) = some (.int .i64 ((rd_T36 l0 a1).f0)) ∧ w'.cell? ⟨(ad351.add ((a1).toNat * 3)).block, (ad351.add ((a1).toNat * 3)).off + 1, none⟩ = some (.int .i64 ((rd_T36 l0 a1).f1)) ∧ w'.cell? ⟨(ad351.add ((a1).toNat * 3)).block, (ad351.add ((a1).toNat * 3)).off + 2, none⟩ = some (.int .i64 ((rd_T36 l0 a1).f2))) (ds := []) #[false, false, false, false, false, false, false, false, false, false, false, false, false, false, false] (by kernel_rfl) rfl rfl ⟨hx350_0, hx350_1, hx350_2, ((HB.out.cell (World.block_lt_of_cell? w _ hw351_0)).trans hw351_0), ((HB.out.cell (World.block_lt_of_cell? w _ hw351_1)).trans hw351_1), ((HB.out.cell (World.block_lt_of_cell? w _ hw351_2)).trans hw351_2)⟩ (fun hHeld => ?_); refine with_tabW fringelaw26_GainRefer.tab12 fringelaw26_GainRefer.bits12 (fun HT_ HW_ => ?_)
                 generalize wr.drew = w80 at HO_6 HB hx350_0 hx350_1 hx350_2 hx351_0 hx351_1 hx351_2 hHeld ⊢
                 refine pure_ (i := 0) (N := some 85) (v := ?_) (a' := ?_) #[true, false, false, false, false, false, false, false, false, false, false, false, false, false, false] rfl rfl (any_of HT_.out (by kernel_rfl)) (fun _ _ _ h => h) (Or.inl ⟨by rfl, ?_⟩) ?_ ?_
                 rotate_left
                 ·as_aux_lemma =>
                  intro w'
                  go_simp
                  with_reducible rfl
                 rotate_left
                 ·as_aux_lemma =>
                  simp only [Act.put, List.setIfInBounds_toArray, List.set_cons_zero, List.set_cons_succ, i64_w, i32_w]
                  rfl
                 refine pure_ (i := 1) (N := some 86) (v := ?_) (a' := ?_) #[true, true, false, false, false, false, false, false, false, false, false, false, false, false, false] rfl rfl (any_of HT_.out (by kernel_rfl)) (fun _ _ _ h => h) (Or.inl ⟨by rfl, ?_⟩) ?_ ?_
                 rotate_left
                 ·as_aux_lemma =>
                  intro w'
                  go_simp
                  with_reducible rfl
                 rotate_left
                 ·as_aux_lemma =>
                  simp only [Act.put, List.setIfInBounds_toArray, List.set_cons_zero, List.set_cons_succ, i64_w, i32_w]
                  rfl
                 refine pure_ (i := 2) (N := some 87) (v := ?_) (a' := ?_) #[true, true, true, false, false, false, false, false, false, false, false, false, false, false, false] rfl rfl (any_of HT_.out (by kernel_rfl)) (fun _ _ _ h => h) (Or.inl ⟨by rfl, ?_⟩) ?_ ?_
                 rotate_left
                 ·as_aux_lemma =>
                  intro w'
                  go_simp
                  with_reducible rfl
                 rotate_left
                 ·as_aux_lemma =>
                  simp only [Act.put, List.setIfInBounds_toArray, List.set_cons_zero, List.set_cons_succ, i64_w, i32_w]
                  rfl
                 refine pure_ (i := 4) (N := some 89) (v := ?_) (a' := ?_) #[true, true, true, false, true, false, false, false, false, false, false, false, false, false, false] rfl rfl (any_of HT_.out (by kernel_rfl)) (fun _ _ _ h => h) (Or.inl ⟨by rfl, ?_⟩) ?_ ?_
                 rotate_left
                 ·as_aux_lemma =>
                  intro w'
                  go_simp
                  with_reducible rfl
                 rotate_left
                 ·as_aux_lemma =>
                  simp only [Act.put, List.setIfInBounds_toArray, List.set_cons_zero, List.set_cons_succ, i64_w, i32_w]
                  rfl
                 refine pure_ (i := 5) (N := some 90) (v := ?_) (a' := ?_) #[true, true, true, false, true, true, false, false, false, false, false, false, false, false, false] rfl rfl (any_of HT_.out (by kernel_rfl)) (fun _ _ _ h => h) (Or.inl ⟨by rfl, ?_⟩) ?_ ?_
                 rotate_left
                 ·as_aux_lemma =>
                  intro w'
                  go_simp
                  with_reducible rfl
                 rotate_left
                 ·as_aux_lemma =>
                  simp only [Act.put, List.setIfInBounds_toArray, List.set_cons_zero, List.set_cons_succ, i64_w, i32_w]
                  rfl
                 refine pure_ (i := 6) (N := some 91) (v := ?_) (a' := ?_) #[true, true, true, false, true, true, true, false, false, false, false, false, false, false, false] rfl rfl (any_of HT_.out (by kernel_rfl)) (fun _ _ _ h => h) (Or.inl ⟨by rfl, ?_⟩) ?_ ?_
                 rotate_left
                 ·as_aux_lemma =>
                  intro w'
                  go_simp
                  with_reducible rfl
                 rotate_left
                 ·as_aux_lemma =>
                  simp only [Act.put, List.setIfInBounds_toArray, List.set_cons_zero, List.set_cons_succ, i64_w, i32_w]
                  rfl
                 refine take_ (i := 3) (N := some 88) (v := ?_) (a' := ?_) #[true, true, true, true, true, true, true, false, false, false, false, false, false, false, false] rfl rfl (take_ofW HT_.out HW_.out (by kernel_rfl)) (fun _ _ _ h => h) (Or.inl ⟨by rfl, ?_⟩) hHeld ?_ ?_
                 rotate_left
                 ·as_aux_lemma =>
                  rintro w' ⟨s0, s1, s2, s3, s4, s5⟩
                  go_simp
                  with_reducible rfl
                 rotate_left
                 ·as_aux_lemma =>
                  simp only [Act.put, List.setIfInBounds_toArray, List.set_cons_zero, List.set_cons_succ, i64_w, i32_w]
                  rfl
                 refine take_ (i := 7) (N := some 92) (v := ?_) (a' := ?_) #[true, true, true, true, true, true, true, true, false, false, false, false, false, false, false] rfl rfl (take_ofW HT_.out HW_.out (by kernel_rfl)) (fun _ _ _ h => h) (Or.inl ⟨by rfl, ?_⟩) hHeld ?_ ?_
                 rotate_left
                 ·as_aux_lemma =>
                  rintro w' ⟨s0, s1, s2, s3, s4, s5⟩
                  go_simp
                  with_reducible rfl
                 rotate_left
                 ·as_aux_lemma =>
                  simp only [Act.put, List.setIfInBounds_toArray, List.set_cons_zero, List.set_cons_succ, i64_w, i32_w]
                  rfl
                 refine join_ (σ := Nat) 2 #[true, true, true, true, true, true, true, true, true, true, true, true, true, false, false] (fun s_ => [(93, .tuple #[.agg #[.int .i64 t352, .int .i64 t353, .int .i64 t354], .int .i64 t355]), (9, .pointer (some ⟨s_, 0, none⟩)), (84, .tuple #[.agg #[.int .i64 t352, .int .i64 t353, .int .i64 t354], .int .i64 t355]), (94, .agg #[.int .i64 t352, .int .i64 t353, .int .i64 t354]), (95, .int .i64 t355)]) (fun s_ w' => (w'.cell? (ad350.add ((x8_3).toNat * 3)) = some (.int .i64 ((rd_T36 t343 x8_3).f0)) ∧ w'.cell? ⟨(ad350.add ((x8_3).toNat * 3)).block, (ad350.add ((x8_3).toNat * 3)).off + 1, none⟩ = some (.int .i64 ((rd_T36 t343 x8_3).f1)) ∧ w'.cell? ⟨(ad350.add ((x8_3).toNat * 3)).block, (ad350.add ((x8_3).toNat * 3)).off + 2, none⟩ = some (.int .i64 ((rd_T36 t343 x8_3).f2)) ∧ w'.cell? (ad351.add ((a1).toNat * 3)) = some (.int .i64 ((rd_T36 l0 a1).f0)) ∧ w'.cell? ⟨(ad351.add ((a1).toNat * 3)).block, (ad351.add ((a1).toNat * 3)).off + 1, none⟩ = some (.int .i64 ((rd_T36 l0 a1).f1)) ∧ w'.cell? ⟨(ad351.add ((a1).toNat * 3)).block, (ad351.add ((a1).toNat * 3)).off + 2, none⟩ = some (.int .i64 ((rd_T36 l0 a1).f2))) ∧ (Kd.R k36 36 w' w.heap.size (fun k_ => k_ ≠ s_) (.slice (some ad350) t343.length co81) t343) ∧ (w'.heap[s_]? = some (.cells #[.int .i64 0, .int .i64 0, .int .i64 0] 36 (0, 0))) ∧ (w.heap.size ≤ s_) ∧ (w.heap.size ≤ s_) ∧ (Below w.heap.size w w')) ?_ ?_
                 rotate_left
                 ·as_aux_lemma =>
                  intro hCont
                  refine two_ (i := 8) (j := 12) (Ni := some 93) (Nj := some 9) #[true, true, true, true, true, true, true, true, true, false, false, false, false, false, false] #[true, true, true, true, true, true, true, true, false, false, false, false, true, false, false] rfl rfl rfl rfl (two_of HT_.out (by kernel_rfl)) (by decide) (by decide) (fun K hK => ?_) (fun K hK => ?_)
                  ·as_aux_lemma =>
                   skip
                   refine goes_ Try.func23 (by kernel_rfl) rfl #[.agg #[.int .i64 ((rd_T36 t343 x8_3).f0), .int .i64 ((rd_T36 t343 x8_3).f1), .int .i64 ((rd_T36 t343 x8_3).f2)], .agg #[.int .i64 ((rd_T36 l0 a1).f0), .int .i64 ((rd_T36 l0 a1).f1), .int .i64 ((rd_T36 l0 a1).f2)]] (by rfl) rfl rfl (by (try simp only [List.map_toArray, List.map_cons, List.map_nil]); first | done | rfl | (simp only [List.length_drop, List.length_take]; rfl)) ?_
                   with_reducible refine (fringeref25_Mul.calls k3 ((rd_T36 t343 x8_3).f0) ((rd_T36 t343 x8_3).f1) ((rd_T36 t343 x8_3).f2) ((rd_T36 l0 a1).f0) ((rd_T36 l0 a1).f1) ((rd_T36 l0 a1).f2) t352 t353 t354 t355 _ A39.out).mono ?_
                   rintro e w82 ⟨rfl, hb⟩
                   have HS0_ := (hb.cell (World.block_lt_of_cell? _ _ (hHeld.1))).trans (hHeld.1)
                   have HS1_ := (hb.cell (World.block_lt_of_cell? _ _ (hHeld.2.1))).trans (hHeld.2.1)
                   have HS2_ := (hb.cell (World.block_lt_of_cell? _ _ (hHeld.2.2.1))).trans (hHeld.2.2.1)
                   refine ⟨_, rfl, ?_⟩
                   have n0_ := Aside0.mk (Kd.R_below (Rt HO_6.out) hb)
                   have n1_ := Aside0.mk (below_step (bl HB.out) hb)
                   clear HO_6
                   clear HB
                   have HO_6 := n0_
                   have HB := n1_
                   clear n0_ n1_
                   (try clear hb)
                   (try clear hb2)
                   (try clear hk)
                   (try clear hi)
                   refine hK.out _ _ ⟨HS0_, HS1_, HS2_, ((HB.out.cell (World.block_lt_of_cell? w _ hw351_0)).trans hw351_0), ((HB.out.cell (World.block_lt_of_cell? w _ hw351_1)).trans hw351_1), ((HB.out.cell (World.block_lt_of_cell? w _ hw351_2)).trans hw351_2)⟩ (fun hHeld => ?_)
                   clear hK K
                   refine norm_ (a' := ?_) ?_ ?_
                   rotate_left
                   ·as_aux_lemma =>
                    show Act.put _ (some 93) _ = _
                    simp only [Act.put, List.setIfInBounds_toArray, List.set_cons_zero, List.set_cons_succ, i64_w, i32_w]
                    rfl
                   refine pure_ (i := 9) (N := some 84) (v := ?_) (a' := ?_) #[true, true, true, true, true, true, true, true, true, true, false, false, false, false, false] rfl rfl (any_of HT_.out (by kernel_rfl)) (fun _ _ _ h => h) (Or.inl ⟨by rfl, ?_⟩) ?_ ?_
                   rotate_left
                   ·as_aux_lemma =>
                    intro w'
                    go_simp
                    with_reducible rfl
                   rotate_left
                   ·as_aux_lemma =>
                    simp only [Act.put, List.setIfInBounds_toArray, List.set_cons_zero, List.set_cons_succ, i64_w, i32_w]
                    rfl
                   refine pure_ (i := 10) (N := some 94) (v := ?_) (a' := ?_) #[true, true, true, true, true, true, true, true, true, true, true, false, false, false, false] rfl rfl (any_of HT_.out (by kernel_rfl)) (fun _ _ _ h => h) (Or.inl ⟨by rfl, ?_⟩) ?_ ?_
                   rotate_left
                   ·as_aux_lemma =>
                    intro w'
                    go_simp
                    with_reducible rfl
                   rotate_left
                   ·as_aux_lemma =>
                    simp only [Act.put, List.setIfInBounds_toArray, List.set_cons_zero, List.set_cons_succ, i64_w, i32_w]
                    rfl
                   refine pure_ (i := 11) (N := some 95) (v := ?_) (a' := ?_) #[true, true, true, true, true, true, true, true, true, true, true, true, false, false, false] rfl rfl (any_of HT_.out (by kernel_rfl)) (fun _ _ _ h => h) (Or.inl ⟨by rfl, ?_⟩) ?_ ?_
                   rotate_left
                   ·as_aux_lemma =>
                    intro w'
                    go_simp
                    with_reducible rfl
                   rotate_left
                   ·as_aux_lemma =>
                    simp only [Act.put, List.setIfInBounds_toArray, List.set_cons_zero, List.set_cons_succ, i64_w, i32_w]
                    rfl
                   refine one_ (i := 12) (N := some 9) #[true, true, true, true, true, true, true, true, true, true, true, true, true, false, false] rfl rfl (one_of HT_.out (by kernel_rfl)) (by decide) (fun K hK => ?_)
                   refine box_step ?hg (N := 9) ?hd (cs := #[.int .i64 0, .int .i64 0, .int .i64 0]) (t := 36) ?hr ?_; (case hd => rfl); (case hg => rfl); (case hr => first | (go_simp; done) | (go_simp; rfl))
                   intro gb356 hg w83 hbox hb
                   have HS0_ := (hb.cell (World.block_lt_of_cell? _ _ (hHeld.1))).trans (hHeld.1)
                   have HS1_ := (hb.cell (World.block_lt_of_cell? _ _ (hHeld.2.1))).trans (hHeld.2.1)
                   have HS2_ := (hb.cell (World.block_lt_of_cell? _ _ (hHeld.2.2.1))).trans (hHeld.2.2.1)
                   have n0_ := Aside0.mk (Kd.R_below (Kd.R_elderB (Rt HO_6.out) gb356 (Nat.le_of_eq hg.symm)) hb)
                   have n1_ := Aside0.mk (below_step (bl HB.out) hb)
                   have n2_ := Aside0.mk (hbox)
                   have n3_ := Aside0.mk ((by rw [hg]; exact (below_size (bl HB.out)) : w.heap.size ≤ gb356))
                   have n4_ := Aside0.mk ((by rw [hg]; exact (below_size (bl HB.out)) : w.heap.size ≤ gb356))
                   clear HO_6
                   clear HB
                   have HO_6 := n0_
                   have HB := n1_
                   have BK356 := n2_
                   have GW356 := n3_
                   have GE356 := n4_
                   clear n0_ n1_ n2_ n3_ n4_
                   clear hb hbox hg
                   refine hK.out _ _ ⟨HS0_, HS1_, HS2_, ((HB.out.cell (World.block_lt_of_cell? w _ hw351_0)).trans hw351_0), ((HB.out.cell (World.block_lt_of_cell? w _ hw351_1)).trans hw351_1), ((HB.out.cell (World.block_lt_of_cell? w _ hw351_2)).trans hw351_2)⟩ (fun hHeld => ?_)
                   clear hK K
                   refine norm_ (a' := ?_) ?_ ?_
                   rotate_left
                   ·as_aux_lemma =>
                    show Act.put _ (some 9) _ = _
                    simp only [Act.put, List.setIfInBounds_toArray, List.set_cons_zero, List.set_cons_succ, i64_w, i32_w]
                    rfl
                   exact norm_ (by simp only [putAll, Act.put, List.setIfInBounds_toArray, List.set_cons_zero, List.set_cons_succ]) (hCont (gb356) _ ⟨hHeld, (by (with_reducible repeat (first | apply Kd.R_alloc | apply Kd.R_drewN | apply Kd.R_drew)); exact Kd.R_mono HO_6.out (fun _ hk => hk.2)), (bt BK356.out), GW356.out, GE356.out, (bl HB.out)⟩)
                  ·as_aux_lemma =>
                   skip
                   refine box_step ?hg (N := 9) ?hd (cs := #[.int .i64 0, .int .i64 0, .int .i64 0]) (t := 36) ?hr ?_; (case hd => rfl); (case hg => rfl); (case hr => first | (go_simp; done) | (go_simp; rfl))
                   intro gb356 hg w82 hbox hb
                   have HS0_ := (hb.cell (World.block_lt_of_cell? _ _ (hHeld.1))).trans (hHeld.1)
                   have HS1_ := (hb.cell (World.block_lt_of_cell? _ _ (hHeld.2.1))).trans (hHeld.2.1)
                   have HS2_ := (hb.cell (World.block_lt_of_cell? _ _ (hHeld.2.2.1))).trans (hHeld.2.2.1)
                   have n0_ := Aside0.mk (Kd.R_below (Kd.R_elderB (Rt HO_6.out) gb356 (Nat.le_of_eq hg.symm)) hb)
                   have n1_ := Aside0.mk (below_step (bl HB.out) hb)
                   have n2_ := Aside0.mk (hbox)
                   have n3_ := Aside0.mk ((by rw [hg]; exact (below_size (bl HB.out)) : w.heap.size ≤ gb356))
                   have n4_ := Aside0.mk ((by rw [hg]; exact (below_size (bl HB.out)) : w.heap.size ≤ gb356))
                   clear HO_6
                   clear HB
                   have HO_6 := n0_
                   have HB := n1_
                   have BK356 := n2_
                   have GW356 := n3_
                   have GE356 := n4_
                   clear n0_ n1_ n2_ n3_ n4_
                   clear hb hbox hg
                   refine hK.out _ _ ⟨HS0_, HS1_, HS2_, ((HB.out.cell (World.block_lt_of_cell? w _ hw351_0)).trans hw351_0), ((HB.out.cell (World.block_lt_of_cell? w _ hw351_1)).trans hw351_1), ((HB.out.cell (World.block_lt_of_cell? w _ hw351_2)).trans hw351_2)⟩ (fun hHeld => ?_)
                   clear hK K
                   refine norm_ (a' := ?_) ?_ ?_
                   rotate_left
                   ·as_aux_lemma =>
                    show Act.put _ (some 9) _ = _
                    simp only [Act.put, List.setIfInBounds_toArray, List.set_cons_zero, List.set_cons_succ, i64_w, i32_w]
                    rfl
                   refine one_ (i := 8) (N := some 93) #[true, true, true, true, true, true, true, true, true, false, false, false, true, false, false] rfl rfl (one_of HT_.out (by kernel_rfl)) (by decide) (fun K hK => ?_)
                   refine goes_ Try.func23 (by kernel_rfl) rfl #[.agg #[.int .i64 ((rd_T36 t343 x8_3).f0), .int .i64 ((rd_T36 t343 x8_3).f1), .int .i64 ((rd_T36 t343 x8_3).f2)], .agg #[.int .i64 ((rd_T36 l0 a1).f0), .int .i64 ((rd_T36 l0 a1).f1), .int .i64 ((rd_T36 l0 a1).f2)]] (by rfl) rfl rfl (by (try simp only [List.map_toArray, List.map_cons, List.map_nil]); first | done | rfl | (simp only [List.length_drop, List.length_take]; rfl)) ?_
                   with_reducible refine (fringeref25_Mul.calls k3 ((rd_T36 t343 x8_3).f0) ((rd_T36 t343 x8_3).f1) ((rd_T36 t343 x8_3).f2) ((rd_T36 l0 a1).f0) ((rd_T36 l0 a1).f1) ((rd_T36 l0 a1).f2) t352 t353 t354 t355 _ A39.out).mono ?_
                   rintro e w83 ⟨rfl, hb⟩
                   have HS0_ := (hb.cell (World.block_lt_of_cell? _ _ (hHeld.1))).trans (hHeld.1)
                   have HS1_ := (hb.cell (World.block_lt_of_cell? _ _ (hHeld.2.1))).trans (hHeld.2.1)
                   have HS2_ := (hb.cell (World.block_lt_of_cell? _ _ (hHeld.2.2.1))).trans (hHeld.2.2.1)
                   refine ⟨_, rfl, ?_⟩
                   have n0_ := Aside0.mk (Kd.R_below (Rt HO_6.out) hb)
                   have n1_ := Aside0.mk (blk_below (g := gb356) (o := .cells #[.int .i64 0, .int .i64 0, .int .i64 0] 36 (0, 0)) (bt BK356.out) hb)
                   have n2_ := Aside0.mk (below_step (bl HB.out) hb)
                   clear HO_6
                   clear BK356
                   clear HB
                   have HO_6 := n0_
                   have BK356 := n1_
                   have HB := n2_
                   clear n0_ n1_ n2_
                   (try clear hb)
                   (try clear hb2)
                   (try clear hk)
                   (try clear hi)
                   refine hK.out _ _ ⟨HS0_, HS1_, HS2_, ((HB.out.cell (World.block_lt_of_cell? w _ hw351_0)).trans hw351_0), ((HB.out.cell (World.block_lt_of_cell? w _ hw351_1)).trans hw351_1), ((HB.out.cell (World.block_lt_of_cell? w _ hw351_2)).trans hw351_2)⟩ (fun hHeld => ?_)
                   clear hK K
                   refine norm_ (a' := ?_) ?_ ?_
                   rotate_left
                   ·as_aux_lemma =>
                    show Act.put _ (some 93) _ = _
                    simp only [Act.put, List.setIfInBounds_toArray, List.set_cons_zero, List.set_cons_succ, i64_w, i32_w]
                    rfl
                   refine pure_ (i := 9) (N := some 84) (v := ?_) (a' := ?_) #[true, true, true, true, true, true, true, true, true, true, false, false, true, false, false] rfl rfl (any_of HT_.out (by kernel_rfl)) (fun _ _ _ h => h) (Or.inl ⟨by rfl, ?_⟩) ?_ ?_
                   rotate_left
                   ·as_aux_lemma =>
                    intro w'
                    go_simp
                    with_reducible rfl
                   rotate_left
                   ·as_aux_lemma =>
                    simp only [Act.put, List.setIfInBounds_toArray, List.set_cons_zero, List.set_cons_succ, i64_w, i32_w]
                    rfl
                   refine pure_ (i := 10) (N := some 94) (v := ?_) (a' := ?_) #[true, true, true, true, true, true, true, true, true, true, true, false, true, false, false] rfl rfl (any_of HT_.out (by kernel_rfl)) (fun _ _ _ h => h) (Or.inl ⟨by rfl, ?_⟩) ?_ ?_
                   rotate_left
                   ·as_aux_lemma =>
                    intro w'
                    go_simp
                    with_reducible rfl
                   rotate_left
                   ·as_aux_lemma =>
                    simp only [Act.put, List.setIfInBounds_toArray, List.set_cons_zero, List.set_cons_succ, i64_w, i32_w]
                    rfl
                   refine pure_ (i := 11) (N := some 95) (v := ?_) (a' := ?_) #[true, true, true, true, true, true, true, true, true, true, true, true, true, false, false] rfl rfl (any_of HT_.out (by kernel_rfl)) (fun _ _ _ h => h) (Or.inl ⟨by rfl, ?_⟩) ?_ ?_
                   rotate_left
                   ·as_aux_lemma =>
                    intro w'
                    go_simp
                    with_reducible rfl
                   rotate_left
                   ·as_aux_lemma =>
                    simp only [Act.put, List.setIfInBounds_toArray, List.set_cons_zero, List.set_cons_succ, i64_w, i32_w]
                    rfl
                   exact norm_ (by simp only [putAll, Act.put, List.setIfInBounds_toArray, List.set_cons_zero, List.set_cons_succ]) (hCont (gb356) _ ⟨hHeld, (by (with_reducible repeat (first | apply Kd.R_alloc | apply Kd.R_drewN | apply Kd.R_drew)); exact Kd.R_mono HO_6.out (fun _ hk => hk.2)), (bt BK356.out), GW356.out, GE356.out, (bl HB.out)⟩)
                 rintro gb356 w84 ⟨hS_, h0_, h1_, h2_, h3_, h4_⟩
                 have n0_ : Aside0 (Kd.R k36 36 w84 w.heap.size (fun k_ => k_ ≠ gb356) (.slice (some ad350) t343.length co81) t343) := ⟨h0_⟩
                 have n1_ : Aside0 (w84.heap[gb356]? = some (.cells #[.int .i64 0, .int .i64 0, .int .i64 0] 36 (0, 0))) := ⟨h1_⟩
                 have n2_ : Aside0 (w.heap.size ≤ gb356) := ⟨h2_⟩
                 have n3_ : Aside0 (w.heap.size ≤ gb356) := ⟨h3_⟩
                 have n4_ : Aside0 (Below w.heap.size w w84) := ⟨h4_⟩
                 clear HO_6
                 clear HB
                 clear h0_ h1_ h2_ h3_ h4_
                 have HO_6 := n0_
                 have BK356 := n1_
                 have GW356 := n2_
                 have GE356 := n3_
                 have HB := n4_
                 clear n0_ n1_ n2_ n3_ n4_
                 have hHeld : w84.cell? (ad350.add ((x8_3).toNat * 3)) = some (.int .i64 ((rd_T36 t343 x8_3).f0)) ∧ w84.cell? ⟨(ad350.add ((x8_3).toNat * 3)).block, (ad350.add ((x8_3).toNat * 3)).off + 1, none⟩ = some (.int .i64 ((rd_T36 t343 x8_3).f1)) ∧ w84.cell? ⟨(ad350.add ((x8_3).toNat * 3)).block, (ad350.add ((x8_3).toNat * 3)).off + 2, none⟩ = some (.int .i64 ((rd_T36 t343 x8_3).f2)) ∧ w84.cell? (ad351.add ((a1).toNat * 3)) = some (.int .i64 ((rd_T36 l0 a1).f0)) ∧ w84.cell? ⟨(ad351.add ((a1).toNat * 3)).block, (ad351.add ((a1).toNat * 3)).off + 1, none⟩ = some (.int .i64 ((rd_T36 l0 a1).f1)) ∧ w84.cell? ⟨(ad351.add ((a1).toNat * 3)).block, (ad351.add ((a1).toNat * 3)).off + 2, none⟩ = some (.int .i64 ((rd_T36 l0 a1).f2)) := hS_
                 refine norm_ (a' := ?_) ?_ ?_
                 rotate_left
                 ·as_aux_lemma =>
                  simp only [putAll, Act.put, List.setIfInBounds_toArray, List.set_cons_zero, List.set_cons_succ]
                  rfl
                 refine one_ (i := 13) (N := none) #[true, true, true, true, true, true, true, true, true, true, true, true, true, true, false] rfl rfl (one_of HT_.out (by kernel_rfl)) (by decide) (fun K hK => ?_)
                 have hs85 : w84.cell? ⟨gb356, 0, none⟩ = some (.int .i64 0) := (blk_cell BK356.out 0).trans rfl
                 have hfs85 := blk_frozen BK356.out 0
                 have hs86 : w84.cell? ⟨gb356, 1, none⟩ = some (.int .i64 0) := (blk_cell BK356.out 1).trans rfl
                 have hfs86 := blk_frozen BK356.out 1
                 have hs87 : w84.cell? ⟨gb356, 2, none⟩ = some (.int .i64 0) := (blk_cell BK356.out 2).trans rfl
                 have hfs87 := blk_frozen BK356.out 2
                 refine skip_ (w1 := ?_) (by rfl) rfl ?_ ?_
                 rotate_left
                 ·as_aux_lemma =>
                  go_simp
                  rfl
                 have F0_ : _ ≠ gb356 := Kd.own_blk (Kd.R_away HO_6.out (fun _ hk => hk))
                 refine hK.out _ _ ⟨((cell_far (p := ⟨gb356, _, none⟩) (by rw [add_block]; exact F0_) _).trans (((cell_far (p := ⟨gb356, _, none⟩) (by rw [add_block]; exact F0_) _).trans (((cell_far (p := ⟨gb356, _, none⟩) (by rw [add_block]; exact F0_) _).trans (hHeld.1)))))), ((cell_far (p := ⟨gb356, _, none⟩) (by rw [add_block]; exact F0_) _).trans (((cell_far (p := ⟨gb356, _, none⟩) (by rw [add_block]; exact F0_) _).trans (((cell_far (p := ⟨gb356, _, none⟩) (by rw [add_block]; exact F0_) _).trans (hHeld.2.1)))))), ((cell_far (p := ⟨gb356, _, none⟩) (by rw [add_block]; exact F0_) _).trans (((cell_far (p := ⟨gb356, _, none⟩) (by rw [add_block]; exact F0_) _).trans (((cell_far (p := ⟨gb356, _, none⟩) (by rw [add_block]; exact F0_) _).trans (hHeld.2.2.1)))))), ((cell_far (p := ⟨gb356, _, none⟩) (by first | exact Nat.ne_of_lt (Nat.lt_of_lt_of_le (by have := World.block_lt_of_cell? _ _ hw351_0; first | rwa [add_block] at this | exact this) GW356.out) | (rw [add_block]; exact Nat.ne_of_lt (Nat.lt_of_lt_of_le (by have := World.block_lt_of_cell? _ _ hw351_0; first | rwa [add_block] at this | exact this) GW356.out))) _).trans (((cell_far (p := ⟨gb356, _, none⟩) (by first | exact Nat.ne_of_lt (Nat.lt_of_lt_of_le (by have := World.block_lt_of_cell? _ _ hw351_0; first | rwa [add_block] at this | exact this) GW356.out) | (rw [add_block]; exact Nat.ne_of_lt (Nat.lt_of_lt_of_le (by have := World.block_lt_of_cell? _ _ hw351_0; first | rwa [add_block] at this | exact this) GW356.out))) _).trans (((cell_far (p := ⟨gb356, _, none⟩) (by first | exact Nat.ne_of_lt (Nat.lt_of_lt_of_le (by have := World.block_lt_of_cell? _ _ hw351_0; first | rwa [add_block] at this | exact this) GW356.out) | (rw [add_block]; exact Nat.ne_of_lt (Nat.lt_of_lt_of_le (by have := World.block_lt_of_cell? _ _ hw351_0; first | rwa [add_block] at this | exact this) GW356.out))) _).trans (hHeld.2.2.2.1)))))), ((cell_far (p := ⟨gb356, _, none⟩) (by first | exact Nat.ne_of_lt (Nat.lt_of_lt_of_le (by have := World.block_lt_of_cell? _ _ hw351_1; first | rwa [add_block] at this | exact this) GW356.out) | (rw [add_block]; exact Nat.ne_of_lt (Nat.lt_of_lt_of_le (by have := World.block_lt_of_cell? _ _ hw351_1; first | rwa [add_block] at this | exact this) GW356.out))) _).trans (((cell_far (p := ⟨gb356, _, none⟩) (by first | exact Nat.ne_of_lt (Nat.lt_of_lt_of_le (by have := World.block_lt_of_cell? _ _ hw351_1; first | rwa [add_block] at this | exact this) GW356.out) | (rw [add_block]; exact Nat.ne_of_lt (Nat.lt_of_lt_of_le (by have := World.block_lt_of_cell? _ _ hw351_1; first | rwa [add_block] at this | exact this) GW356.out))) _).trans (((cell_far (p := ⟨gb356, _, none⟩) (by first | exact Nat.ne_of_lt (Nat.lt_of_lt_of_le (by have := World.block_lt_of_cell? _ _ hw351_1; first | rwa [add_block] at this | exact this) GW356.out) | (rw [add_block]; exact Nat.ne_of_lt (Nat.lt_of_lt_of_le (by have := World.block_lt_of_cell? _ _ hw351_1; first | rwa [add_block] at this | exact this) GW356.out))) _).trans (hHeld.2.2.2.2.1)))))), ((cell_far (p := ⟨gb356, _, none⟩) (by first | exact Nat.ne_of_lt (Nat.lt_of_lt_of_le (by have := World.block_lt_of_cell? _ _ hw351_2; first | rwa [add_block] at this | exact this) GW356.out) | (rw [add_block]; exact Nat.ne_of_lt (Nat.lt_of_lt_of_le (by have := World.block_lt_of_cell? _ _ hw351_2; first | rwa [add_block] at this | exact this) GW356.out))) _).trans (((cell_far (p := ⟨gb356, _, none⟩) (by first | exact Nat.ne_of_lt (Nat.lt_of_lt_of_le (by have := World.block_lt_of_cell? _ _ hw351_2; first | rwa [add_block] at this | exact this) GW356.out) | (rw [add_block]; exact Nat.ne_of_lt (Nat.lt_of_lt_of_le (by have := World.block_lt_of_cell? _ _ hw351_2; first | rwa [add_block] at this | exact this) GW356.out))) _).trans (((cell_far (p := ⟨gb356, _, none⟩) (by first | exact Nat.ne_of_lt (Nat.lt_of_lt_of_le (by have := World.block_lt_of_cell? _ _ hw351_2; first | rwa [add_block] at this | exact this) GW356.out) | (rw [add_block]; exact Nat.ne_of_lt (Nat.lt_of_lt_of_le (by have := World.block_lt_of_cell? _ _ hw351_2; first | rwa [add_block] at this | exact this) GW356.out))) _).trans (hHeld.2.2.2.2.2))))))⟩ (fun hHeld => ?_)
                 clear hK K
                 refine pure_ (i := 14) (N := some 10) (v := ?_) (a' := ?_) #[true, true, true, true, true, true, true, true, true, true, true, true, true, true, true] rfl rfl (any_of HT_.out (by kernel_rfl)) (fun _ _ _ h => h) (Or.inl ⟨by rfl, ?_⟩) ?_ ?_
                 rotate_left
                 ·as_aux_lemma =>
                  intro w'
                  go_simp
                  with_reducible rfl
                 rotate_left
                 ·as_aux_lemma =>
                  simp only [Act.put, List.setIfInBounds_toArray, List.set_cons_zero, List.set_cons_succ, i64_w, i32_w]
                  rfl
                 refine done_ (done_of HT_.out (by kernel_rfl)) ?_
                 try go_wp2
                 have n0_ : Aside0 (Kd.R k36 36 (((w84.setCell ⟨gb356, 0, none⟩ (.int .i64 t352)).setCell ⟨gb356, 1, none⟩ (.int .i64 t353)).setCell ⟨gb356, 2, none⟩ (.int .i64 t354)) w.heap.size (fun k_ => k_ ≠ gb356) (.slice (some ad350) t343.length co81) t343) := ⟨by (with_reducible repeat (first | apply Kd.R_alloc | apply Kd.R_drewN | apply Kd.R_drew)); exact Kd.R_mono (Kd.R_far (p := ⟨gb356, 2, none⟩) (Kd.R_far (p := ⟨gb356, 1, none⟩) (Kd.R_far (p := ⟨gb356, 0, none⟩) (Kd.R_mono HO_6.out (fun k_ hk => (⟨hk, hk⟩ : _ ∧ k_ ≠ gb356))) (fun _ hk => hk.2) (.int .i64 t352)) (fun _ hk => hk.2) (.int .i64 t353)) (fun _ hk => hk.2) (.int .i64 t354)) (fun _ hk => hk.1)⟩
                 have n1_ : Aside0 ((((w84.setCell ⟨gb356, 0, none⟩ (.int .i64 t352)).setCell ⟨gb356, 1, none⟩ (.int .i64 t353)).setCell ⟨gb356, 2, none⟩ (.int .i64 t354)).heap[gb356]? = some (.cells #[.int .i64 t352, .int .i64 t353, .int .i64 t354] 36 (0, 0))) := ⟨by (with_reducible repeat (first | refine blk_drewN ?_ _ | refine blk_drew ?_ | refine blk_alloc ?_ _)); refine blk_put (cs := #[.int .i64 t352, .int .i64 t353, .int .i64 0]) ?_ 2 _ rfl; (with_reducible repeat (first | refine blk_drewN ?_ _ | refine blk_drew ?_ | refine blk_alloc ?_ _)); refine blk_put (cs := #[.int .i64 t352, .int .i64 0, .int .i64 0]) ?_ 1 _ rfl; (with_reducible repeat (first | refine blk_drewN ?_ _ | refine blk_drew ?_ | refine blk_alloc ?_ _)); refine blk_put (cs := #[.int .i64 0, .int .i64 0, .int .i64 0]) ?_ 0 _ rfl; (with_reducible repeat (first | refine blk_drewN ?_ _ | refine blk_drew ?_ | refine blk_alloc ?_ _)); exact BK356.out⟩
                 have n2_ : Aside0 (Below w.heap.size w (((w84.setCell ⟨gb356, 0, none⟩ (.int .i64 t352)).setCell ⟨gb356, 1, none⟩ (.int .i64 t353)).setCell ⟨gb356, 2, none⟩ (.int .i64 t354))) := ⟨by repeat (first | (with_reducible first | exact HB.out | apply below_alloc | apply pw_below_drewN | apply below_drew1 | refine below_set ?_ GE356.out) | exact HB.out)⟩
                 (try clear HO_6)
                 (try clear BK356)
                 (try clear HB)
                 generalize (((w84.setCell ⟨gb356, 0, none⟩ (.int .i64 t352)).setCell ⟨gb356, 1, none⟩ (.int .i64 t353)).setCell ⟨gb356, 2, none⟩ (.int .i64 t354)) = w88 at n0_ n1_ n2_ ⊢
                 have HO_6 := n0_
                 have BK356 := n1_
                 have HB := n2_
                 clear n0_ n1_ n2_
                 have n0_ := Aside0.mk (Kd.R_drew HO_6.out)
                 have n1_ := Aside0.mk (blk_drew BK356.out)
                 have n2_ := Aside0.mk (below_drew1 HB.out)
                 clear HO_6
                 clear BK356
                 clear HB
                 have HO_6 := n0_
                 have BK356 := n1_
                 have HB := n2_
                 clear n0_ n1_ n2_
                 have p357 : 0 ≤ (a1 : Int) := of_decide_eq_true (by first | (with_reducible assumption) | assumption)
                 have q357 : a1 < (t343.length : Int) := of_decide_eq_true (by first | (with_reducible assumption) | assumption)
                 obtain ⟨ad357, e357, hx357_0, hx357_1, hx357_2⟩ := at_T36 (Kd.R_reads' HO_6.out).2.2 a1 p357 q357
                 obtain rfl : ad350 = ad357 := (by injection e357)
                 replace p357 := eq_true p357
                 replace q357 := eq_true q357
                 have p358 : 0 ≤ (x8_3 : Int) := of_decide_eq_true (by first | (with_reducible assumption) | assumption)
                 have q358 : x8_3 < (l0.length : Int) := of_decide_eq_true (by first | (with_reducible assumption) | assumption)
                 obtain ⟨ad358, e358, hx358_0, hx358_1, hx358_2⟩ := at_T36 HR0.out x8_3 p358 q358
                 have hw358_2 := hx358_2
                 have hw358_1 := hx358_1
                 have hw358_0 := hx358_0
                 obtain rfl : ad351 = ad358 := (by injection e358)
                 replace hx358_0 := (HB.out.cell (World.block_lt_of_cell? w _ hx358_0)).trans hx358_0
                 replace hx358_1 := (HB.out.cell (World.block_lt_of_cell? w _ hx358_1)).trans hx358_1
                 replace hx358_2 := (HB.out.cell (World.block_lt_of_cell? w _ hx358_2)).trans hx358_2
                 replace p358 := eq_true p358
                 replace q358 := eq_true q358
                 refine start_ (n := 15) (S := fun w' => w'.cell? (ad350.add ((a1).toNat * 3)) = some (.int .i64 ((rd_T36 t343 a1).f0)) ∧ w'.cell? ⟨(ad350.add ((a1).toNat * 3)).block, (ad350.add ((a1).toNat * 3)).off + 1, none⟩ = some (.int .i64 ((rd_T36 t343 a1).f1)) ∧ w'.cell? ⟨(ad350.add ((a1).toNat * 3)).block, (ad350.add ((a1).toNat * 3)).off + 2, none⟩ = some (.int .i64 ((rd_T36 t343 a1).f2)) ∧ w'.cell? (ad351.add ((x8_3).toNat * 3)) = some (.int .i64 ((rd_T36 l0 x8_3).f0)) ∧ w'.cell? ⟨(ad351.add ((x8_3).toNat * 3)).block, (ad351.add ((x8_3).toNat * 3)).off + 1, none⟩ = some (.int .i64 ((rd_T36 l0 x8_3).f1)) ∧ w'.cell? ⟨(ad351.add ((x8_3).toNat * 3)).block, (ad351.add ((x8_3).toNat * 3)).off + 2, none⟩ = some (.int .i64 ((rd_T36 l0 x8_3).f2))) (ds := []) #[false, false, false, false, false, false, false, false, false, false, false, false, false, false, false] (by kernel_rfl) rfl rfl ⟨hx357_0, hx357_1, hx357_2, ((HB.out.cell (World.block_lt_of_cell? w _ hw358_0)).trans hw358_0), ((HB.out.cell (World.block_lt_of_cell? w _ hw358_1)).trans hw358_1), ((HB.out.cell (World.block_lt_of_cell? w _ hw358_2)).trans hw358_2)⟩ (fun hHeld => ?_); refine with_tabW fringelaw26_GainRefer.tab13 fringelaw26_GainRefer.bits13 (fun HT_ HW_ => ?_)
                 generalize w88.drew = w89 at HO_6 BK356 HB hx357_0 hx357_1 hx357_2 hx358_0 hx358_1 hx358_2 hHeld ⊢
                 refine pure_ (i := 0) (N := some 97) (v := ?_) (a' := ?_) #[true, false, false, false, false, false, false, false, false, false, false, false, false, false, false] rfl rfl (any_of HT_.out (by kernel_rfl)) (fun _ _ _ h => h) (Or.inl ⟨by rfl, ?_⟩) ?_ ?_
                 rotate_left
                 ·as_aux_lemma =>
                  intro w'
                  go_simp
                  with_reducible rfl
                 rotate_left
                 ·as_aux_lemma =>
                  simp only [Act.put, List.setIfInBounds_toArray, List.set_cons_zero, List.set_cons_succ, i64_w, i32_w]
                  rfl
                 refine pure_ (i := 1) (N := some 98) (v := ?_) (a' := ?_) #[true, true, false, false, false, false, false, false, false, false, false, false, false, false, false] rfl rfl (any_of HT_.out (by kernel_rfl)) (fun _ _ _ h => h) (Or.inl ⟨by rfl, ?_⟩) ?_ ?_
                 rotate_left
                 ·as_aux_lemma =>
                  intro w'
                  go_simp
                  with_reducible rfl
                 rotate_left
                 ·as_aux_lemma =>
                  simp only [Act.put, List.setIfInBounds_toArray, List.set_cons_zero, List.set_cons_succ, i64_w, i32_w]
                  rfl
                 refine pure_ (i := 2) (N := some 99) (v := ?_) (a' := ?_) #[true, true, true, false, false, false, false, false, false, false, false, false, false, false, false] rfl rfl (any_of HT_.out (by kernel_rfl)) (fun _ _ _ h => h) (Or.inl ⟨by rfl, ?_⟩) ?_ ?_
                 rotate_left
                 ·as_aux_lemma =>
                  intro w'
                  go_simp
                  with_reducible rfl
                 rotate_left
                 ·as_aux_lemma =>
                  simp only [Act.put, List.setIfInBounds_toArray, List.set_cons_zero, List.set_cons_succ, i64_w, i32_w]
                  rfl
                 refine pure_ (i := 4) (N := some 101) (v := ?_) (a' := ?_) #[true, true, true, false, true, false, false, false, false, false, false, false, false, false, false] rfl rfl (any_of HT_.out (by kernel_rfl)) (fun _ _ _ h => h) (Or.inl ⟨by rfl, ?_⟩) ?_ ?_
                 rotate_left
                 ·as_aux_lemma =>
                  intro w'
                  go_simp
                  with_reducible rfl
                 rotate_left
                 ·as_aux_lemma =>
                  simp only [Act.put, List.setIfInBounds_toArray, List.set_cons_zero, List.set_cons_succ, i64_w, i32_w]
                  rfl
                 refine pure_ (i := 5) (N := some 102) (v := ?_) (a' := ?_) #[true, true, true, false, true, true, false, false, false, false, false, false, false, false, false] rfl rfl (any_of HT_.out (by kernel_rfl)) (fun _ _ _ h => h) (Or.inl ⟨by rfl, ?_⟩) ?_ ?_
                 rotate_left
                 ·as_aux_lemma =>
                  intro w'
                  go_simp
                  with_reducible rfl
                 rotate_left
                 ·as_aux_lemma =>
                  simp only [Act.put, List.setIfInBounds_toArray, List.set_cons_zero, List.set_cons_succ, i64_w, i32_w]
                  rfl
                 refine pure_ (i := 6) (N := some 103) (v := ?_) (a' := ?_) #[true, true, true, false, true, true, true, false, false, false, false, false, false, false, false] rfl rfl (any_of HT_.out (by kernel_rfl)) (fun _ _ _ h => h) (Or.inl ⟨by rfl, ?_⟩) ?_ ?_
                 rotate_left
                 ·as_aux_lemma =>
                  intro w'
                  go_simp
                  with_reducible rfl
                 rotate_left
                 ·as_aux_lemma =>
                  simp only [Act.put, List.setIfInBounds_toArray, List.set_cons_zero, List.set_cons_succ, i64_w, i32_w]
                  rfl
                 refine take_ (i := 3) (N := some 100) (v := ?_) (a' := ?_) #[true, true, true, true, true, true, true, false, false, false, false, false, false, false, false] rfl rfl (take_ofW HT_.out HW_.out (by kernel_rfl)) (fun _ _ _ h => h) (Or.inl ⟨by rfl, ?_⟩) hHeld ?_ ?_
                 rotate_left
                 ·as_aux_lemma =>
                  rintro w' ⟨s0, s1, s2, s3, s4, s5⟩
                  go_simp
                  with_reducible rfl
                 rotate_left
                 ·as_aux_lemma =>
                  simp only [Act.put, List.setIfInBounds_toArray, List.set_cons_zero, List.set_cons_succ, i64_w, i32_w]
                  rfl
                 refine take_ (i := 7) (N := some 104) (v := ?_) (a' := ?_) #[true, true, true, true, true, true, true, true, false, false, false, false, false, false, false] rfl rfl (take_ofW HT_.out HW_.out (by kernel_rfl)) (fun _ _ _ h => h) (Or.inl ⟨by rfl, ?_⟩) hHeld ?_ ?_
                 rotate_left
                 ·as_aux_lemma =>
                  rintro w' ⟨s0, s1, s2, s3, s4, s5⟩
                  go_simp
                  with_reducible rfl
                 rotate_left
                 ·as_aux_lemma =>
                  simp only [Act.put, List.setIfInBounds_toArray, List.set_cons_zero, List.set_cons_succ, i64_w, i32_w]
                  rfl
                 refine join_ (σ := Nat) 2 #[true, true, true, true, true, true, true, true, true, true, true, true, true, false, false] (fun s_ => [(105, .tuple #[.agg #[.int .i64 t359, .int .i64 t360, .int .i64 t361], .int .i64 t362]), (11, .pointer (some ⟨s_, 0, none⟩)), (96, .tuple #[.agg #[.int .i64 t359, .int .i64 t360, .int .i64 t361], .int .i64 t362]), (106, .agg #[.int .i64 t359, .int .i64 t360, .int .i64 t361]), (107, .int .i64 t362)]) (fun s_ w' => (w'.cell? (ad350.add ((a1).toNat * 3)) = some (.int .i64 ((rd_T36 t343 a1).f0)) ∧ w'.cell? ⟨(ad350.add ((a1).toNat * 3)).block, (ad350.add ((a1).toNat * 3)).off + 1, none⟩ = some (.int .i64 ((rd_T36 t343 a1).f1)) ∧ w'.cell? ⟨(ad350.add ((a1).toNat * 3)).block, (ad350.add ((a1).toNat * 3)).off + 2, none⟩ = some (.int .i64 ((rd_T36 t343 a1).f2)) ∧ w'.cell? (ad351.add ((x8_3).toNat * 3)) = some (.int .i64 ((rd_T36 l0 x8_3).f0)) ∧ w'.cell? ⟨(ad351.add ((x8_3).toNat * 3)).block, (ad351.add ((x8_3).toNat * 3)).off + 1, none⟩ = some (.int .i64 ((rd_T36 l0 x8_3).f1)) ∧ w'.cell? ⟨(ad351.add ((x8_3).toNat * 3)).block, (ad351.add ((x8_3).toNat * 3)).off + 2, none⟩ = some (.int .i64 ((rd_T36 l0 x8_3).f2))) ∧ (Kd.R k36 36 w' w.heap.size (fun k_ => k_ ≠ gb356 ∧ k_ ≠ s_) (.slice (some ad350) t343.length co81) t343) ∧ (w'.heap[gb356]? = some (.cells #[.int .i64 t352, .int .i64 t353, .int .i64 t354] 36 (0, 0))) ∧ (w'.heap[s_]? = some (.cells #[.int .i64 0, .int .i64 0, .int .i64 0] 36 (0, 0))) ∧ (w.heap.size ≤ s_) ∧ (w.heap.size ≤ s_) ∧ (gb356 ≠ s_) ∧ (s_ ≠ gb356) ∧ (Below w.heap.size w w')) ?_ ?_
                 rotate_left
                 ·as_aux_lemma =>
                  intro hCont
                  refine two_ (i := 8) (j := 12) (Ni := some 105) (Nj := some 11) #[true, true, true, true, true, true, true, true, true, false, false, false, false, false, false] #[true, true, true, true, true, true, true, true, false, false, false, false, true, false, false] rfl rfl rfl rfl (two_of HT_.out (by kernel_rfl)) (by decide) (by decide) (fun K hK => ?_) (fun K hK => ?_)
                  ·as_aux_lemma =>
                   skip
                   refine goes_ Try.func23 (by kernel_rfl) rfl #[.agg #[.int .i64 ((rd_T36 t343 a1).f0), .int .i64 ((rd_T36 t343 a1).f1), .int .i64 ((rd_T36 t343 a1).f2)], .agg #[.int .i64 ((rd_T36 l0 x8_3).f0), .int .i64 ((rd_T36 l0 x8_3).f1), .int .i64 ((rd_T36 l0 x8_3).f2)]] (by rfl) rfl rfl (by (try simp only [List.map_toArray, List.map_cons, List.map_nil]); first | done | rfl | (simp only [List.length_drop, List.length_take]; rfl)) ?_
                   with_reducible refine (fringeref25_Mul.calls k3 ((rd_T36 t343 a1).f0) ((rd_T36 t343 a1).f1) ((rd_T36 t343 a1).f2) ((rd_T36 l0 x8_3).f0) ((rd_T36 l0 x8_3).f1) ((rd_T36 l0 x8_3).f2) t359 t360 t361 t362 _ A41.out).mono ?_
                   rintro e w90 ⟨rfl, hb⟩
                   have HS0_ := (hb.cell (World.block_lt_of_cell? _ _ (hHeld.1))).trans (hHeld.1)
                   have HS1_ := (hb.cell (World.block_lt_of_cell? _ _ (hHeld.2.1))).trans (hHeld.2.1)
                   have HS2_ := (hb.cell (World.block_lt_of_cell? _ _ (hHeld.2.2.1))).trans (hHeld.2.2.1)
                   refine ⟨_, rfl, ?_⟩
                   have n0_ := Aside0.mk (Kd.R_below (Rt HO_6.out) hb)
                   have n1_ := Aside0.mk (blk_below (g := gb356) (o := .cells #[.int .i64 t352, .int .i64 t353, .int .i64 t354] 36 (0, 0)) (bt BK356.out) hb)
                   have n2_ := Aside0.mk (below_step (bl HB.out) hb)
                   clear HO_6
                   clear BK356
                   clear HB
                   have HO_6 := n0_
                   have BK356 := n1_
                   have HB := n2_
                   clear n0_ n1_ n2_
                   (try clear hb)
                   (try clear hb2)
                   (try clear hk)
                   (try clear hi)
                   refine hK.out _ _ ⟨HS0_, HS1_, HS2_, ((HB.out.cell (World.block_lt_of_cell? w _ hw358_0)).trans hw358_0), ((HB.out.cell (World.block_lt_of_cell? w _ hw358_1)).trans hw358_1), ((HB.out.cell (World.block_lt_of_cell? w _ hw358_2)).trans hw358_2)⟩ (fun hHeld => ?_)
                   clear hK K
                   refine norm_ (a' := ?_) ?_ ?_
                   rotate_left
                   ·as_aux_lemma =>
                    show Act.put _ (some 105) _ = _
                    simp only [Act.put, List.setIfInBounds_toArray, List.set_cons_zero, List.set_cons_succ, i64_w, i32_w]
                    rfl
                   refine pure_ (i := 9) (N := some 96) (v := ?_) (a' := ?_) #[true, true, true, true, true, true, true, true, true, true, false, false, false, false, false] rfl rfl (any_of HT_.out (by kernel_rfl)) (fun _ _ _ h => h) (Or.inl ⟨by rfl, ?_⟩) ?_ ?_
                   rotate_left
                   ·as_aux_lemma =>
                    intro w'
                    go_simp
                    with_reducible rfl
                   rotate_left
                   ·as_aux_lemma =>
                    simp only [Act.put, List.setIfInBounds_toArray, List.set_cons_zero, List.set_cons_succ, i64_w, i32_w]
                    rfl
                   refine pure_ (i := 10) (N := some 106) (v := ?_) (a' := ?_) #[true, true, true, true, true, true, true, true, true, true, true, false, false, false, false] rfl rfl (any_of HT_.out (by kernel_rfl)) (fun _ _ _ h => h) (Or.inl ⟨by rfl, ?_⟩) ?_ ?_
                   rotate_left
                   ·as_aux_lemma =>
                    intro w'
                    go_simp
                    with_reducible rfl
                   rotate_left
                   ·as_aux_lemma =>
                    simp only [Act.put, List.setIfInBounds_toArray, List.set_cons_zero, List.set_cons_succ, i64_w, i32_w]
                    rfl
                   refine pure_ (i := 11) (N := some 107) (v := ?_) (a' := ?_) #[true, true, true, true, true, true, true, true, true, true, true, true, false, false, false] rfl rfl (any_of HT_.out (by kernel_rfl)) (fun _ _ _ h => h) (Or.inl ⟨by rfl, ?_⟩) ?_ ?_
                   rotate_left
                   ·as_aux_lemma =>
                    intro w'
                    go_simp
                    with_reducible rfl
                   rotate_left
                   ·as_aux_lemma =>
                    simp only [Act.put, List.setIfInBounds_toArray, List.set_cons_zero, List.set_cons_succ, i64_w, i32_w]
                    rfl
                   refine one_ (i := 12) (N := some 11) #[true, true, true, true, true, true, true, true, true, true, true, true, true, false, false] rfl rfl (one_of HT_.out (by kernel_rfl)) (by decide) (fun K hK => ?_)
                   refine box_step ?hg (N := 11) ?hd (cs := #[.int .i64 0, .int .i64 0, .int .i64 0]) (t := 36) ?hr ?_; (case hd => rfl); (case hg => rfl); (case hr => first | (go_simp; done) | (go_simp; rfl))
                   intro gb363 hg w91 hbox hb
                   have HS0_ := (hb.cell (World.block_lt_of_cell? _ _ (hHeld.1))).trans (hHeld.1)
                   have HS1_ := (hb.cell (World.block_lt_of_cell? _ _ (hHeld.2.1))).trans (hHeld.2.1)
                   have HS2_ := (hb.cell (World.block_lt_of_cell? _ _ (hHeld.2.2.1))).trans (hHeld.2.2.1)
                   have n0_ := Aside0.mk (Kd.R_below (Kd.R_elderB (Rt HO_6.out) gb363 (Nat.le_of_eq hg.symm)) hb)
                   have n1_ := Aside0.mk (blk_below (g := gb356) (o := .cells #[.int .i64 t352, .int .i64 t353, .int .i64 t354] 36 (0, 0)) (bt BK356.out) hb)
                   have n2_ := Aside0.mk (below_step (bl HB.out) hb)
                   have n3_ := Aside0.mk (hbox)
                   have n4_ := Aside0.mk ((by rw [hg]; exact (below_size (bl HB.out)) : w.heap.size ≤ gb363))
                   have n5_ := Aside0.mk ((by rw [hg]; exact (below_size (bl HB.out)) : w.heap.size ≤ gb363))
                   have n6_ := Aside0.mk ((by rw [hg]; exact Nat.ne_of_lt (blk_lt (g := gb356) (o := .cells #[.int .i64 t352, .int .i64 t353, .int .i64 t354] 36 (0, 0)) (bt BK356.out)) : gb356 ≠ gb363))
                   have n7_ := Aside0.mk ((by rw [hg]; exact Nat.ne_of_gt (blk_lt (g := gb356) (o := .cells #[.int .i64 t352, .int .i64 t353, .int .i64 t354] 36 (0, 0)) (bt BK356.out)) : gb363 ≠ gb356))
                   clear HO_6
                   clear BK356
                   clear HB
                   have HO_6 := n0_
                   have BK356 := n1_
                   have HB := n2_
                   have BK363 := n3_
                   have GW363 := n4_
                   have GE363 := n5_
                   have NB356_363 := n6_
                   have NB363_356 := n7_
                   clear n0_ n1_ n2_ n3_ n4_ n5_ n6_ n7_
                   clear hb hbox hg
                   refine hK.out _ _ ⟨HS0_, HS1_, HS2_, ((HB.out.cell (World.block_lt_of_cell? w _ hw358_0)).trans hw358_0), ((HB.out.cell (World.block_lt_of_cell? w _ hw358_1)).trans hw358_1), ((HB.out.cell (World.block_lt_of_cell? w _ hw358_2)).trans hw358_2)⟩ (fun hHeld => ?_)
                   clear hK K
                   refine norm_ (a' := ?_) ?_ ?_
                   rotate_left
                   ·as_aux_lemma =>
                    show Act.put _ (some 11) _ = _
                    simp only [Act.put, List.setIfInBounds_toArray, List.set_cons_zero, List.set_cons_succ, i64_w, i32_w]
                    rfl
                   exact norm_ (by simp only [putAll, Act.put, List.setIfInBounds_toArray, List.set_cons_zero, List.set_cons_succ]) (hCont (gb363) _ ⟨hHeld, (Rt HO_6.out), (bt BK356.out), (bt BK363.out), GW363.out, GE363.out, NB356_363.out, NB363_356.out, (bl HB.out)⟩)
                  ·as_aux_lemma =>
                   skip
                   refine box_step ?hg (N := 11) ?hd (cs := #[.int .i64 0, .int .i64 0, .int .i64 0]) (t := 36) ?hr ?_; (case hd => rfl); (case hg => rfl); (case hr => first | (go_simp; done) | (go_simp; rfl))
                   intro gb363 hg w90 hbox hb
                   have HS0_ := (hb.cell (World.block_lt_of_cell? _ _ (hHeld.1))).trans (hHeld.1)
                   have HS1_ := (hb.cell (World.block_lt_of_cell? _ _ (hHeld.2.1))).trans (hHeld.2.1)
                   have HS2_ := (hb.cell (World.block_lt_of_cell? _ _ (hHeld.2.2.1))).trans (hHeld.2.2.1)
                   have n0_ := Aside0.mk (Kd.R_below (Kd.R_elderB (Rt HO_6.out) gb363 (Nat.le_of_eq hg.symm)) hb)
                   have n1_ := Aside0.mk (blk_below (g := gb356) (o := .cells #[.int .i64 t352, .int .i64 t353, .int .i64 t354] 36 (0, 0)) (bt BK356.out) hb)
                   have n2_ := Aside0.mk (below_step (bl HB.out) hb)
                   have n3_ := Aside0.mk (hbox)
                   have n4_ := Aside0.mk ((by rw [hg]; exact (below_size (bl HB.out)) : w.heap.size ≤ gb363))
                   have n5_ := Aside0.mk ((by rw [hg]; exact (below_size (bl HB.out)) : w.heap.size ≤ gb363))
                   have n6_ := Aside0.mk ((by rw [hg]; exact Nat.ne_of_lt (blk_lt (g := gb356) (o := .cells #[.int .i64 t352, .int .i64 t353, .int .i64 t354] 36 (0, 0)) (bt BK356.out)) : gb356 ≠ gb363))
                   have n7_ := Aside0.mk ((by rw [hg]; exact Nat.ne_of_gt (blk_lt (g := gb356) (o := .cells #[.int .i64 t352, .int .i64 t353, .int .i64 t354] 36 (0, 0)) (bt BK356.out)) : gb363 ≠ gb356))
                   clear HO_6
                   clear BK356
                   clear HB
                   have HO_6 := n0_
                   have BK356 := n1_
                   have HB := n2_
                   have BK363 := n3_
                   have GW363 := n4_
                   have GE363 := n5_
                   have NB356_363 := n6_
                   have NB363_356 := n7_
                   clear n0_ n1_ n2_ n3_ n4_ n5_ n6_ n7_
                   clear hb hbox hg
                   refine hK.out _ _ ⟨HS0_, HS1_, HS2_, ((HB.out.cell (World.block_lt_of_cell? w _ hw358_0)).trans hw358_0), ((HB.out.cell (World.block_lt_of_cell? w _ hw358_1)).trans hw358_1), ((HB.out.cell (World.block_lt_of_cell? w _ hw358_2)).trans hw358_2)⟩ (fun hHeld => ?_)
                   clear hK K
                   refine norm_ (a' := ?_) ?_ ?_
                   rotate_left
                   ·as_aux_lemma =>
                    show Act.put _ (some 11) _ = _
                    simp only [Act.put, List.setIfInBounds_toArray, List.set_cons_zero, List.set_cons_succ, i64_w, i32_w]
                    rfl
                   refine one_ (i := 8) (N := some 105) #[true, true, true, true, true, true, true, true, true, false, false, false, true, false, false] rfl rfl (one_of HT_.out (by kernel_rfl)) (by decide) (fun K hK => ?_)
                   refine goes_ Try.func23 (by kernel_rfl) rfl #[.agg #[.int .i64 ((rd_T36 t343 a1).f0), .int .i64 ((rd_T36 t343 a1).f1), .int .i64 ((rd_T36 t343 a1).f2)], .agg #[.int .i64 ((rd_T36 l0 x8_3).f0), .int .i64 ((rd_T36 l0 x8_3).f1), .int .i64 ((rd_T36 l0 x8_3).f2)]] (by rfl) rfl rfl (by (try simp only [List.map_toArray, List.map_cons, List.map_nil]); first | done | rfl | (simp only [List.length_drop, List.length_take]; rfl)) ?_
                   with_reducible refine (fringeref25_Mul.calls k3 ((rd_T36 t343 a1).f0) ((rd_T36 t343 a1).f1) ((rd_T36 t343 a1).f2) ((rd_T36 l0 x8_3).f0) ((rd_T36 l0 x8_3).f1) ((rd_T36 l0 x8_3).f2) t359 t360 t361 t362 _ A41.out).mono ?_
                   rintro e w91 ⟨rfl, hb⟩
                   have HS0_ := (hb.cell (World.block_lt_of_cell? _ _ (hHeld.1))).trans (hHeld.1)
                   have HS1_ := (hb.cell (World.block_lt_of_cell? _ _ (hHeld.2.1))).trans (hHeld.2.1)
                   have HS2_ := (hb.cell (World.block_lt_of_cell? _ _ (hHeld.2.2.1))).trans (hHeld.2.2.1)
                   refine ⟨_, rfl, ?_⟩
                   have n0_ := Aside0.mk (Kd.R_below (Rt HO_6.out) hb)
                   have n1_ := Aside0.mk (blk_below (g := gb356) (o := .cells #[.int .i64 t352, .int .i64 t353, .int .i64 t354] 36 (0, 0)) (bt BK356.out) hb)
                   have n2_ := Aside0.mk (blk_below (g := gb363) (o := .cells #[.int .i64 0, .int .i64 0, .int .i64 0] 36 (0, 0)) (bt BK363.out) hb)
                   have n3_ := Aside0.mk (below_step (bl HB.out) hb)
                   clear HO_6
                   clear BK356
                   clear BK363
                   clear HB
                   have HO_6 := n0_
                   have BK356 := n1_
                   have BK363 := n2_
                   have HB := n3_
                   clear n0_ n1_ n2_ n3_
                   (try clear hb)
                   (try clear hb2)
                   (try clear hk)
                   (try clear hi)
                   refine hK.out _ _ ⟨HS0_, HS1_, HS2_, ((HB.out.cell (World.block_lt_of_cell? w _ hw358_0)).trans hw358_0), ((HB.out.cell (World.block_lt_of_cell? w _ hw358_1)).trans hw358_1), ((HB.out.cell (World.block_lt_of_cell? w _ hw358_2)).trans hw358_2)⟩ (fun hHeld => ?_)
                   clear hK K
                   refine norm_ (a' := ?_) ?_ ?_
                   rotate_left
                   ·as_aux_lemma =>
                    show Act.put _ (some 105) _ = _
                    simp only [Act.put, List.setIfInBounds_toArray, List.set_cons_zero, List.set_cons_succ, i64_w, i32_w]
                    rfl
                   refine pure_ (i := 9) (N := some 96) (v := ?_) (a' := ?_) #[true, true, true, true, true, true, true, true, true, true, false, false, true, false, false] rfl rfl (any_of HT_.out (by kernel_rfl)) (fun _ _ _ h => h) (Or.inl ⟨by rfl, ?_⟩) ?_ ?_
                   rotate_left
                   ·as_aux_lemma =>
                    intro w'
                    go_simp
                    with_reducible rfl
                   rotate_left
                   ·as_aux_lemma =>
                    simp only [Act.put, List.setIfInBounds_toArray, List.set_cons_zero, List.set_cons_succ, i64_w, i32_w]
                    rfl
                   refine pure_ (i := 10) (N := some 106) (v := ?_) (a' := ?_) #[true, true, true, true, true, true, true, true, true, true, true, false, true, false, false] rfl rfl (any_of HT_.out (by kernel_rfl)) (fun _ _ _ h => h) (Or.inl ⟨by rfl, ?_⟩) ?_ ?_
                   rotate_left
                   ·as_aux_lemma =>
                    intro w'
                    go_simp
                    with_reducible rfl
                   rotate_left
                   ·as_aux_lemma =>
                    simp only [Act.put, List.setIfInBounds_toArray, List.set_cons_zero, List.set_cons_succ, i64_w, i32_w]
                    rfl
                   refine pure_ (i := 11) (N := some 107) (v := ?_) (a' := ?_) #[true, true, true, true, true, true, true, true, true, true, true, true, true, false, false] rfl rfl (any_of HT_.out (by kernel_rfl)) (fun _ _ _ h => h) (Or.inl ⟨by rfl, ?_⟩) ?_ ?_
                   rotate_left
                   ·as_aux_lemma =>
                    intro w'
                    go_simp
                    with_reducible rfl
                   rotate_left
                   ·as_aux_lemma =>
                    simp only [Act.put, List.setIfInBounds_toArray, List.set_cons_zero, List.set_cons_succ, i64_w, i32_w]
                    rfl
                   exact norm_ (by simp only [putAll, Act.put, List.setIfInBounds_toArray, List.set_cons_zero, List.set_cons_succ]) (hCont (gb363) _ ⟨hHeld, (Rt HO_6.out), (bt BK356.out), (bt BK363.out), GW363.out, GE363.out, NB356_363.out, NB363_356.out, (bl HB.out)⟩)
                 rintro gb363 w92 ⟨hS_, h0_, h1_, h2_, h3_, h4_, h5_, h6_, h7_⟩
                 have n0_ : Aside0 (Kd.R k36 36 w92 w.heap.size (fun k_ => k_ ≠ gb356 ∧ k_ ≠ gb363) (.slice (some ad350) t343.length co81) t343) := ⟨h0_⟩
                 have n1_ : Aside0 (w92.heap[gb356]? = some (.cells #[.int .i64 t352, .int .i64 t353, .int .i64 t354] 36 (0, 0))) := ⟨h1_⟩
                 have n2_ : Aside0 (w92.heap[gb363]? = some (.cells #[.int .i64 0, .int .i64 0, .int .i64 0] 36 (0, 0))) := ⟨h2_⟩
                 have n3_ : Aside0 (w.heap.size ≤ gb363) := ⟨h3_⟩
                 have n4_ : Aside0 (w.heap.size ≤ gb363) := ⟨h4_⟩
                 have n5_ : Aside0 (gb356 ≠ gb363) := ⟨h5_⟩
                 have n6_ : Aside0 (gb363 ≠ gb356) := ⟨h6_⟩
                 have n7_ : Aside0 (Below w.heap.size w w92) := ⟨h7_⟩
                 clear HO_6
                 clear BK356
                 clear HB
                 clear h0_ h1_ h2_ h3_ h4_ h5_ h6_ h7_
                 have HO_6 := n0_
                 have BK356 := n1_
                 have BK363 := n2_
                 have GW363 := n3_
                 have GE363 := n4_
                 have NB356_363 := n5_
                 have NB363_356 := n6_
                 have HB := n7_
                 clear n0_ n1_ n2_ n3_ n4_ n5_ n6_ n7_
                 have hHeld : w92.cell? (ad350.add ((a1).toNat * 3)) = some (.int .i64 ((rd_T36 t343 a1).f0)) ∧ w92.cell? ⟨(ad350.add ((a1).toNat * 3)).block, (ad350.add ((a1).toNat * 3)).off + 1, none⟩ = some (.int .i64 ((rd_T36 t343 a1).f1)) ∧ w92.cell? ⟨(ad350.add ((a1).toNat * 3)).block, (ad350.add ((a1).toNat * 3)).off + 2, none⟩ = some (.int .i64 ((rd_T36 t343 a1).f2)) ∧ w92.cell? (ad351.add ((x8_3).toNat * 3)) = some (.int .i64 ((rd_T36 l0 x8_3).f0)) ∧ w92.cell? ⟨(ad351.add ((x8_3).toNat * 3)).block, (ad351.add ((x8_3).toNat * 3)).off + 1, none⟩ = some (.int .i64 ((rd_T36 l0 x8_3).f1)) ∧ w92.cell? ⟨(ad351.add ((x8_3).toNat * 3)).block, (ad351.add ((x8_3).toNat * 3)).off + 2, none⟩ = some (.int .i64 ((rd_T36 l0 x8_3).f2)) := hS_
                 refine norm_ (a' := ?_) ?_ ?_
                 rotate_left
                 ·as_aux_lemma =>
                  simp only [putAll, Act.put, List.setIfInBounds_toArray, List.set_cons_zero, List.set_cons_succ]
                  rfl
                 refine one_ (i := 13) (N := none) #[true, true, true, true, true, true, true, true, true, true, true, true, true, true, false] rfl rfl (one_of HT_.out (by kernel_rfl)) (by decide) (fun K hK => ?_)
                 have hs93 : w92.cell? ⟨gb363, 0, none⟩ = some (.int .i64 0) := (blk_cell BK363.out 0).trans rfl
                 have hfs93 := blk_frozen BK363.out 0
                 have hns93_0 := NB356_363.out
                 have hms93_0 := NB363_356.out
                 have hs94 : w92.cell? ⟨gb363, 1, none⟩ = some (.int .i64 0) := (blk_cell BK363.out 1).trans rfl
                 have hfs94 := blk_frozen BK363.out 1
                 have hns94_0 := NB356_363.out
                 have hms94_0 := NB363_356.out
                 have hs95 : w92.cell? ⟨gb363, 2, none⟩ = some (.int .i64 0) := (blk_cell BK363.out 2).trans rfl
                 have hfs95 := blk_frozen BK363.out 2
                 have hns95_0 := NB356_363.out
                 have hms95_0 := NB363_356.out
                 refine skip_ (w1 := ?_) (by rfl) rfl ?_ ?_
                 rotate_left
                 ·as_aux_lemma =>
                  go_simp
                  rfl
                 have F0_ : _ ≠ gb363 := Kd.own_blk (Kd.R_away HO_6.out (fun _ hk => hk.2))
                 refine hK.out _ _ ⟨((cell_far (p := ⟨gb363, _, none⟩) (by rw [add_block]; exact F0_) _).trans (((cell_far (p := ⟨gb363, _, none⟩) (by rw [add_block]; exact F0_) _).trans (((cell_far (p := ⟨gb363, _, none⟩) (by rw [add_block]; exact F0_) _).trans (hHeld.1)))))), ((cell_far (p := ⟨gb363, _, none⟩) (by rw [add_block]; exact F0_) _).trans (((cell_far (p := ⟨gb363, _, none⟩) (by rw [add_block]; exact F0_) _).trans (((cell_far (p := ⟨gb363, _, none⟩) (by rw [add_block]; exact F0_) _).trans (hHeld.2.1)))))), ((cell_far (p := ⟨gb363, _, none⟩) (by rw [add_block]; exact F0_) _).trans (((cell_far (p := ⟨gb363, _, none⟩) (by rw [add_block]; exact F0_) _).trans (((cell_far (p := ⟨gb363, _, none⟩) (by rw [add_block]; exact F0_) _).trans (hHeld.2.2.1)))))), ((cell_far (p := ⟨gb363, _, none⟩) (by first | exact Nat.ne_of_lt (Nat.lt_of_lt_of_le (by have := World.block_lt_of_cell? _ _ hw358_0; first | rwa [add_block] at this | exact this) GW363.out) | (rw [add_block]; exact Nat.ne_of_lt (Nat.lt_of_lt_of_le (by have := World.block_lt_of_cell? _ _ hw358_0; first | rwa [add_block] at this | exact this) GW363.out))) _).trans (((cell_far (p := ⟨gb363, _, none⟩) (by first | exact Nat.ne_of_lt (Nat.lt_of_lt_of_le (by have := World.block_lt_of_cell? _ _ hw358_0; first | rwa [add_block] at this | exact this) GW363.out) | (rw [add_block]; exact Nat.ne_of_lt (Nat.lt_of_lt_of_le (by have := World.block_lt_of_cell? _ _ hw358_0; first | rwa [add_block] at this | exact this) GW363.out))) _).trans (((cell_far (p := ⟨gb363, _, none⟩) (by first | exact Nat.ne_of_lt (Nat.lt_of_lt_of_le (by have := World.block_lt_of_cell? _ _ hw358_0; first | rwa [add_block] at this | exact this) GW363.out) | (rw [add_block]; exact Nat.ne_of_lt (Nat.lt_of_lt_of_le (by have := World.block_lt_of_cell? _ _ hw358_0; first | rwa [add_block] at this | exact this) GW363.out))) _).trans (hHeld.2.2.2.1)))))), ((cell_far (p := ⟨gb363, _, none⟩) (by first | exact Nat.ne_of_lt (Nat.lt_of_lt_of_le (by have := World.block_lt_of_cell? _ _ hw358_1; first | rwa [add_block] at this | exact this) GW363.out) | (rw [add_block]; exact Nat.ne_of_lt (Nat.lt_of_lt_of_le (by have := World.block_lt_of_cell? _ _ hw358_1; first | rwa [add_block] at this | exact this) GW363.out))) _).trans (((cell_far (p := ⟨gb363, _, none⟩) (by first | exact Nat.ne_of_lt (Nat.lt_of_lt_of_le (by have := World.block_lt_of_cell? _ _ hw358_1; first | rwa [add_block] at this | exact this) GW363.out) | (rw [add_block]; exact Nat.ne_of_lt (Nat.lt_of_lt_of_le (by have := World.block_lt_of_cell? _ _ hw358_1; first | rwa [add_block] at this | exact this) GW363.out))) _).trans (((cell_far (p := ⟨gb363, _, none⟩) (by first | exact Nat.ne_of_lt (Nat.lt_of_lt_of_le (by have := World.block_lt_of_cell? _ _ hw358_1; first | rwa [add_block] at this | exact this) GW363.out) | (rw [add_block]; exact Nat.ne_of_lt (Nat.lt_of_lt_of_le (by have := World.block_lt_of_cell? _ _ hw358_1; first | rwa [add_block] at this | exact this) GW363.out))) _).trans (hHeld.2.2.2.2.1)))))), ((cell_far (p := ⟨gb363, _, none⟩) (by first | exact Nat.ne_of_lt (Nat.lt_of_lt_of_le (by have := World.block_lt_of_cell? _ _ hw358_2; first | rwa [add_block] at this | exact this) GW363.out) | (rw [add_block]; exact Nat.ne_of_lt (Nat.lt_of_lt_of_le (by have := World.block_lt_of_cell? _ _ hw358_2; first | rwa [add_block] at this | exact this) GW363.out))) _).trans (((cell_far (p := ⟨gb363, _, none⟩) (by first | exact Nat.ne_of_lt (Nat.lt_of_lt_of_le (by have := World.block_lt_of_cell? _ _ hw358_2; first | rwa [add_block] at this | exact this) GW363.out) | (rw [add_block]; exact Nat.ne_of_lt (Nat.lt_of_lt_of_le (by have := World.block_lt_of_cell? _ _ hw358_2; first | rwa [add_block] at this | exact this) GW363.out))) _).trans (((cell_far (p := ⟨gb363, _, none⟩) (by first | exact Nat.ne_of_lt (Nat.lt_of_lt_of_le (by have := World.block_lt_of_cell? _ _ hw358_2; first | rwa [add_block] at this | exact this) GW363.out) | (rw [add_block]; exact Nat.ne_of_lt (Nat.lt_of_lt_of_le (by have := World.block_lt_of_cell? _ _ hw358_2; first | rwa [add_block] at this | exact this) GW363.out))) _).trans (hHeld.2.2.2.2.2))))))⟩ (fun hHeld => ?_)
                 clear hK K
                 refine pure_ (i := 14) (N := some 12) (v := ?_) (a' := ?_) #[true, true, true, true, true, true, true, true, true, true, true, true, true, true, true] rfl rfl (any_of HT_.out (by kernel_rfl)) (fun _ _ _ h => h) (Or.inl ⟨by rfl, ?_⟩) ?_ ?_
                 rotate_left
                 ·as_aux_lemma =>
                  intro w'
                  go_simp
                  with_reducible rfl
                 rotate_left
                 ·as_aux_lemma =>
                  simp only [Act.put, List.setIfInBounds_toArray, List.set_cons_zero, List.set_cons_succ, i64_w, i32_w]
                  rfl
                 refine done_ (done_of HT_.out (by kernel_rfl)) ?_
                 try go_wp2
                 go_roundg k3
                 case measure => have := HJ3.out; have := HJ16.out; have := HK3.out; omega
                 case rel => exact ⟨(wrap64 (x8_3 + 1)), (by first | rfl | (simp; done) | (simp [*]; done)), H', ⟨by have := HJ3.out; have := HJ16.out; have := HK3.out; omega⟩, ⟨by (with_reducible repeat (first | apply Kd.R_alloc | apply Kd.R_drewN | apply Kd.R_drew)); exact Kd.R_mono (Kd.R_far (p := ⟨gb363, 2, none⟩) (Kd.R_far (p := ⟨gb363, 1, none⟩) (Kd.R_far (p := ⟨gb363, 0, none⟩) (Kd.R_mono HO_6.out (fun k_ hk => (⟨hk, hk.2⟩ : _ ∧ k_ ≠ gb363))) (fun _ hk => hk.2) (.int .i64 t359)) (fun _ hk => hk.2) (.int .i64 t360)) (fun _ hk => hk.2) (.int .i64 t361)) (fun _ hk => trivial)⟩, ⟨by repeat (first | (with_reducible first | exact HB.out | apply below_alloc | apply pw_below_drewN | apply below_drew1 | refine below_set ?_ GE356.out | refine below_set ?_ GE363.out) | exact HB.out)⟩⟩
               ·as_aux_lemma =>
                rw [if_neg c40] at H
                exact absurd H (by simp)
              ·as_aux_lemma =>
               rw [if_neg c38] at H
               exact absurd H (by simp)
             ·as_aux_lemma =>
              rw [if_neg c37] at H
              exact absurd H (by simp)
            ·as_aux_lemma =>
             rw [if_neg c36] at H
             exact absurd H (by simp)
           ·as_aux_lemma =>
            rw [if_neg c35] at H
            exact absurd H (by simp)
          ·as_aux_lemma =>
           rw [if_neg c34] at H
           have c34b0 : decide (x8_3 < (l0.length : Int)) = false := decide_eq_false c34
           clear c34
           replace H := Option.bind_eq_some_iff.mp H
           obtain ⟨⟨t364, t365⟩, A960, H⟩ := H
           (try dsimp only at H)
           have A96 := Aside0.mk A960
           clear A960
           by_cases c97 : t365 = 0
           ·as_aux_lemma =>
            rw [if_pos c97] at H
            have c97b0 : (t365 == 0) = true := beq_iff_eq.mpr c97
            have c97b1 : (t365 != 0) = false := bne_eq_false_iff_eq.mpr c97
            clear c97
            have H' := Aside0.mk H
            clear H
            obtain ⟨Ao98, co98, eo98⟩ := Kd.R_slice HO_6.out
            subst eo98
            go_wp2_with (first | ((with_reducible refine gate_callee (f := 22) rfl ?_); refine goesL_ (some 122) rfl rfl Try.func22 (by kernel_rfl) rfl #[.slice Ao98 t343.length co98, .int .i64 a1] rfl (by (try simp only [List.map_toArray, List.map_cons, List.map_nil]); first | done | rfl | (simp only [List.length_drop, List.length_take]; rfl)) ?_; (with_reducible refine (gain_Refer.calls k3 _ _ t343 a1 t364 t365 _ ?side1 ?side2 A96.out).mono ?_); (case side1 => repeat (first | exact (Kd.R_reads' HO_6.out).2.2 | (with_reducible refine Kd.C_alloc ?_ _) | (with_reducible refine Kd.C_drewN ?_ _) | (with_reducible refine Kd.C_drew ?_))); (case side2 => exact (Kd.R_reads' HO_6.out).2.1); rintro e w99 ⟨v366, rfl, ho0, hb⟩; refine ⟨_, rfl, ?_⟩; have n0_ := Aside0.mk (Kd.R_elder' (Rt HO_6.out) (Kd.R_base ho0) hb); have n1_ := Aside0.mk (Kd.R_lower (Kd.R_new' ho0 (Kd.R_lt (Rt HO_6.out))) (below_size (bl HB.out))); have n2_ := Aside0.mk (below_step (bl HB.out) hb); clear HO_6; clear HB; have HO_6 := n0_; have HO367 := n1_; have HB := n2_; clear n0_ n1_ n2_; (try clear hb); (try clear hb2); (try clear hk); (try clear hi); (try clear ho0)))
            go_loopg [15] k3 (fun kq v15 w' => ∃ (x15_4 : Int), v15 = .int .i64 x15_4 ∧ Aside0 (fringelaw26_GainRefer.l1 kq l0 t341 t343 t364 x15_4 = some true) ∧ Aside0 (kq ≤ k3) ∧ Aside0 (Kd.R k36 36 w' w.heap.size (fun k_ => some k_ ≠ (v366 : Value).ownBlock) (.slice Ao98 t343.length co98) t343) ∧ Aside0 (Kd.R k36 36 w' w.heap.size (fun k_ => some k_ ≠ ((.slice Ao98 t343.length co98) : Value).ownBlock) v366 t364) ∧ Aside0 (Below w.heap.size w w'))
            case atStart => exact ⟨(0), (by first | rfl | (simp; done) | (simp [*]; done)), H', ⟨Nat.le_refl _⟩, ⟨by (with_reducible repeat (first | apply Kd.R_alloc | apply Kd.R_drewN | apply Kd.R_drew)); exact Kd.R_mono HO_6.out (fun _ hk => hk.2)⟩, ⟨by (with_reducible repeat (first | apply Kd.R_alloc | apply Kd.R_drewN | apply Kd.R_drew)); exact Kd.R_mono HO367.out (fun _ hk => hk.2)⟩, ⟨by repeat (first | (with_reducible first | exact HB.out | apply below_alloc | apply pw_below_drewN | apply below_drew1) | exact HB.out)⟩⟩
            case round =>
             as_aux_lemma =>
             clear H'
             (try clear c2); (try clear p2); (try clear c3); (try clear p3); (try clear q3); (try clear hx3); (try clear c4); (try clear p6); (try clear c9); (try clear c22); (try clear c23); (try clear c34)
             (try clear c34b0); (try clear c35); (try clear p35); (try clear q35); (try clear hx35); (try clear c36); (try clear c37); (try clear c38); (try clear c40); (try clear p64); (try clear c97); (try clear c97b0)
             (try clear c97b1); (try clear hx357_0); (try clear hx357_1); (try clear hx357_2); (try clear hx358_0); (try clear hx358_1); (try clear hx358_2); (try clear p357); (try clear p358); (try clear q357); (try clear q358)
             obtain ⟨x15_4, rfl, HA, HK4, HO_6, HO_13, HB⟩ := hrel
             cases gk with
             | zero => exact absurd HA.out (by simp [fringelaw26_GainRefer.l1])
             | succ k4 =>
              have H := HA.out
              clear HA
              simp only [fringelaw26_GainRefer.l1] at H
              have HC100 := Aside0.mk H
              clear H
              go_upto_region 20 with (fail)
              go_cut [137] (fun v137 wc => ∃ (kq : Nat) (x137_99 : Bool), v137 = .bool x137_99 ∧ Aside0 (fringelaw26_GainRefer.j4 kq l0 t341 t343 t364 x15_4 x137_99 = some true) ∧ Aside0 (kq ≤ k4) ∧ Aside0 (Kd.R k36 36 wc w.heap.size (fun k_ => some k_ ≠ (v366 : Value).ownBlock) (.slice Ao98 t343.length co98) t343) ∧ Aside0 (Kd.R k36 36 wc w.heap.size (fun k_ => some k_ ≠ ((.slice Ao98 t343.length co98) : Value).ownBlock) v366 t364) ∧ Aside0 (Below w.heap.size w wc))
              case first =>
               as_aux_lemma =>
               have H := HC100.out
               clear HC100
               by_cases c101 : x15_4 < (l0.length : Int)
               ·as_aux_lemma =>
                rw [if_pos c101] at H
                have c101b0 : decide (x15_4 < (l0.length : Int)) = true := decide_eq_true c101
                clear c101
                (first | rw [c101b0] | (simp only [i64_w, i32_w]; rw [c101b0]) | skip)
                have H' := Aside0.mk H
                clear H
                obtain ⟨Ao102, co102, eo102⟩ := Kd.R_slice HO_13.out
                subst eo102
                go_wp2
                go_meet
                case rel => exact ⟨_, (decide (x15_4 < (t364.length : Int))), (by first | rfl | (simp; done) | (simp [*]; done)), H', ⟨by have := HJ3.out; have := HJ16.out; have := HK3.out; have := HK4.out; first | omega | exact Nat.le_refl _⟩, ⟨by (with_reducible repeat (first | apply Kd.R_alloc | apply Kd.R_drewN | apply Kd.R_drew)); exact HO_6.out⟩, ⟨by (with_reducible repeat (first | apply Kd.R_alloc | apply Kd.R_drewN | apply Kd.R_drew)); exact HO_13.out⟩, ⟨by repeat (first | (with_reducible first | exact HB.out | apply below_alloc | apply pw_below_drewN | apply below_drew1) | exact HB.out)⟩⟩
               ·as_aux_lemma =>
                rw [if_neg c101] at H
                have c101b0 : decide (x15_4 < (l0.length : Int)) = false := decide_eq_false c101
                clear c101
                (first | rw [c101b0] | (simp only [i64_w, i32_w]; rw [c101b0]) | skip)
                have H' := Aside0.mk H
                clear H
                go_wp2
                go_meet
                case rel => exact ⟨_, (false), (by first | rfl | (simp; done) | (simp [*]; done)), H', ⟨by have := HJ3.out; have := HJ16.out; have := HK3.out; have := HK4.out; first | omega | exact Nat.le_refl _⟩, ⟨by (with_reducible repeat (first | apply Kd.R_alloc | apply Kd.R_drewN | apply Kd.R_drew)); exact HO_6.out⟩, ⟨by (with_reducible repeat (first | apply Kd.R_alloc | apply Kd.R_drewN | apply Kd.R_drew)); exact HO_13.out⟩, ⟨by repeat (first | (with_reducible first | exact HB.out | apply below_alloc | apply pw_below_drewN | apply below_drew1) | exact HB.out)⟩⟩
              case rest =>
               as_aux_lemma =>
               clear HC100
               (try clear c1); (try clear c2); (try clear p2); (try clear c3); (try clear p3); (try clear q3); (try clear hx3); (try clear c4); (try clear p6); (try clear c9); (try clear c10); (try clear c22)
               (try clear c23); (try clear c34); (try clear c34b0); (try clear c35); (try clear p35); (try clear q35); (try clear hx35); (try clear c36); (try clear c37); (try clear c38); (try clear c40); (try clear p64)
               (try clear c97); (try clear c97b0); (try clear c97b1); (try clear c101); (try clear c101b0); (try clear hx357_0); (try clear hx357_1); (try clear hx357_2); (try clear hx358_0); (try clear hx358_1); (try clear hx358_2); (try clear p2)
               (try clear p3); (try clear p35); (try clear p357); (try clear p358); (try clear p6); (try clear p64); (try clear q3); (try clear q35); (try clear q357); (try clear q358)
               obtain ⟨kq, x137_99, rfl, HA, HJ99, HO_6, HO_13, HB⟩ := hcut
               cases kq with
               | zero => exact absurd HA.out (by simp [fringelaw26_GainRefer.j4])
               | succ kj99 =>
                have H := HA.out
                clear HA
                simp only [fringelaw26_GainRefer.j4] at H
                by_cases c103 : x137_99 = true
                ·as_aux_lemma =>
                 subst c103
                 rw [if_pos rfl] at H
                 by_cases c104 : 0 ≤ x15_4
                 ·as_aux_lemma =>
                  rw [if_pos c104] at H
                  have c104b0 : decide (0 ≤ x15_4) = true := decide_eq_true c104
                  clear c104
                  by_cases c105 : x15_4 < (t343.length : Int)
                  ·as_aux_lemma =>
                   rw [if_pos c105] at H
                   have c105b0 : decide (x15_4 < (t343.length : Int)) = true := decide_eq_true c105
                   clear c105
                   replace H := Option.bind_eq_some_iff.mp H
                   obtain ⟨⟨t369, t370, t371, t372⟩, A1060, H⟩ := H
                   (try dsimp only at H)
                   have A106 := Aside0.mk A1060
                   clear A1060
                   by_cases c107 : x15_4 < (t364.length : Int)
                   ·as_aux_lemma =>
                    rw [if_pos c107] at H
                    have c107b0 : decide (x15_4 < (t364.length : Int)) = true := decide_eq_true c107
                    clear c107
                    replace H := Option.bind_eq_some_iff.mp H
                    obtain ⟨⟨t375, t376, t377, t378⟩, A1080, H⟩ := H
                    (try dsimp only at H)
                    have A108 := Aside0.mk A1080
                    clear A1080
                    by_cases c109 : t372 = 0
                    ·as_aux_lemma =>
                     rw [if_pos c109] at H
                     have c109b0 : (t372 == 0) = true := beq_iff_eq.mpr c109
                     have c109b1 : (t372 != 0) = false := bne_eq_false_iff_eq.mpr c109
                     clear c109
                     by_cases c110 : t378 = 0
                     ·as_aux_lemma =>
                      rw [if_pos c110] at H
                      have c110b0 : (t378 == 0) = true := beq_iff_eq.mpr c110
                      have c110b1 : (t378 != 0) = false := bne_eq_false_iff_eq.mpr c110
                      clear c110
                      by_cases c111 : (!(t369 == t375) || (!(t370 == t376) || (!(t371 == t377)))) = true
                      ·as_aux_lemma =>
                       rw [if_pos c111] at H
                       have c111b0 : (!(t369 == t375) || (!(t370 == t376) || (!(t371 == t377)))) = true := c111
                       clear c111
                       exact absurd H (by simp)
                      ·as_aux_lemma =>
                       rw [if_neg c111] at H
                       have c111b0 : (!(t369 == t375) || (!(t370 == t376) || (!(t371 == t377)))) = false := by simpa using c111
                       clear c111
                       have H' := Aside0.mk H
                       clear H
                       have p368 : 0 ≤ (x15_4 : Int) := of_decide_eq_true (by first | (with_reducible assumption) | assumption)
                       have q368 : x15_4 < (t343.length : Int) := of_decide_eq_true (by first | (with_reducible assumption) | assumption)
                       obtain ⟨ad368, e368, hx368_0, hx368_1, hx368_2⟩ := at_T36 (Kd.R_reads' HO_6.out).2.2 x15_4 p368 q368
                       cases e368
                       replace p368 := eq_true p368
                       replace q368 := eq_true q368
                       go_wp2_with (first | ((with_reducible refine gate_callee (f := 24) rfl ?_); refine goesL_ (some 145) rfl rfl Try.func24 (by kernel_rfl) rfl #[.agg #[.int .i64 ((rd_T36 t343 x15_4).f0), .int .i64 ((rd_T36 t343 x15_4).f1), .int .i64 ((rd_T36 t343 x15_4).f2)]] rfl (by (try simp only [List.map_toArray, List.map_cons, List.map_nil]); first | done | rfl | (simp only [List.length_drop, List.length_take]; rfl)) ?_; (with_reducible refine (fringeref25_Ray.calls kj99 ((rd_T36 t343 x15_4).f0) ((rd_T36 t343 x15_4).f1) ((rd_T36 t343 x15_4).f2) t369 t370 t371 t372 _ A106.out).mono ?_); rintro e w112 ⟨rfl, hb⟩; refine ⟨_, rfl, ?_⟩; have n0_ := Aside0.mk (Kd.R_below (Rt HO_6.out) hb); have n1_ := Aside0.mk (Kd.R_below (Rt HO_13.out) hb); have n2_ := Aside0.mk (below_step (bl HB.out) hb); clear HO_6; clear HO_13; clear HB; have HO_6 := n0_; have HO_13 := n1_; have HB := n2_; clear n0_ n1_ n2_; (try clear hb); (try clear hb2); (try clear hk); (try clear hi)) | ((with_reducible refine gate_dst (N := 16) rfl ?_); (try (refine gate_guard (by rfl) ?_; dsimp only)); refine box_event ?hg (N := 16) ?hd (cs := #[.int .i64 0, .int .i64 0, .int .i64 0]) (t := 36) ?hr ?_; (case hd => rfl); (case hg => rfl); (case hr => first | (go_simp; done) | (go_simp; rfl)); intro gb373 hg w113 hbox hb; have n0_ := Aside0.mk (Kd.R_below (Kd.R_elderB (Rt HO_6.out) gb373 (Nat.le_of_eq hg.symm)) hb); have n1_ := Aside0.mk (Kd.R_below (Kd.R_elderB (Rt HO_13.out) gb373 (Nat.le_of_eq hg.symm)) hb); have n2_ := Aside0.mk (below_step (bl HB.out) hb); have n3_ := Aside0.mk (hbox); have n5_ := Aside0.mk ((by rw [hg]; exact (below_size (bl HB.out)) : w.heap.size ≤ gb373)); clear HO_6; clear HO_13; clear HB; have HO_6 := n0_; have HO_13 := n1_; have HB := n2_; have BK373 := n3_; have GE373 := n5_; clear n0_ n1_ n2_ n3_ n5_; clear hb hbox hg; obtain ⟨hcz114_0, hcz114_1, hcz114_2, hfz114_0, hfz114_1, hfz114_2⟩ := cz3 BK373.out; obtain ⟨Ao115, co115, eo115⟩ := Kd.R_slice HO_13.out; subst eo115; have p374 : 0 ≤ (x15_4 : Int) := of_decide_eq_true (by first | (with_reducible assumption) | assumption); have q374 : x15_4 < (t364.length : Int) := of_decide_eq_true (by first | (with_reducible assumption) | assumption); obtain ⟨ad374, e374, hx374_0, hx374_1, hx374_2⟩ := at_T36 (Kd.R_reads' HO_13.out).2.2 x15_4 p374 q374; cases e374; have hn374_0 : ad374.block ≠ gb373 := Kd.own_blk ((fun e_ => (HO_13.out.1 _ e_.symm).2 rfl)); have hn374_1 : ad374.block ≠ gb373 := Kd.own_blk ((fun e_ => (HO_13.out.1 _ e_.symm).2 rfl)); have hn374_2 : ad374.block ≠ gb373 := Kd.own_blk ((fun e_ => (HO_13.out.1 _ e_.symm).2 rfl)); replace hx374_0 := (cell_far (p := ⟨gb373, 0, none⟩) (by first | (rw [add_block]; exact hn374_0) | (show (Addr.add _ _).block ≠ _; rw [add_block]; exact hn374_0) | exact hn374_0) (.int .i64 t369)).trans hx374_0; replace hx374_1 := (cell_far (p := ⟨gb373, 0, none⟩) (by first | (rw [add_block]; exact hn374_0) | (show (Addr.add _ _).block ≠ _; rw [add_block]; exact hn374_0) | exact hn374_0) (.int .i64 t369)).trans hx374_1; replace hx374_2 := (cell_far (p := ⟨gb373, 0, none⟩) (by first | (rw [add_block]; exact hn374_0) | (show (Addr.add _ _).block ≠ _; rw [add_block]; exact hn374_0) | exact hn374_0) (.int .i64 t369)).trans hx374_2; replace hx374_0 := (cell_far (p := ⟨gb373, 1, none⟩) (by first | (rw [add_block]; exact hn374_1) | (show (Addr.add _ _).block ≠ _; rw [add_block]; exact hn374_1) | exact hn374_1) (.int .i64 t370)).trans hx374_0; replace hx374_1 := (cell_far (p := ⟨gb373, 1, none⟩) (by first | (rw [add_block]; exact hn374_1) | (show (Addr.add _ _).block ≠ _; rw [add_block]; exact hn374_1) | exact hn374_1) (.int .i64 t370)).trans hx374_1; replace hx374_2 := (cell_far (p := ⟨gb373, 1, none⟩) (by first | (rw [add_block]; exact hn374_1) | (show (Addr.add _ _).block ≠ _; rw [add_block]; exact hn374_1) | exact hn374_1) (.int .i64 t370)).trans hx374_2; replace hx374_0 := (cell_far (p := ⟨gb373, 2, none⟩) (by first | (rw [add_block]; exact hn374_2) | (show (Addr.add _ _).block ≠ _; rw [add_block]; exact hn374_2) | exact hn374_2) (.int .i64 t371)).trans hx374_0; replace hx374_1 := (cell_far (p := ⟨gb373, 2, none⟩) (by first | (rw [add_block]; exact hn374_2) | (show (Addr.add _ _).block ≠ _; rw [add_block]; exact hn374_2) | exact hn374_2) (.int .i64 t371)).trans hx374_1; replace hx374_2 := (cell_far (p := ⟨gb373, 2, none⟩) (by first | (rw [add_block]; exact hn374_2) | (show (Addr.add _ _).block ≠ _; rw [add_block]; exact hn374_2) | exact hn374_2) (.int .i64 t371)).trans hx374_2; clear hn374_0; clear hn374_1; clear hn374_2; replace p374 := eq_true p374; replace q374 := eq_true q374) | ((with_reducible refine gate_callee (f := 24) rfl ?_); refine goesL_ (some 153) rfl rfl Try.func24 (by kernel_rfl) rfl #[.agg #[.int .i64 ((rd_T36 t364 x15_4).f0), .int .i64 ((rd_T36 t364 x15_4).f1), .int .i64 ((rd_T36 t364 x15_4).f2)]] rfl (by (try simp only [List.map_toArray, List.map_cons, List.map_nil]); first | done | rfl | (simp only [List.length_drop, List.length_take]; rfl)) ?_; (with_reducible refine (fringeref25_Ray.calls kj99 ((rd_T36 t364 x15_4).f0) ((rd_T36 t364 x15_4).f1) ((rd_T36 t364 x15_4).f2) t375 t376 t377 t378 _ A108.out).mono ?_); rintro e w116 ⟨rfl, hb⟩; refine ⟨_, rfl, ?_⟩; have n0_ := Aside0.mk (Kd.R_below (by (with_reducible repeat (first | apply Kd.R_alloc | apply Kd.R_drewN | apply Kd.R_drew)); exact (Kd.R_mono (Kd.R_far (p := ⟨gb373, 2, none⟩) (Kd.R_far (p := ⟨gb373, 1, none⟩) (Kd.R_far (p := ⟨gb373, 0, none⟩) (Kd.R_mono HO_6.out (fun k_ hk => (⟨hk, hk.2⟩ : _ ∧ k_ ≠ gb373))) (fun _ hk => hk.2) (.int .i64 t369)) (fun _ hk => hk.2) (.int .i64 t370)) (fun _ hk => hk.2) (.int .i64 t371)) (fun _ h_ => h_.1))) hb); have n1_ := Aside0.mk (Kd.R_below (by (with_reducible repeat (first | apply Kd.R_alloc | apply Kd.R_drewN | apply Kd.R_drew)); exact (Kd.R_mono (Kd.R_far (p := ⟨gb373, 2, none⟩) (Kd.R_far (p := ⟨gb373, 1, none⟩) (Kd.R_far (p := ⟨gb373, 0, none⟩) (Kd.R_mono HO_13.out (fun k_ hk => (⟨hk, hk.2⟩ : _ ∧ k_ ≠ gb373))) (fun _ hk => hk.2) (.int .i64 t369)) (fun _ hk => hk.2) (.int .i64 t370)) (fun _ hk => hk.2) (.int .i64 t371)) (fun _ h_ => h_.1))) hb); have n2_ := Aside0.mk (blk_below (g := gb373) (o := .cells #[.int .i64 t369, .int .i64 t370, .int .i64 t371] 36 (0, 0)) (by (with_reducible repeat (first | refine blk_drewN ?_ _ | refine blk_drew ?_ | refine blk_alloc ?_ _)); refine blk_put (cs := #[.int .i64 t369, .int .i64 t370, .int .i64 0]) ?_ 2 _ rfl; (with_reducible repeat (first | refine blk_drewN ?_ _ | refine blk_drew ?_ | refine blk_alloc ?_ _)); refine blk_put (cs := #[.int .i64 t369, .int .i64 0, .int .i64 0]) ?_ 1 _ rfl; (with_reducible repeat (first | refine blk_drewN ?_ _ | refine blk_drew ?_ | refine blk_alloc ?_ _)); refine blk_put (cs := #[.int .i64 0, .int .i64 0, .int .i64 0]) ?_ 0 _ rfl; (with_reducible repeat (first | refine blk_drewN ?_ _ | refine blk_drew ?_ | refine blk_alloc ?_ _)); exact BK373.out) hb); have n3_ := Aside0.mk (below_step (bl HB.out) hb); clear HO_6; clear HO_13; clear BK373; clear HB; have HO_6 := n0_; have HO_13 := n1_; have BK373 := n2_; have HB := n3_; clear n0_ n1_ n2_ n3_; (try clear hb); (try clear hb2); (try clear hk); (try clear hi)) | ((with_reducible refine gate_dst (N := 18) rfl ?_); (try (refine gate_guard (by rfl) ?_; dsimp only)); refine box_event ?hg (N := 18) ?hd (cs := #[.int .i64 0, .int .i64 0, .int .i64 0]) (t := 36) ?hr ?_; (case hd => rfl); (case hg => rfl); (case hr => first | (go_simp; done) | (go_simp; rfl)); intro gb379 hg w117 hbox hb; have n0_ := Aside0.mk (Kd.R_below (Kd.R_elderB (Rt HO_6.out) gb379 (Nat.le_of_eq hg.symm)) hb); have n1_ := Aside0.mk (Kd.R_below (Kd.R_elderB (Rt HO_13.out) gb379 (Nat.le_of_eq hg.symm)) hb); have n2_ := Aside0.mk (blk_below (g := gb373) (o := .cells #[.int .i64 t369, .int .i64 t370, .int .i64 t371] 36 (0, 0)) (bt BK373.out) hb); have n3_ := Aside0.mk (below_step (bl HB.out) hb); have n4_ := Aside0.mk (hbox); have n6_ := Aside0.mk ((by rw [hg]; exact (below_size (bl HB.out)) : w.heap.size ≤ gb379)); have n7_ := Aside0.mk ((by rw [hg]; exact Nat.ne_of_lt (blk_lt (g := gb373) (o := .cells #[.int .i64 t369, .int .i64 t370, .int .i64 t371] 36 (0, 0)) (bt BK373.out)) : gb373 ≠ gb379)); have n8_ := Aside0.mk ((by rw [hg]; exact Nat.ne_of_gt (blk_lt (g := gb373) (o := .cells #[.int .i64 t369, .int .i64 t370, .int .i64 t371] 36 (0, 0)) (bt BK373.out)) : gb379 ≠ gb373)); clear HO_6; clear HO_13; clear BK373; clear HB; have HO_6 := n0_; have HO_13 := n1_; have BK373 := n2_; have HB := n3_; have BK379 := n4_; have GE379 := n6_; have NB373_379 := n7_; have NB379_373 := n8_; clear n0_ n1_ n2_ n3_ n4_ n6_ n7_ n8_; clear hb hbox hg; have hnb118 := NB379_373.out; have hnc118 := NB373_379.out; obtain ⟨hcz119_0, hcz119_1, hcz119_2, hfz119_0, hfz119_1, hfz119_2⟩ := cz3 BK379.out; obtain ⟨hcz120_0, hcz120_1, hcz120_2, hfz120_0, hfz120_1, hfz120_2⟩ := cz3 BK373.out))
                       go_roundg kj99
                       case measure => have := HJ3.out; have := HJ16.out; have := HK3.out; have := HK4.out; have := HJ99.out; omega
                       case rel => exact ⟨(wrap64 (x15_4 + 1)), (by first | rfl | (simp; done) | (simp [*]; done)), H', ⟨by have := HJ3.out; have := HJ16.out; have := HK3.out; have := HK4.out; have := HJ99.out; omega⟩, ⟨by (with_reducible repeat (first | apply Kd.R_alloc | apply Kd.R_drewN | apply Kd.R_drew)); exact Kd.R_mono (Kd.R_far (p := ⟨gb379, 2, none⟩) (Kd.R_far (p := ⟨gb379, 1, none⟩) (Kd.R_far (p := ⟨gb379, 0, none⟩) (Kd.R_mono HO_6.out (fun k_ hk => (⟨hk, hk.2⟩ : _ ∧ k_ ≠ gb379))) (fun _ hk => hk.2) (.int .i64 t375)) (fun _ hk => hk.2) (.int .i64 t376)) (fun _ hk => hk.2) (.int .i64 t377)) (fun _ hk => hk.1.1.1)⟩, ⟨by (with_reducible repeat (first | apply Kd.R_alloc | apply Kd.R_drewN | apply Kd.R_drew)); exact Kd.R_mono (Kd.R_far (p := ⟨gb379, 2, none⟩) (Kd.R_far (p := ⟨gb379, 1, none⟩) (Kd.R_far (p := ⟨gb379, 0, none⟩) (Kd.R_mono HO_13.out (fun k_ hk => (⟨hk, hk.2⟩ : _ ∧ k_ ≠ gb379))) (fun _ hk => hk.2) (.int .i64 t375)) (fun _ hk => hk.2) (.int .i64 t376)) (fun _ hk => hk.2) (.int .i64 t377)) (fun _ hk => hk.1.1.1)⟩, ⟨by repeat (first | (with_reducible first | exact HB.out | apply below_alloc | apply pw_below_drewN | apply below_drew1 | refine below_set ?_ GE373.out | refine below_set ?_ GE379.out) | exact HB.out)⟩⟩
                     ·as_aux_lemma =>
                      rw [if_neg c110] at H
                      have c110b0 : (t378 == 0) = false := beq_eq_false_iff_ne.mpr c110
                      have c110b1 : (t378 != 0) = true := bne_iff_ne.mpr c110
                      exact absurd H (by simp)
                    ·as_aux_lemma =>
                     rw [if_neg c109] at H
                     have c109b0 : (t372 == 0) = false := beq_eq_false_iff_ne.mpr c109
                     have c109b1 : (t372 != 0) = true := bne_iff_ne.mpr c109
                     exact absurd H (by simp)
                   ·as_aux_lemma =>
                    rw [if_neg c107] at H
                    exact absurd H (by simp)
                  ·as_aux_lemma =>
                   rw [if_neg c105] at H
                   exact absurd H (by simp)
                 ·as_aux_lemma =>
                  rw [if_neg c104] at H
                  exact absurd H (by simp)
                ·as_aux_lemma =>
                 replace c103 := Bool.eq_false_iff.mpr c103
                 subst c103
                 rw [if_neg (show ¬ (false = true) by decide)] at H
                 by_cases c121 : t341 = true
                 ·as_aux_lemma =>
                  subst c121
                  rw [if_pos rfl] at H
                  have hend := Aside0.mk (Option.some.inj H)
                  clear H
                  obtain ⟨Ao122, co122, eo122⟩ := Kd.R_slice HO_13.out
                  subst eo122
                  go_wp2
                  go_ret
                  exact ⟨by first | rfl | (rw [hend.out]; done) | (simp only [hend.out]; done) | (simp [*]; first | exact hend.out | exact eq_of_beq hend.out | exact of_decide_eq_true hend.out) | (have h_ := hend.out; simp_all; done) | (simp [*, errW_none, errW_some] <;> rfl), by repeat (first | (with_reducible first | exact HB.out | apply below_alloc | apply pw_below_drewN | apply below_drew1) | exact HB.out)⟩
                 ·as_aux_lemma =>
                  replace c121 := Bool.eq_false_iff.mpr c121
                  subst c121
                  rw [if_neg (show ¬ (false = true) by decide)] at H
                  exact absurd H (by simp)
           ·as_aux_lemma =>
            rw [if_neg c97] at H
            have c97b0 : (t365 == 0) = false := beq_eq_false_iff_ne.mpr c97
            have c97b1 : (t365 != 0) = true := bne_iff_ne.mpr c97
            have hend := Aside0.mk (Option.some.inj H)
            clear H
            obtain ⟨Ao123, co123, eo123⟩ := Kd.R_slice HO_6.out
            subst eo123
            go_wp2_with (first | ((with_reducible refine gate_callee (f := 22) rfl ?_); refine goesL_ (some 122) rfl rfl Try.func22 (by kernel_rfl) rfl #[.slice Ao123 t343.length co123, .int .i64 a1] rfl (by (try simp only [List.map_toArray, List.map_cons, List.map_nil]); first | done | rfl | (simp only [List.length_drop, List.length_take]; rfl)) ?_; (with_reducible refine (gain_Refer.calls k3 _ _ t343 a1 t364 t365 _ ?side1 ?side2 A96.out).mono ?_); (case side1 => repeat (first | exact (Kd.R_reads' HO_6.out).2.2 | (with_reducible refine Kd.C_alloc ?_ _) | (with_reducible refine Kd.C_drewN ?_ _) | (with_reducible refine Kd.C_drew ?_))); (case side2 => exact (Kd.R_reads' HO_6.out).2.1); rintro e w124 ⟨v366, rfl, ho0, hb⟩; refine ⟨_, rfl, ?_⟩; have n2_ := Aside0.mk (below_step (bl HB.out) hb); clear HB; have HB := n2_; clear n2_; (try clear hb); (try clear hb2); (try clear hk); (try clear hi); (try clear ho0)))
            go_ret
            exact ⟨by first | rfl | (rw [hend.out]; done) | (simp only [hend.out]; done) | (simp [*]; first | exact hend.out | exact eq_of_beq hend.out | exact of_decide_eq_true hend.out) | (have h_ := hend.out; simp_all; done) | (simp [*, errW_none, errW_some] <;> rfl), by repeat (first | (with_reducible first | exact HB.out | apply below_alloc | apply pw_below_drewN | apply below_drew1) | exact HB.out)⟩
    ·as_aux_lemma =>
     rw [if_neg c16] at H
     have c16b0 : (t344 == 0) = false := beq_eq_false_iff_ne.mpr c16
     have c16b1 : (t344 != 0) = true := bne_iff_ne.mpr c16
     by_cases c125 : t341 = true
     ·as_aux_lemma =>
      subst c125
      rw [if_pos rfl] at H
      have hend := Aside0.mk (Option.some.inj H)
      clear H
      go_wp2_with (first | ((with_reducible refine gate_callee (f := 22) rfl ?_); refine goesL_ (some 42) rfl rfl Try.func22 (by kernel_rfl) rfl #[.slice A0 l0.length c0, .int .i64 a1] rfl (by (try simp only [List.map_toArray, List.map_cons, List.map_nil]); first | done | rfl | (simp only [List.length_drop, List.length_take]; rfl)) ?_; (with_reducible refine (gain_Refer.calls kj3 _ _ l0 a1 t343 t344 _ ?side1 ?side2 A15.out).mono ?_); (case side1 => repeat (first | exact (Kd.C_below HR0.out HB.out) | (with_reducible refine Kd.C_alloc ?_ _) | (with_reducible refine Kd.C_drewN ?_ _) | (with_reducible refine Kd.C_drew ?_))); (case side2 => exact HC0.out); rintro e w126 ⟨v345, rfl, ho0, hb⟩; refine ⟨_, rfl, ?_⟩; have n1_ := Aside0.mk (below_step (bl HB.out) hb); clear HB; have HB := n1_; clear n1_; (try clear hb); (try clear hb2); (try clear hk); (try clear hi); (try clear ho0)))
      go_ret
      exact ⟨by first | rfl | (rw [hend.out]; done) | (simp only [hend.out]; done) | (simp [*]; first | exact hend.out | exact eq_of_beq hend.out | exact of_decide_eq_true hend.out) | (have h_ := hend.out; simp_all; done) | (simp [*, errW_none, errW_some] <;> rfl), by repeat (first | (with_reducible first | exact HB.out | apply below_alloc | apply pw_below_drewN | apply below_drew1) | exact HB.out)⟩
     ·as_aux_lemma =>
      replace c125 := Bool.eq_false_iff.mpr c125
      subst c125
      rw [if_neg (show ¬ (false = true) by decide)] at H
      exact absurd H (by simp)

end Go.Proofs.Ytnlaklkneaaakaa.Q
