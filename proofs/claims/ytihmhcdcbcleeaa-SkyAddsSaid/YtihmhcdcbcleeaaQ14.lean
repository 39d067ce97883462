-- Written by qprint.py (a program of this session) over the program of the kit that prints contracts. Not trusted: Lean checks it.
import Derived.Test.YtihmhcdcbcleeaaQ0
import Derived.Test.YtihmhcdcbcleeaaQ12
import Derived.Test.YtihmhcdcbcleeaaQ13
namespace Go.Proofs.Ytihmhcdcbcleeaa.Q
open Go.RowKit Go.Proofs.YtihmhcdcbcleeaaW.PrintWords Go.Proofs.YtihmhcdcbcleeaaW.PrintLast Go.Proofs.YtihmhcdcbcleeaaW.PrintMore
attribute [local go_sem] max2_int min2_int max_two min_two max_three min_three max_four min_four   -- for this text's walks alone
set_option linter.unusedVariables false
set_option linter.unusedSimpArgs false

/-! ### sky_Dirty: function 21 -/
mutual
def sky_Dirty.j0 : Nat → List (S41) → List (S33) → Int → Bool → Option ((List (List Int)) × Int)
 | 0, _, _, _, _ => none
 | k + 1, x0, x1, x2, x25 => if x25 = true then (some (([] : List (List Int)), 2)) else (if 0 ≤ x2 then (if (x2 : Int).toNat ≤ 11728124029610 then (sky_Dirty.l0 k x0 x1 x2 (List.replicate (x2 : Int).toNat []) x2 0) else (none)) else (none))
def sky_Dirty.l0 : Nat → List (S41) → List (S33) → Int → List (List Int) → Int → Int → Option ((List (List Int)) × Int)
 | 0, _, _, _, _, _, _ => none
 | k + 1, x0, x1, x2, x9, x28, x29 => if x29 < x28 then (if 0 ≤ x2 then (if (x2 : Int).toNat ≤ 35184372088832 then (if 0 ≤ x29 then (if x29 < (x9.length : Int) then (sky_Dirty.l1 k x0 x1 x2 (x9.set (x29 : Int).toNat (List.replicate (x2 : Int).toNat 0)) x29 x28 x29 x2 0) else (none)) else (none)) else (none)) else (none)) else (some (x9, 0))
def sky_Dirty.l1 : Nat → List (S41) → List (S33) → Int → List (List Int) → Int → Int → Int → Int → Int → Option ((List (List Int)) × Int)
 | 0, _, _, _, _, _, _, _, _, _ => none
 | k + 1, x0, x1, x2, x9, x10, x28, x29, x37, x38 => if x38 < x37 then ((sky_baselines.f k x0).bind fun t225 => (sky_Dirty.l2 k x0 x1 x2 x9 x10 x38 x28 x29 x37 x38 t225 (t225.length : Int) 0)) else (sky_Dirty.l0 k x0 x1 x2 x9 x28 (wrap64 (x29 + 1)))
def sky_Dirty.l2 : Nat → List (S41) → List (S33) → Int → List (List Int) → Int → Int → Int → Int → Int → Int → List (S85) → Int → Int → Option ((List (List Int)) × Int)
 | 0, _, _, _, _, _, _, _, _, _, _, _, _, _ => none
 | k + 1, x0, x1, x2, x9, x10, x11, x28, x29, x37, x38, x42, x43, x44 => if x44 < x43 then (if 0 ≤ x44 then (if x44 < (x42.length : Int) then (if 0 ≤ x10 then (if x10 < (x9.length : Int) then (if 0 ≤ x11 then (if x11 < ((rd_L6 x9 x10).length : Int) then ((sky_baseline_see.f k ((rd_T85 x42 x44).f0) ((rd_T85 x42 x44).f1) ((rd_T85 x42 x44).f2) ((rd_T85 x42 x44).f3) x1 (wrap64 (-x11)) (wrap64 (-x10))).bind fun bt232 => (sky_Dirty.l2 k x0 x1 x2 (x9.set (x10 : Int).toNat ((rd_L6 x9 x10).set (x11 : Int).toNat (wrap64 ((rd (rd_L6 x9 x10) x11) + bt232.1)))) x10 x11 x28 x29 x37 x38 x42 x43 (wrap64 (x44 + 1)))) else (none)) else (none)) else (none)) else (none)) else (none)) else (none)) else (sky_Dirty.l1 k x0 x1 x2 x9 x10 x28 x29 x37 (wrap64 (x38 + 1)))
end
def sky_Dirty.f (k : Nat) (l0 : List (S41)) (l1 : List (S33)) (a2 : Int) : Option ((List (List Int)) × Int) := (sky_both.f k l0 l1).bind fun t217 => (if t217 = 0 then (if a2 < 1 then (sky_Dirty.j0 k l0 l1 a2 true) else (sky_Dirty.j0 k l0 l1 a2 (decide (a2 > 8)))) else (some (([] : List (List Int)), t217)))
theorem sky_Dirty.mono_l : ∀ k, (∀ y0 y1 y2 y3, LeO (sky_Dirty.j0 k y0 y1 y2 y3) (sky_Dirty.j0 (k + 1) y0 y1 y2 y3)) ∧ (∀ y0 y1 y2 y3 y4 y5, LeO (sky_Dirty.l0 k y0 y1 y2 y3 y4 y5) (sky_Dirty.l0 (k + 1) y0 y1 y2 y3 y4 y5)) ∧ (∀ y0 y1 y2 y3 y4 y5 y6 y7 y8, LeO (sky_Dirty.l1 k y0 y1 y2 y3 y4 y5 y6 y7 y8) (sky_Dirty.l1 (k + 1) y0 y1 y2 y3 y4 y5 y6 y7 y8)) ∧ (∀ y0 y1 y2 y3 y4 y5 y6 y7 y8 y9 y10 y11 y12, LeO (sky_Dirty.l2 k y0 y1 y2 y3 y4 y5 y6 y7 y8 y9 y10 y11 y12) (sky_Dirty.l2 (k + 1) y0 y1 y2 y3 y4 y5 y6 y7 y8 y9 y10 y11 y12))
 | 0 => ⟨fun _ _ _ _ r h => by simp [sky_Dirty.j0] at h, fun _ _ _ _ _ _ r h => by simp [sky_Dirty.l0] at h, fun _ _ _ _ _ _ _ _ _ r h => by simp [sky_Dirty.l1] at h, fun _ _ _ _ _ _ _ _ _ _ _ _ _ r h => by simp [sky_Dirty.l2] at h⟩
 | k + 1 => by
  obtain ⟨ih0, ih1, ih2, ih3⟩ := sky_Dirty.mono_l k
  refine ⟨?_, ?_, ?_, ?_⟩
  ·intro y0 y1 y2 y3
   unfold sky_Dirty.j0
   repeat' first
   | (with_reducible exact ih0 _ _ _ _)
   | (with_reducible exact ih1 _ _ _ _ _ _)
   | (with_reducible exact ih2 _ _ _ _ _ _ _ _ _)
   | (with_reducible exact ih3 _ _ _ _ _ _ _ _ _ _ _ _ _)
   | (with_reducible exact sky_baseline_see.mono _ _ _ _ _ _ _ _)
   | (with_reducible exact sky_baselines.mono _ _)
   | (with_reducible exact sky_both.mono _ _ _)
   | (with_reducible exact LeO.refl _)
   | (with_reducible exact LeO.none _)
   | (with_reducible refine LeO.ite ?_ ?_)
   | (with_reducible refine LeO.bind ?_ (fun _ => ?_))
   | exact ih0 _ _ _ _
   | exact ih1 _ _ _ _ _ _
   | exact ih2 _ _ _ _ _ _ _ _ _
   | exact ih3 _ _ _ _ _ _ _ _ _ _ _ _ _
   | exact sky_baseline_see.mono _ _ _ _ _ _ _ _
   | exact sky_baselines.mono _ _
   | exact sky_both.mono _ _ _
   | exact LeO.none _
   | refine LeO.ite ?_ ?_
   | refine LeO.bind ?_ (fun _ => ?_)
  ·intro y0 y1 y2 y3 y4 y5
   unfold sky_Dirty.l0
   repeat' first
   | (with_reducible exact ih0 _ _ _ _)
   | (with_reducible exact ih1 _ _ _ _ _ _)
   | (with_reducible exact ih2 _ _ _ _ _ _ _ _ _)
   | (with_reducible exact ih3 _ _ _ _ _ _ _ _ _ _ _ _ _)
   | (with_reducible exact sky_baseline_see.mono _ _ _ _ _ _ _ _)
   | (with_reducible exact sky_baselines.mono _ _)
   | (with_reducible exact sky_both.mono _ _ _)
   | (with_reducible exact LeO.refl _)
   | (with_reducible exact LeO.none _)
   | (with_reducible refine LeO.ite ?_ ?_)
   | (with_reducible refine LeO.bind ?_ (fun _ => ?_))
   | exact ih0 _ _ _ _
   | exact ih1 _ _ _ _ _ _
   | exact ih2 _ _ _ _ _ _ _ _ _
   | exact ih3 _ _ _ _ _ _ _ _ _ _ _ _ _
   | exact sky_baseline_see.mono _ _ _ _ _ _ _ _
   | exact sky_baselines.mono _ _
   | exact sky_both.mono _ _ _
   | exact LeO.none _
   | refine LeO.ite ?_ ?_
   | refine LeO.bind ?_ (fun _ => ?_)
  ·intro y0 y1 y2 y3 y4 y5 y6 y7 y8
   unfold sky_Dirty.l1
   repeat' first
   | (with_reducible exact ih0 _ _ _ _)
   | (with_reducible exact ih1 _ _ _ _ _ _)
   | (with_reducible exact ih2 _ _ _ _ _ _ _ _ _)
   | (with_reducible exact ih3 _ _ _ _ _ _ _ _ _ _ _ _ _)
   | (with_reducible exact sky_baseline_see.mono _ _ _ _ _ _ _ _)
   | (with_reducible exact sky_baselines.mono _ _)
   | (with_reducible exact sky_both.mono _ _ _)
   | (with_reducible exact LeO.refl _)
   | (with_reducible exact LeO.none _)
   | (with_reducible refine LeO.ite ?_ ?_)
   | (with_reducible refine LeO.bind ?_ (fun _ => ?_))
   | exact ih0 _ _ _ _
   | exact ih1 _ _ _ _ _ _
   | exact ih2 _ _ _ _ _ _ _ _ _
   | exact ih3 _ _ _ _ _ _ _ _ _ _ _ _ _
   | exact sky_baseline_see.mono _ _ _ _ _ _ _ _
   | exact sky_baselines.mono _ _
   | exact sky_both.mono _ _ _
   | exact LeO.none _
   | refine LeO.ite ?_ ?_
   | refine LeO.bind ?_ (fun _ => ?_)
  ·intro y0 y1 y2 y3 y4 y5 y6 y7 y8 y9 y10 y11 y12
   unfold sky_Dirty.l2
   repeat' first
   | (with_reducible exact ih0 _ _ _ _)
   | (with_reducible exact ih1 _ _ _ _ _ _)
   | (with_reducible exact ih2 _ _ _ _ _ _ _ _ _)
   | (with_reducible exact ih3 _ _ _ _ _ _ _ _ _ _ _ _ _)
   | (with_reducible exact sky_baseline_see.mono _ _ _ _ _ _ _ _)
   | (with_reducible exact sky_baselines.mono _ _)
   | (with_reducible exact sky_both.mono _ _ _)
   | (with_reducible exact LeO.refl _)
   | (with_reducible exact LeO.none _)
   | (with_reducible refine LeO.ite ?_ ?_)
   | (with_reducible refine LeO.bind ?_ (fun _ => ?_))
   | exact ih0 _ _ _ _
   | exact ih1 _ _ _ _ _ _
   | exact ih2 _ _ _ _ _ _ _ _ _
   | exact ih3 _ _ _ _ _ _ _ _ _ _ _ _ _
   | exact sky_baseline_see.mono _ _ _ _ _ _ _ _
   | exact sky_baselines.mono _ _
   | exact sky_both.mono _ _ _
   | exact LeO.none _
   | refine LeO.ite ?_ ?_
   | refine LeO.bind ?_ (fun _ => ?_)
theorem sky_Dirty.mono : ∀ a0 a1 a2 k, LeO (sky_Dirty.f k a0 a1 a2) (sky_Dirty.f (k + 1) a0 a1 a2) := by
 intro a0 a1 a2 k
 obtain ⟨ih0, ih1, ih2, ih3⟩ := sky_Dirty.mono_l k
 unfold sky_Dirty.f
 repeat' first
   | (with_reducible exact ih0 _ _ _ _)
   | (with_reducible exact ih1 _ _ _ _ _ _)
   | (with_reducible exact ih2 _ _ _ _ _ _ _ _ _)
   | (with_reducible exact ih3 _ _ _ _ _ _ _ _ _ _ _ _ _)
   | (with_reducible exact sky_baseline_see.mono _ _ _ _ _ _ _ _)
   | (with_reducible exact sky_baselines.mono _ _)
   | (with_reducible exact sky_both.mono _ _ _)
   | (with_reducible exact LeO.refl _)
   | (with_reducible exact LeO.none _)
   | (with_reducible refine LeO.ite ?_ ?_)
   | (with_reducible refine LeO.bind ?_ (fun _ => ?_))
   | exact ih0 _ _ _ _
   | exact ih1 _ _ _ _ _ _
   | exact ih2 _ _ _ _ _ _ _ _ _
   | exact ih3 _ _ _ _ _ _ _ _ _ _ _ _ _
   | exact sky_baseline_see.mono _ _ _ _ _ _ _ _
   | exact sky_baselines.mono _ _
   | exact sky_both.mono _ _ _
   | exact LeO.none _
   | refine LeO.ite ?_ ?_
   | refine LeO.bind ?_ (fun _ => ?_)
def sky_Dirty.T17 : Bool × List (List Nat × List Nat) := (true, [([], []), ([], []), ([0, 1], [0, 1]), ([2], [2]), ([], []), ([3, 4], [3, 4]), ([5], [5]), ([], []), ([], []), ([], []), ([9], [9]), ([], []), ([11], [11]), ([7, 8, 10, 12], [7, 8, 10, 12]), ([13], [13]), ([6, 14], [6, 14]), ([3, 4, 0, 1, 2, 3, 4, 5, 6, 7, 8, 9, 10, 11, 12, 13, 14, 15], [3, 4]), ([16, 15, 13, 0, 1, 2, 3, 4, 5, 6, 7, 8, 9, 10, 11, 12, 13, 14, 15], [15, 16])])
def sky_Dirty.B17 : List Nat := [0, 0, 3, 7, 0, 31, 63, 0, 0, 0, 512, 0, 2048, 8064, 16256, 32767, 65535, 131071]
theorem sky_Dirty.tab17 : rtab .any (opsOf Try.f21 17) = sky_Dirty.T17 := by kernel_rfl
theorem sky_Dirty.bits17 : waitsOk sky_Dirty.T17.2 sky_Dirty.B17 = true := by kernel_rfl
set_option maxHeartbeats 8000000 in
set_option maxRecDepth 100000 in
theorem sky_Dirty.calls (k : Nat) (A0 : Option Addr) (c0 : Nat) (l0 : List (S41)) (A1 : Option Addr) (c1 : Nat) (l1 : List (S33)) (a2 : Int) (r1 : List (List Int)) (r2 : Int) (w : World) (hr0 : Kd.C k41 w A0 l0.length l0) (hc0 : l0.length ≤ c0) (hr1 : Kd.C k33 w A1 l1.length l1) (hc1 : l1.length ≤ c1) (h : sky_Dirty.f k l0 l1 a2 = some (r1, r2)) :
  Calls Try.prog 21 #[.slice A0 l0.length c0, .slice A1 l1.length c1, .int .i64 a2] w fun e w' => ∃ v0_ : Value, e = .returned (.tuple #[v0_, .int .i64 r2]) ∧ Kd.S (Kd.slice 3 (Kd.int .i64)) 53 w' w.heap.size (fun _ => True) v0_ r1 ∧ Below w.heap.size w w' := by
 have hu85 := Try.underlying85
 have hfd68_0 : ∀ (y0_ y1_ : Value) (W : World), (Instr.field 68 (.agg #[y0_, y1_]) 0).run Try.prog W = .ok (y0_) W := fun _ _ _ => by kernel_rfl
 have HR0 := Aside0.mk hr0
 have HC0 := Aside0.mk hc0
 clear hr0 hc0
 have HR1 := Aside0.mk hr1
 have HC1 := Aside0.mk hc1
 clear hr1 hc1
 have HB := Aside0.mk (Below.refl w.heap.size w)
 have H : ((sky_both.f k l0 l1).bind fun t217 => (if t217 = 0 then (if a2 < 1 then (sky_Dirty.j0 k l0 l1 a2 true) else (sky_Dirty.j0 k l0 l1 a2 (decide (a2 > 8)))) else (some (([] : List (List Int)), t217)))) = some (r1, r2) := h
 clear h
 replace H := Option.bind_eq_some_iff.mp H
 obtain ⟨t217, A40, H⟩ := H
 replace H : (if t217 = 0 then (if a2 < 1 then (sky_Dirty.j0 k l0 l1 a2 true) else (sky_Dirty.j0 k l0 l1 a2 (decide (a2 > 8)))) else (some (([] : List (List Int)), t217))) = some (r1, r2) := H
 have A4 := Aside0.mk A40
 clear A40
 by_cases c5 : t217 = 0
 ·rw [if_pos c5] at H
  have c5b0 : (t217 == 0) = true := beq_iff_eq.mpr c5
  have c5b1 : (t217 != 0) = false := bne_eq_false_iff_eq.mpr c5
  clear c5
  have HC6 := Aside0.mk H
  clear H
  go_enter Try.func21, Try.ntmps21
  go_upto_region 4 with (first | ((with_reducible refine gate_callee (f := 40) rfl ?_); refine goesL_ (some 16) rfl rfl Try.func40 (by kernel_rfl) rfl #[.slice A0 l0.length c0, .slice A1 l1.length c1] rfl (by (try simp only [List.map_toArray, List.map_cons, List.map_nil]); first | done | rfl | (simp only [List.length_drop, List.length_take]; rfl)) ?_; (with_reducible refine (sky_both.calls k _ _ l0 _ _ l1 t217 _ ?side1 ?side2 ?side3 ?side4 A4.out).mono ?_); (case side1 => repeat (first | exact HR0.out | (with_reducible refine Kd.C_alloc ?_ _) | (with_reducible refine Kd.C_drewN ?_ _) | (with_reducible refine Kd.C_drew ?_))); (case side2 => exact HC0.out); (case side3 => repeat (first | exact HR1.out | (with_reducible refine Kd.C_alloc ?_ _) | (with_reducible refine Kd.C_drewN ?_ _) | (with_reducible refine Kd.C_drew ?_))); (case side4 => exact HC1.out); rintro e w7 ⟨rfl, hb⟩; refine ⟨_, rfl, ?_⟩; have n0_ := Aside0.mk (below_step (by repeat (first | (with_reducible first | exact HB.out | apply below_alloc | apply pw_below_drewN | apply below_drew1) | exact HB.out)) hb); clear HB; have HB := n0_; clear n0_; (try clear hb); (try clear hb2); (try clear hk); (try clear hi)))
  (try simp only [Act.put, List.setIfInBounds_toArray, List.set_cons_zero, List.set_cons_succ])
  go_cut [25] (fun v25 wc => ∃ (kq : Nat) (x25_5 : Bool), v25 = .bool x25_5 ∧ Aside0 (sky_Dirty.j0 kq l0 l1 a2 x25_5 = some (r1, r2)) ∧ Aside0 (kq ≤ k) ∧ Aside0 (Below w.heap.size w wc))
  case first =>
   have H := HC6.out
   clear HC6
   by_cases c8 : a2 < 1
   ·rw [if_pos c8] at H
    have c8b0 : decide (a2 < 1) = true := decide_eq_true c8
    clear c8
    (first | rw [c8b0] | (simp only [i64_w, i32_w]; rw [c8b0]) | skip)
    have H' := Aside0.mk H
    clear H
    go_wp2
    go_meet
    case rel => exact ⟨_, (true), (by first | rfl | (simp; done) | (simp [*]; done)), H', ⟨by first | omega | exact Nat.le_refl _⟩, ⟨by repeat (first | (with_reducible first | exact HB.out | apply below_alloc | apply pw_below_drewN | apply below_drew1) | exact HB.out)⟩⟩
   ·rw [if_neg c8] at H
    have c8b0 : decide (a2 < 1) = false := decide_eq_false c8
    clear c8
    (first | rw [c8b0] | (simp only [i64_w, i32_w]; rw [c8b0]) | skip)
    have H' := Aside0.mk H
    clear H
    go_wp2
    go_meet
    case rel => exact ⟨_, (decide (a2 > 8)), (by first | rfl | (simp; done) | (simp [*]; done)), H', ⟨by first | omega | exact Nat.le_refl _⟩, ⟨by repeat (first | (with_reducible first | exact HB.out | apply below_alloc | apply pw_below_drewN | apply below_drew1) | exact HB.out)⟩⟩
  case rest =>
   clear HC6
   try clear c1
   try clear c2
   try clear p2
   try clear c4
   try clear c5
   try clear c5b0
   try clear c5b1
   try clear c8
   try clear c8b0
   obtain ⟨kq, x25_5, rfl, HA, HJ5, HB⟩ := hcut
   cases kq with
   | zero => exact absurd HA.out (by simp [sky_Dirty.j0])
   | succ kj5 =>
    have H := HA.out
    clear HA
    simp only [sky_Dirty.j0] at H
    by_cases c9 : x25_5 = true
    ·subst c9
     have H1 : (some (([] : List (List Int)), 2)) = some (r1, r2) := by first | (with_reducible rfl) | (rw [if_pos rfl] at H; exact H)
     clear H
     have H := H1
     clear H1
     simp only [Option.some.injEq, Prod.mk.injEq] at H
     obtain ⟨rfl, rfl⟩ := H
     go_wp2
     go_ret2
     exact ⟨_, by first | rfl | (simp [errW_none, errW_some] <;> rfl) | (simp [*, errW_none, errW_some] <;> rfl), by first | exact Kd.S_nil _ _ _ _ _ | exact Kd.N_nil _ _ _ _ _ | exact Kd.V_nil _ _ _ _ _ | exact Kd.Q_nil _ _ _ _ _ | exact Kd.R_nil _ _ _ _ _, by repeat (first | (with_reducible first | exact HB.out | apply below_alloc | apply pw_below_drewN | apply below_drew1) | exact HB.out)⟩
    ·replace c9 := Bool.eq_false_iff.mpr c9
     subst c9
     have H1 : (if 0 ≤ a2 then (if (a2 : Int).toNat ≤ 11728124029610 then (sky_Dirty.l0 kj5 l0 l1 a2 (List.replicate (a2 : Int).toNat []) a2 0) else (none)) else (none)) = some (r1, r2) := by first | (with_reducible rfl) | (rw [if_neg (show ¬ (false = true) by decide)] at H; exact H)
     clear H
     have H := H1
     clear H1
     by_cases c10 : 0 ≤ a2
     ·rw [if_pos c10] at H
      have c10b0 := eq_true c10
      have c10b1 : decide (0 ≤ a2) = true := decide_eq_true c10
      clear c10
      by_cases c11 : (a2 : Int).toNat ≤ 11728124029610
      ·rw [if_pos c11] at H
       have c11b0 := eq_true c11
       have c11b1 : decide ((a2 : Int).toNat ≤ 11728124029610) = true := decide_eq_true c11
       clear c11
       obtain ⟨y218, hy218⟩ : ∃ y_ : List (List Int), y_ = (List.replicate (a2 : Int).toNat []) := ⟨_, rfl⟩
       replace H : (sky_Dirty.l0 kj5 l0 l1 a2 y218 a2 0) = some (r1, r2) := by first | (rw [hy218]; with_reducible exact H) | (have H2_ := (Option.bind_some _ _).symm.trans H; rw [hy218]; with_reducible exact H2_) | (have H2_ := (Option.bind_some _ _).symm.trans H; with_reducible exact H2_) | with_reducible exact H | (rw [hy218]; exact H) | exact H
       have Ny218 := Aside0.mk hy218
       clear hy218
       have H' := Aside0.mk H
       clear H
       go_wp2_with (first | ((with_reducible refine gate_dst (N := 27) rfl ?_); refine Kd.S_make (Kd.slice 3 (Kd.int .i64)) _ 53 rfl (N := 27) rfl 49 _ _ rfl a2 rfl rfl Try.underlying49 (.slice none 0 0) 24 info53 rfl (by decide) (by omega) [] (ok := fun _ => True) (okp := fun _ => True) ⟨_, rfl, Kd.R_nil _ _ _ _ _⟩ (fun _ hk => hk) trivial (of_decide_eq_true (by first | (with_reducible assumption) | assumption)) (Nat.le_trans (Nat.mul_le_mul_right _ (of_decide_eq_true (by first | (with_reducible assumption) | assumption) : a2.toNat ≤ 11728124029610)) (by omega)) (Below.refl _ _) (Nat.le_refl _) ?_; intro v219 w12 ho13 hb hg_ hnew_; clear hg_ hnew_; (first | rw [← Ny218.out] at ho13 | (simp only [Int.reduceToNat] at ho13; rw [← Ny218.out] at ho13)); have n0_ := Aside0.mk (Kd.S_lower ho13 (below_size (by repeat (first | (with_reducible first | exact HB.out | apply below_alloc | apply pw_below_drewN | apply below_drew1) | exact HB.out)))); have n1_ := Aside0.mk (below_step (by repeat (first | (with_reducible first | exact HB.out | apply below_alloc | apply pw_below_drewN | apply below_drew1) | exact HB.out)) hb); clear HB; have HO220 := n0_; have HB := n1_; clear n0_ n1_; clear hb ho13))
       go_loopg [29] kj5 (fun kq v29 w' => ∃ (x9_2 : List (List Int)) (x29_2 : Int), v29 = .int .i64 x29_2 ∧ Aside0 (sky_Dirty.l0 kq l0 l1 a2 x9_2 a2 x29_2 = some (r1, r2)) ∧ Aside0 (kq ≤ kj5) ∧ Aside0 (Kd.S (Kd.slice 3 (Kd.int .i64)) 53 w' w.heap.size (fun _ => True) v219 x9_2) ∧ Aside0 (Below w.heap.size w w'))
       case atStart => exact ⟨(y218), (0), (by first | rfl | (simp; done) | (simp [*]; done)), H', ⟨Nat.le_refl _⟩, ⟨by (with_reducible repeat (first | apply Kd.S_alloc | apply Kd.S_drewN | apply Kd.S_drew)); exact HO220.out⟩, ⟨by repeat (first | (with_reducible first | exact HB.out | apply below_alloc | apply pw_below_drewN | apply below_drew1) | exact HB.out)⟩⟩
       case round =>
        clear H'
        try clear c1
        try clear c2
        try clear p2
        try clear c4
        try clear c5
        try clear c5b0
        try clear c5b1
        try clear c8
        try clear c8b0
        try clear c9
        try clear c10
        try clear c10b0
        try clear c10b1
        try clear c11
        try clear c11b0
        try clear c11b1
        try clear p2
        obtain ⟨x9_2, x29_2, rfl, HA, HK2, HO_9, HB⟩ := hrel
        cases gk with
        | zero => exact absurd HA.out (by simp [sky_Dirty.l0])
        | succ k2 =>
         have H := HA.out
         clear HA
         simp only [sky_Dirty.l0] at H
         by_cases c14 : x29_2 < a2
         ·rw [if_pos c14] at H
          have c14b0 : decide (x29_2 < a2) = true := decide_eq_true c14
          clear c14
          by_cases c15 : 0 ≤ a2
          ·rw [if_pos c15] at H
           have c15b0 := eq_true c15
           have c15b1 : decide (0 ≤ a2) = true := decide_eq_true c15
           clear c15
           by_cases c16 : (a2 : Int).toNat ≤ 35184372088832
           ·rw [if_pos c16] at H
            have c16b0 := eq_true c16
            have c16b1 : decide ((a2 : Int).toNat ≤ 35184372088832) = true := decide_eq_true c16
            clear c16
            obtain ⟨y221, hy221⟩ : ∃ y_ : List Int, y_ = (List.replicate (a2 : Int).toNat 0) := ⟨_, rfl⟩
            replace H : (if 0 ≤ x29_2 then (if x29_2 < (x9_2.length : Int) then (sky_Dirty.l1 k2 l0 l1 a2 (x9_2.set (x29_2 : Int).toNat y221) x29_2 a2 x29_2 a2 0) else (none)) else (none)) = some (r1, r2) := by first | (rw [hy221]; with_reducible exact H) | (have H2_ := (Option.bind_some _ _).symm.trans H; rw [hy221]; with_reducible exact H2_) | (have H2_ := (Option.bind_some _ _).symm.trans H; with_reducible exact H2_) | with_reducible exact H | (rw [hy221]; exact H) | exact H
            have Ny221 := Aside0.mk hy221
            clear hy221
            by_cases c17 : 0 ≤ x29_2
            ·rw [if_pos c17] at H
             have c17b0 : decide (0 ≤ x29_2) = true := decide_eq_true c17
             clear c17
             by_cases c18 : x29_2 < (x9_2.length : Int)
             ·rw [if_pos c18] at H
              have c18b0 : decide (x29_2 < (x9_2.length : Int)) = true := decide_eq_true c18
              clear c18
              obtain ⟨y224, hy224⟩ : ∃ y_ : List (List Int), y_ = (x9_2.set (x29_2 : Int).toNat y221) := ⟨_, rfl⟩
              replace H : (sky_Dirty.l1 k2 l0 l1 a2 y224 x29_2 a2 x29_2 a2 0) = some (r1, r2) := by first | (rw [hy224]; with_reducible exact H) | (have H2_ := (Option.bind_some _ _).symm.trans H; rw [hy224]; with_reducible exact H2_) | (have H2_ := (Option.bind_some _ _).symm.trans H; with_reducible exact H2_) | with_reducible exact H | (rw [hy224]; exact H) | exact H
              have Ny224 := Aside0.mk hy224
              clear hy224
              have H' := Aside0.mk H
              clear H
              go_wp2_with (first | ((with_reducible refine gate_dst (N := 35) rfl ?_); refine Kd.R_make (Kd.int .i64) _ 3 rfl (N := 35) rfl 53 _ _ rfl a2 rfl rfl Try.underlying53 (.int .i64 0) 8 info3 rfl (by decide) (by omega) 0 (ok := fun _ => True) (okp := fun _ => True) rfl (fun _ hk => hk) trivial (of_decide_eq_true (by first | (with_reducible assumption) | assumption)) (Nat.le_trans (Nat.mul_le_mul_right _ (of_decide_eq_true (by first | (with_reducible assumption) | assumption) : a2.toNat ≤ 35184372088832)) (by omega)) (Below.refl _ _) (Nat.le_refl _) ?_; intro v222 w20 ho21 hb hg_ hnew_; clear hg_ hnew_; (first | rw [← Ny221.out] at ho21 | (simp only [Int.reduceToNat] at ho21; rw [← Ny221.out] at ho21)); have n0_ := Aside0.mk (Kd.S_elder' (by (with_reducible repeat (first | apply Kd.S_alloc | apply Kd.S_drewN | apply Kd.S_drew)); exact HO_9.out) (Kd.R_base ho21) hb); have n1_ := Aside0.mk (Kd.R_lower ho21 (below_size (by repeat (first | (with_reducible first | exact HB.out | apply below_alloc | apply pw_below_drewN | apply below_drew1) | exact HB.out)))); have n2_ := Aside0.mk (below_step (by repeat (first | (with_reducible first | exact HB.out | apply below_alloc | apply pw_below_drewN | apply below_drew1) | exact HB.out)) hb); clear HO_9; clear HB; have HO_9 := n0_; have HO223 := n1_; have HB := n2_; clear n0_ n1_ n2_; clear hb ho21; have p19 : 0 ≤ (x29_2 : Int) := of_decide_eq_true (by first | (with_reducible assumption) | assumption); have q19 : (x29_2 : Int) < ((x9_2.length : Int) : Int) := of_decide_eq_true (by first | (with_reducible assumption) | assumption); obtain ⟨go19, co19, eo19, gb19, gl19, cl19, HG19⟩ := Kd.S_form HO_9.out (by omega); (first | cases eo19 | (injection eo19 with ea_ en_ ec_; (first | subst ea_ | (injection ea_ with ea_; subst ea_)); subst ec_; clear en_)); have GB19 := Aside0.mk gb19; have GG19 := Aside0.mk HG19; clear gb19 gl19 HG19; obtain ⟨_, ce19, hcl19, hM19, hcc19, hfr19, _, _⟩ := Kd.S_elem HO_9.out [] (x29_2 : Int) p19 q19; obtain ⟨ve19_0, rfl, ge19_0⟩ := (id hM19); have hx19_0 := hcc19 0 _ rfl; have hf19_0 := hfr19 0; (try simp only [show ((Kd.slice 3 (Kd.int .i64))).sz = 1 from rfl, Nat.mul_one, Nat.add_zero] at hx19_0); (try simp only [show ((Kd.slice 3 (Kd.int .i64))).sz = 1 from rfl, Nat.mul_one, Nat.add_zero] at hf19_0); clear hcl19 hcc19 hfr19 hM19; replace p19 := eq_true p19; replace q19 := eq_true q19; have n_ := Aside0.mk (Kd.S_mono (ok' := (fun k_ => some k_ ≠ (v222 : Value).ownBlock)) HO_9.out (fun k_ hk => hk.2)); clear HO_9; have HO_9 := n_; clear n_; have HX22 := Aside0.mk (show Kd.S (Kd.slice 3 (Kd.int .i64)) 53 w20 w.heap.size (fun k_ => ((fun _ => True)) k_ ∧ ¬ ((fun k_ => some k_ = (v222 : Value).ownBlock)) k_) (.slice (some ⟨go19, 0, none⟩) x9_2.length co19) x9_2 from (by (with_reducible repeat (first | apply Kd.S_alloc | apply Kd.S_drewN | apply Kd.S_drew)); exact Kd.S_mono HO_9.out (fun k_ hk => ⟨trivial, fun e_ => hk e_⟩))); obtain ⟨oki22, ce22, hcl22, hM22, hcc22, hfr22, hoki22, hH22⟩ := Kd.S_elem HX22.out [] (x29_2 : Int) (of_decide_eq_true (by first | (with_reducible assumption) | assumption)) (by have h_ : (x29_2 : Int) < ((x9_2.length : Int) : Int) := of_decide_eq_true (by first | (with_reducible assumption) | assumption); first | exact h_ | (have e_ := (Kd.S_reads' HO_9.out).1; omega) | simpa using h_); obtain ⟨ve22_0, rfl, ge22_0⟩ := (id hM22); have HP22 := Kd.S_seg hH22 (of_decide_eq_true (by first | (with_reducible assumption) | assumption)) (by have h_ : (x29_2 : Int) < ((x9_2.length : Int) : Int) := of_decide_eq_true (by first | (with_reducible assumption) | assumption); first | exact h_ | (have e_ := (Kd.S_reads' HO_9.out).1; omega) | simpa using h_) (seg := [v222]) (j := 0) (show 1 ≤ 1 from by decide) (x' := y221) (Kd.M_row (Kd.R_mono (Kd.R_tight rfl (Kd.R_mono (ok' := fun k_ => ((fun _ => True)) k_ ∧ k_ ≠ go19) (Kd.R_apart' (HO223.out) (Kd.S_typed HO_9.out) (by decide)) (fun k_ hk => ⟨trivial, fun e_ => (hk.2) (by rw [e_]; rfl)⟩))) (fun _ h_ => Or.inr (h_)))) (fun _ hk => hk) (fun k_ hk_ => ((Kd.R_mono (ok' := fun k_ => ((fun _ => True)) k_ ∧ k_ ≠ go19) (Kd.R_apart' (HO223.out) (Kd.S_typed HO_9.out) (by decide)) (fun k_ hk => ⟨trivial, fun e_ => (hk.2) (by rw [e_]; rfl)⟩))).1 k_ hk_.symm); have hx22_0 := hcc22 0 _ rfl; (try simp only [show ((Kd.slice 3 (Kd.int .i64))).sz = 1 from rfl, Nat.mul_one, Nat.add_zero] at hx22_0); have hf22_0 := hfr22 0; (try simp only [show ((Kd.slice 3 (Kd.int .i64))).sz = 1 from rfl, Nat.mul_one, Nat.add_zero] at hf22_0); clear hcl22 hcc22 hfr22 hM22 hoki22 hH22; (try simp only [show ((Kd.slice 3 (Kd.int .i64))).sz = 1 from rfl, Nat.mul_one, Nat.add_zero] at HP22)) | ((with_reducible refine gate_store (t := 53) (p := 36) rfl ?_); refine store_event (t := 53) (p := 36) (v := ?vo_w23) (w1 := (w20.setCell ⟨go19, (x29_2 : Int).toNat, none⟩ (v222))) ?hg ?ho ?hn ?hr ?_; (case ho => rfl); (case hg => rfl); (case hn => rfl); (case hr => first | (go_simp; done) | (go_simp; rfl) | (obtain ⟨_, _, es_⟩ := Kd.R_slice HO223.out; rw [es_]; first | (go_simp; done) | (go_simp; rfl))); intro w23 hw; have hg : w20.grownBy w23 (some go19) := (by rw [hw]; exact HP22.2); have hp_ : Kd.S (Kd.slice 3 (Kd.int .i64)) 53 w23 w.heap.size (fun _ => True) (.slice (some ⟨go19, 0, none⟩) x9_2.length co19) y224 := (by rw [hw, Ny224.out]; exact HP22.1); clear HP22; have n0_ := Aside0.mk (hp_); have n1_ := Aside0.mk ((by rw [hw]; exact below_set (HB.out) GB19.out : Below w.heap.size w w23)); clear HO_9; clear HB; clear HO223; have HO_9 := n0_; have HB := n1_; clear n0_ n1_; clear hg hw hp_))
              go_loopg [38] k2 (fun kq v38 w' => ∃ (x9_3 : List (List Int)) (x38_3 : Int), v38 = .int .i64 x38_3 ∧ Aside0 (sky_Dirty.l1 kq l0 l1 a2 x9_3 x29_2 a2 x29_2 a2 x38_3 = some (r1, r2)) ∧ Aside0 (kq ≤ k2) ∧ Aside0 (Kd.S (Kd.slice 3 (Kd.int .i64)) 53 w' w.heap.size (fun _ => True) (.slice (some ⟨go19, 0, none⟩) x9_2.length co19) x9_3) ∧ Aside0 (Below w.heap.size w w'))
              case atStart => exact ⟨(y224), (0), (by first | rfl | (simp; done) | (simp [*]; done)), H', ⟨Nat.le_refl _⟩, ⟨by (with_reducible repeat (first | apply Kd.S_alloc | apply Kd.S_drewN | apply Kd.S_drew)); exact HO_9.out⟩, ⟨by repeat (first | (with_reducible first | exact HB.out | apply below_alloc | apply pw_below_drewN | apply below_drew1) | exact HB.out)⟩⟩
              case round =>
               clear H'
               try clear c1
               try clear p1
               try clear q1
               try clear hx1
               try clear c2
               try clear p2
               try clear hx2
               try clear c4
               try clear c5
               try clear c5b0
               try clear c5b1
               try clear c8
               try clear c8b0
               try clear c9
               try clear c10
               try clear c10b0
               try clear c10b1
               try clear c11
               try clear c11b0
               try clear c11b1
               try clear c14
               try clear c14b0
               try clear c15
               try clear c15b0
               try clear c15b1
               try clear c16
               try clear c16b0
               try clear c16b1
               try clear c17
               try clear c17b0
               try clear c18
               try clear c18b0
               try clear c19
               try clear p19
               try clear q19
               try clear hx19
               try clear hf19
               try clear c21
               try clear c22
               try clear hx22
               try clear hf22
               try clear hx19_0
               try clear hx22_0
               try clear p19
               try clear p2
               try clear q19
               obtain ⟨x9_3, x38_3, rfl, HA, HK3, HO_9, HB⟩ := hrel
               have hl9_3 := (Kd.S_reads' HO_9.out).1
               rw [hl9_3] at HO_9
               (try simp only [hl9_3])
               cases gk with
               | zero => exact absurd HA.out (by simp [sky_Dirty.l1])
               | succ k3 =>
                have H := HA.out
                clear HA
                simp only [sky_Dirty.l1] at H
                by_cases c24 : x38_3 < a2
                ·rw [if_pos c24] at H
                 have c24b0 : decide (x38_3 < a2) = true := decide_eq_true c24
                 (try simp only [hl9_3] at c24b0)
                 clear c24
                 replace H := Option.bind_eq_some_iff.mp H
                 obtain ⟨t225, A250, H⟩ := H
                 replace H : (sky_Dirty.l2 k3 l0 l1 a2 x9_3 x29_2 x38_3 a2 x29_2 a2 x38_3 t225 (t225.length : Int) 0) = some (r1, r2) := H
                 have A25 := Aside0.mk A250
                 clear A250
                 have H' := Aside0.mk H
                 clear H
                 go_wp2_with (first | ((with_reducible refine gate_callee (f := 42) rfl ?_); refine goesL_ (some 42) rfl rfl Try.func42 (by kernel_rfl) rfl #[.slice A0 l0.length c0] rfl (by (try simp only [List.map_toArray, List.map_cons, List.map_nil]); first | done | rfl | (simp only [List.length_drop, List.length_take]; rfl)) ?_; (with_reducible refine (sky_baselines.calls k3 _ _ l0 t225 _ ?side1 ?side2 A25.out).mono ?_); (case side1 => repeat (first | exact (Kd.C_below HR0.out HB.out) | (with_reducible refine Kd.C_alloc ?_ _) | (with_reducible refine Kd.C_drewN ?_ _) | (with_reducible refine Kd.C_drew ?_))); (case side2 => exact HC0.out); rintro e w26 ⟨v226, rfl, ho0, hb⟩; refine ⟨_, rfl, ?_⟩; have n0_ := Aside0.mk (Kd.S_below (by (with_reducible repeat (first | apply Kd.S_alloc | apply Kd.S_drewN | apply Kd.S_drew)); exact HO_9.out) hb); have n1_ := Aside0.mk (Kd.R_lower ho0 (below_size (by repeat (first | (with_reducible first | exact HB.out | apply below_alloc | apply pw_below_drewN | apply below_drew1) | exact HB.out)))); have n2_ := Aside0.mk (below_step (by repeat (first | (with_reducible first | exact HB.out | apply below_alloc | apply pw_below_drewN | apply below_drew1) | exact HB.out)) hb); clear HO_9; clear HB; have HO_9 := n0_; have HO227 := n1_; have HB := n2_; clear n0_ n1_ n2_; (try clear hb); (try clear hb2); (try clear hk); (try clear hi); (try clear ho0); obtain ⟨Ao27, co27, eo27⟩ := Kd.R_slice HO227.out; subst eo27))
                 go_loopg [44] k3 (fun kq v44 w' => ∃ (x9_4 : List (List Int)) (x44_4 : Int), v44 = .int .i64 x44_4 ∧ Aside0 (sky_Dirty.l2 kq l0 l1 a2 x9_4 x29_2 x38_3 a2 x29_2 a2 x38_3 t225 (t225.length : Int) x44_4 = some (r1, r2)) ∧ Aside0 (kq ≤ k3) ∧ Aside0 (Kd.S (Kd.slice 3 (Kd.int .i64)) 53 w' w.heap.size (fun _ => True) (.slice (some ⟨go19, 0, none⟩) x9_3.length co19) x9_4) ∧ Aside0 (Kd.R k85 85 w' w.heap.size (fun _ => True) (.slice Ao27 t225.length co27) t225) ∧ Aside0 (Below w.heap.size w w'))
                 case atStart => exact ⟨(x9_3), (0), (by first | rfl | (simp; done) | (simp [*]; done)), H', ⟨Nat.le_refl _⟩, ⟨by (try simp only [hl9_3]); (with_reducible repeat (first | apply Kd.S_alloc | apply Kd.S_drewN | apply Kd.S_drew)); exact HO_9.out⟩, ⟨by (try simp only [hl9_3]); (with_reducible repeat (first | apply Kd.R_alloc | apply Kd.R_drewN | apply Kd.R_drew)); exact HO227.out⟩, ⟨by repeat (first | (with_reducible first | exact HB.out | apply below_alloc | apply pw_below_drewN | apply below_drew1) | exact HB.out)⟩⟩
                 case round =>
                  clear H'
                  try clear c1
                  try clear p1
                  try clear q1
                  try clear hx1
                  try clear c2
                  try clear p2
                  try clear hx2
                  try clear c4
                  try clear c5
                  try clear c5b0
                  try clear c5b1
                  try clear c8
                  try clear c8b0
                  try clear c9
                  try clear c10
                  try clear c10b0
                  try clear c10b1
                  try clear c11
                  try clear c11b0
                  try clear c11b1
                  try clear c14
                  try clear c14b0
                  try clear c15
                  try clear c15b0
                  try clear c15b1
                  try clear c16
                  try clear c16b0
                  try clear c16b1
                  try clear c17
                  try clear c17b0
                  try clear c18
                  try clear c18b0
                  try clear c19
                  try clear p19
                  try clear q19
                  try clear hx19
                  try clear hf19
                  try clear c21
                  try clear c22
                  try clear hx22
                  try clear hf22
                  try clear c24
                  try clear c24b0
                  try clear hx19_0
                  try clear hx22_0
                  try clear p1
                  try clear p19
                  try clear p2
                  try clear q1
                  try clear q19
                  obtain ⟨x9_4, x44_4, rfl, HA, HK4, HO_9, HO_42, HB⟩ := hrel
                  have hl9_4 := (Kd.S_reads' HO_9.out).1
                  rw [hl9_4] at HO_9
                  (try simp only [hl9_4])
                  (try simp only [hl9_4] at HO_42)
                  cases gk with
                  | zero => exact absurd HA.out (by simp [sky_Dirty.l2])
                  | succ k4 =>
                   have H := HA.out
                   clear HA
                   simp only [sky_Dirty.l2] at H
                   by_cases c28 : x44_4 < (t225.length : Int)
                   ·rw [if_pos c28] at H
                    have c28b0 : decide (x44_4 < (t225.length : Int)) = true := decide_eq_true c28
                    (try simp only [hl9_3] at c28b0)
                    (try simp only [hl9_4] at c28b0)
                    clear c28
                    by_cases c29 : 0 ≤ x44_4
                    ·rw [if_pos c29] at H
                     have c29b0 : decide (0 ≤ x44_4) = true := decide_eq_true c29
                     (try simp only [hl9_3] at c29b0)
                     (try simp only [hl9_4] at c29b0)
                     clear c29
                     by_cases c30 : x44_4 < (t225.length : Int)
                     ·rw [if_pos c30] at H
                      have c30b0 : decide (x44_4 < (t225.length : Int)) = true := decide_eq_true c30
                      (try simp only [hl9_3] at c30b0)
                      (try simp only [hl9_4] at c30b0)
                      clear c30
                      by_cases c31 : 0 ≤ x29_2
                      ·rw [if_pos c31] at H
                       have c31b0 : decide (0 ≤ x29_2) = true := decide_eq_true c31
                       (try simp only [hl9_3] at c31b0)
                       (try simp only [hl9_4] at c31b0)
                       clear c31
                       by_cases c32 : x29_2 < (x9_4.length : Int)
                       ·rw [if_pos c32] at H
                        have c32b0 : decide (x29_2 < (x9_4.length : Int)) = true := decide_eq_true c32
                        (try simp only [hl9_3] at c32b0)
                        (try simp only [hl9_4] at c32b0)
                        clear c32
                        by_cases c33 : 0 ≤ x38_3
                        ·rw [if_pos c33] at H
                         have c33b0 : decide (0 ≤ x38_3) = true := decide_eq_true c33
                         (try simp only [hl9_3] at c33b0)
                         (try simp only [hl9_4] at c33b0)
                         clear c33
                         by_cases c34 : x38_3 < ((rd_L6 x9_4 x29_2).length : Int)
                         ·rw [if_pos c34] at H
                          have c34b0 : decide (x38_3 < ((rd_L6 x9_4 x29_2).length : Int)) = true := decide_eq_true c34
                          (try simp only [hl9_3] at c34b0)
                          (try simp only [hl9_4] at c34b0)
                          clear c34
                          replace H := Option.bind_eq_some_iff.mp H
                          obtain ⟨⟨t232, t233⟩, A350, H⟩ := H
                          replace H : (sky_Dirty.l2 k4 l0 l1 a2 (x9_4.set (x29_2 : Int).toNat ((rd_L6 x9_4 x29_2).set (x38_3 : Int).toNat (wrap64 ((rd (rd_L6 x9_4 x29_2) x38_3) + t232)))) x29_2 x38_3 a2 x29_2 a2 x38_3 t225 (t225.length : Int) (wrap64 (x44_4 + 1))) = some (r1, r2) := H
                          have A35 := Aside0.mk A350
                          clear A350
                          obtain ⟨y234, hy234⟩ : ∃ y_ : List Int, y_ = ((rd_L6 x9_4 x29_2).set (x38_3 : Int).toNat (wrap64 ((rd (rd_L6 x9_4 x29_2) x38_3) + t232))) := ⟨_, rfl⟩
                          replace H : (sky_Dirty.l2 k4 l0 l1 a2 (x9_4.set (x29_2 : Int).toNat y234) x29_2 x38_3 a2 x29_2 a2 x38_3 t225 (t225.length : Int) (wrap64 (x44_4 + 1))) = some (r1, r2) := by first | (rw [hy234]; with_reducible exact H) | (have H2_ := (Option.bind_some _ _).symm.trans H; rw [hy234]; with_reducible exact H2_) | (have H2_ := (Option.bind_some _ _).symm.trans H; with_reducible exact H2_) | with_reducible exact H | (rw [hy234]; exact H) | exact H
                          have Ny234 := Aside0.mk hy234
                          clear hy234
                          obtain ⟨y236, hy236⟩ : ∃ y_ : List (List Int), y_ = (x9_4.set (x29_2 : Int).toNat y234) := ⟨_, rfl⟩
                          replace H : (sky_Dirty.l2 k4 l0 l1 a2 y236 x29_2 x38_3 a2 x29_2 a2 x38_3 t225 (t225.length : Int) (wrap64 (x44_4 + 1))) = some (r1, r2) := by first | (rw [hy236]; with_reducible exact H) | (have H2_ := (Option.bind_some _ _).symm.trans H; rw [hy236]; with_reducible exact H2_) | (have H2_ := (Option.bind_some _ _).symm.trans H; with_reducible exact H2_) | with_reducible exact H | (rw [hy236]; exact H) | exact H
                          have Ny236 := Aside0.mk hy236
                          clear hy236
                          have H' := Aside0.mk H
                          clear H
                          have p228 : 0 ≤ (x44_4 : Int) := of_decide_eq_true (by first | (with_reducible assumption) | assumption)
                          have q228 : x44_4 < (t225.length : Int) := of_decide_eq_true (by first | (with_reducible assumption) | assumption)
                          obtain ⟨ad228, e228, hx228_0, hx228_1, hx228_2, hx228_3⟩ := at_T85 (Kd.R_reads' HO_42.out).2.2 x44_4 p228 q228
                          cases e228
                          replace p228 := eq_true p228
                          replace q228 := eq_true q228
                          try go_wp2_with (first | ((with_reducible refine gate_dst (N := 13) rfl ?_); refine box_event ?hg (N := 13) ?hd (cs := #[.int .i64 0, .int .i64 0, .int .i64 0, .int .i64 0]) (t := 85) ?hr ?_; (case hd => rfl); (case hg => rfl); (case hr => first | (go_simp; done) | (go_simp; rfl)); intro gb229 hg w37 hbox hb; have n0_ := Aside0.mk (Kd.S_below (by (with_reducible repeat (first | apply Kd.S_alloc | apply Kd.S_drewN | apply Kd.S_drew)); exact HO_9.out) hb); have n1_ := Aside0.mk (Kd.R_below (Kd.R_elderB (by (with_reducible repeat (first | apply Kd.R_alloc | apply Kd.R_drewN | apply Kd.R_drew)); exact HO_42.out) gb229 (Nat.le_of_eq hg.symm)) hb); have n2_ := Aside0.mk (below_step (by repeat (first | (with_reducible first | exact HB.out | apply below_alloc | apply pw_below_drewN | apply below_drew1) | exact HB.out)) hb); have n3_ := Aside0.mk (hbox); have n4_ := Aside0.mk ((by rw [hg]; exact (below_size (by repeat (first | (with_reducible first | exact HB.out | apply below_alloc | apply pw_below_drewN | apply below_drew1) | exact HB.out))) : w.heap.size ≤ gb229)); have n5_ := Aside0.mk ((by rw [hg]; exact (below_size (by repeat (first | (with_reducible first | exact HB.out | apply below_alloc | apply pw_below_drewN | apply below_drew1) | exact HB.out))) : w.heap.size ≤ gb229)); clear HO_9; clear HO_42; clear HB; have HO_9 := n0_; have HO_42 := n1_; have HB := n2_; have BK229 := n3_; have GW229 := n4_; have GE229 := n5_; clear n0_ n1_ n2_ n3_ n4_ n5_; clear hb hbox hg; have hcz38_0 : w37.cell? ⟨gb229, 0, none⟩ = some (.int .i64 0) := (blk_cell BK229.out 0).trans rfl; have hcz38_1 : w37.cell? ⟨gb229, 1, none⟩ = some (.int .i64 0) := (blk_cell BK229.out 1).trans rfl; have hcz38_2 : w37.cell? ⟨gb229, 2, none⟩ = some (.int .i64 0) := (blk_cell BK229.out 2).trans rfl; have hcz38_3 : w37.cell? ⟨gb229, 3, none⟩ = some (.int .i64 0) := (blk_cell BK229.out 3).trans rfl; have hfz38_0 := blk_frozen BK229.out 0; have hfz38_1 := blk_frozen BK229.out 1; have hfz38_2 := blk_frozen BK229.out 2; have hfz38_3 := blk_frozen BK229.out 3))
                          have n0_ : Aside0 (Kd.S (Kd.slice 3 (Kd.int .i64)) 53 ((((w37.setCell ⟨gb229, 0, none⟩ (.int .i64 ((rd_T85 t225 x44_4).f0))).setCell ⟨gb229, 1, none⟩ (.int .i64 ((rd_T85 t225 x44_4).f1))).setCell ⟨gb229, 2, none⟩ (.int .i64 ((rd_T85 t225 x44_4).f2))).setCell ⟨gb229, 3, none⟩ (.int .i64 ((rd_T85 t225 x44_4).f3))) w.heap.size (fun _ => True) (.slice (some ⟨go19, 0, none⟩) x9_4.length co19) x9_4) := ⟨by (with_reducible repeat (first | apply Kd.S_alloc | apply Kd.S_drewN | apply Kd.S_drew)); exact Kd.S_mono (Kd.S_far (p := ⟨gb229, 3, none⟩) (Kd.S_far (p := ⟨gb229, 2, none⟩) (Kd.S_far (p := ⟨gb229, 1, none⟩) (Kd.S_far (p := ⟨gb229, 0, none⟩) (Kd.S_types HO_9.out BK229.out (by decide)) (fun _ hk => hk.2) (.int .i64 ((rd_T85 t225 x44_4).f0))) (fun _ hk => hk.2) (.int .i64 ((rd_T85 t225 x44_4).f1))) (fun _ hk => hk.2) (.int .i64 ((rd_T85 t225 x44_4).f2))) (fun _ hk => hk.2) (.int .i64 ((rd_T85 t225 x44_4).f3))) (fun _ hk => trivial)⟩
                          have n1_ : Aside0 (Kd.R k85 85 ((((w37.setCell ⟨gb229, 0, none⟩ (.int .i64 ((rd_T85 t225 x44_4).f0))).setCell ⟨gb229, 1, none⟩ (.int .i64 ((rd_T85 t225 x44_4).f1))).setCell ⟨gb229, 2, none⟩ (.int .i64 ((rd_T85 t225 x44_4).f2))).setCell ⟨gb229, 3, none⟩ (.int .i64 ((rd_T85 t225 x44_4).f3))) w.heap.size (fun k_ => k_ ≠ gb229) (.slice (some ad228) t225.length co27) t225) := ⟨by (with_reducible repeat (first | apply Kd.R_alloc | apply Kd.R_drewN | apply Kd.R_drew)); exact Kd.R_mono (Kd.R_far (p := ⟨gb229, 3, none⟩) (Kd.R_far (p := ⟨gb229, 2, none⟩) (Kd.R_far (p := ⟨gb229, 1, none⟩) (Kd.R_far (p := ⟨gb229, 0, none⟩) (Kd.R_mono HO_42.out (fun k_ hk => (⟨hk, hk.2⟩ : _ ∧ k_ ≠ gb229))) (fun _ hk => hk.2) (.int .i64 ((rd_T85 t225 x44_4).f0))) (fun _ hk => hk.2) (.int .i64 ((rd_T85 t225 x44_4).f1))) (fun _ hk => hk.2) (.int .i64 ((rd_T85 t225 x44_4).f2))) (fun _ hk => hk.2) (.int .i64 ((rd_T85 t225 x44_4).f3))) (fun _ hk => hk.1.2)⟩
                          have n2_ : Aside0 (((((w37.setCell ⟨gb229, 0, none⟩ (.int .i64 ((rd_T85 t225 x44_4).f0))).setCell ⟨gb229, 1, none⟩ (.int .i64 ((rd_T85 t225 x44_4).f1))).setCell ⟨gb229, 2, none⟩ (.int .i64 ((rd_T85 t225 x44_4).f2))).setCell ⟨gb229, 3, none⟩ (.int .i64 ((rd_T85 t225 x44_4).f3))).heap[gb229]? = some (.cells #[.int .i64 ((rd_T85 t225 x44_4).f0), .int .i64 ((rd_T85 t225 x44_4).f1), .int .i64 ((rd_T85 t225 x44_4).f2), .int .i64 ((rd_T85 t225 x44_4).f3)] 85 (0, 0))) := ⟨by (with_reducible repeat (first | refine blk_drewN ?_ _ | refine blk_drew ?_ | refine blk_alloc ?_ _)); refine blk_put (cs := #[.int .i64 ((rd_T85 t225 x44_4).f0), .int .i64 ((rd_T85 t225 x44_4).f1), .int .i64 ((rd_T85 t225 x44_4).f2), .int .i64 0]) ?_ 3 _ rfl; (with_reducible repeat (first | refine blk_drewN ?_ _ | refine blk_drew ?_ | refine blk_alloc ?_ _)); refine blk_put (cs := #[.int .i64 ((rd_T85 t225 x44_4).f0), .int .i64 ((rd_T85 t225 x44_4).f1), .int .i64 0, .int .i64 0]) ?_ 2 _ rfl; (with_reducible repeat (first | refine blk_drewN ?_ _ | refine blk_drew ?_ | refine blk_alloc ?_ _)); refine blk_put (cs := #[.int .i64 ((rd_T85 t225 x44_4).f0), .int .i64 0, .int .i64 0, .int .i64 0]) ?_ 1 _ rfl; (with_reducible repeat (first | refine blk_drewN ?_ _ | refine blk_drew ?_ | refine blk_alloc ?_ _)); refine blk_put (cs := #[.int .i64 0, .int .i64 0, .int .i64 0, .int .i64 0]) ?_ 0 _ rfl; (with_reducible repeat (first | refine blk_drewN ?_ _ | refine blk_drew ?_ | refine blk_alloc ?_ _)); exact BK229.out⟩
                          have n3_ : Aside0 (Below w.heap.size w ((((w37.setCell ⟨gb229, 0, none⟩ (.int .i64 ((rd_T85 t225 x44_4).f0))).setCell ⟨gb229, 1, none⟩ (.int .i64 ((rd_T85 t225 x44_4).f1))).setCell ⟨gb229, 2, none⟩ (.int .i64 ((rd_T85 t225 x44_4).f2))).setCell ⟨gb229, 3, none⟩ (.int .i64 ((rd_T85 t225 x44_4).f3)))) := ⟨by repeat (first | (with_reducible first | exact HB.out | apply below_alloc | apply pw_below_drewN | apply below_drew1 | refine below_set ?_ GE229.out) | exact HB.out)⟩
                          (try clear HO_9)
                          (try clear HO_42)
                          (try clear BK229)
                          (try clear HB)
                          generalize ((((w37.setCell ⟨gb229, 0, none⟩ (.int .i64 ((rd_T85 t225 x44_4).f0))).setCell ⟨gb229, 1, none⟩ (.int .i64 ((rd_T85 t225 x44_4).f1))).setCell ⟨gb229, 2, none⟩ (.int .i64 ((rd_T85 t225 x44_4).f2))).setCell ⟨gb229, 3, none⟩ (.int .i64 ((rd_T85 t225 x44_4).f3))) = w39 at n0_ n1_ n2_ n3_ ⊢
                          have HO_9 := n0_
                          have HO_42 := n1_
                          have BK229 := n2_
                          have HB := n3_
                          clear n0_ n1_ n2_ n3_
                          have n0_ := Aside0.mk (Kd.S_drew HO_9.out)
                          have n1_ := Aside0.mk (Kd.R_drew HO_42.out)
                          have n2_ := Aside0.mk (blk_drew BK229.out)
                          have n3_ := Aside0.mk (below_drew1 HB.out)
                          clear HO_9
                          clear HO_42
                          clear BK229
                          clear HB
                          have HO_9 := n0_
                          have HO_42 := n1_
                          have BK229 := n2_
                          have HB := n3_
                          clear n0_ n1_ n2_ n3_
                          have p230 : 0 ≤ (x29_2 : Int) := of_decide_eq_true (by first | (with_reducible assumption) | assumption)
                          have q230 : x29_2 < (x9_4.length : Int) := of_decide_eq_true (by first | (with_reducible assumption) | assumption)
                          obtain ⟨ad230, A230_0, c230_0, e230, hx230_0, hl230_0, hi230_0⟩ := at_L6 (Kd.S_reads' HO_9.out).2.2 x29_2 p230 q230
                          obtain rfl : (⟨go19, 0, none⟩ : Addr) = ad230 := (by injection e230)
                          obtain ⟨ce230, hce230, hMe230, hcc230⟩ := Kd.S_get HO_9.out [] x29_2 p230 (by first | exact q230 | exact of_decide_eq_true (by first | (with_reducible assumption) | assumption) | (have e_ := (Kd.S_reads' HO_9.out).1; omega))
                          obtain ⟨ve230_0, rfl, ge230_0⟩ := hMe230
                          have hv230_0 := hcc230 0 _ rfl
                          rw [Nat.add_zero, show ((Kd.slice 3 (Kd.int .i64))).sz = 1 from rfl, Nat.mul_one] at hv230_0
                          replace hv230_0 := Option.some.inj (hv230_0.symm.trans hx230_0)
                          rw [hv230_0] at ge230_0
                          have HL230_0 := Aside0.mk (show Kd.R (Kd.int .i64) 3 _ _ _ _ (rd_L6 x9_4 x29_2) from ge230_0)
                          clear hv230_0 ge230_0
                          have HX230_0 := Aside0.mk hx230_0
                          clear hcc230 hce230
                          (first | simp only [add_plain] at hx230_0 | simp only [add_at] at hx230_0 | simp only [Addr.add, Nat.zero_add] at hx230_0 | skip)
                          have HR230_0 := Aside0.mk hi230_0
                          have HC230_0 := Aside0.mk hl230_0
                          clear hi230_0 hl230_0
                          replace p230 := eq_true p230
                          replace q230 := eq_true q230
                          have p231 : 0 ≤ (x38_3 : Int) := of_decide_eq_true (by first | (with_reducible assumption) | assumption)
                          have q231 : x38_3 < ((rd_L6 x9_4 x29_2).length : Int) := of_decide_eq_true (by first | (with_reducible assumption) | assumption)
                          obtain ⟨ad231, e231, hx231_0⟩ := Kd.at_int (by repeat (first | (with_reducible exact HR230_0.out) | (with_reducible refine Kd.C_alloc ?_ _) | (with_reducible refine Kd.C_drewN ?_ _) | (with_reducible refine Kd.C_drew ?_) | exact HR230_0.out)) x38_3 p231 q231
                          cases e231
                          replace p231 := eq_true p231
                          replace q231 := eq_true q231
                          refine start_ (n := 18) (S := fun w' => w'.cell? ⟨gb229, 0, none⟩ = some (.int .i64 ((rd_T85 t225 x44_4).f0)) ∧ w'.cell? ⟨gb229, 1, none⟩ = some (.int .i64 ((rd_T85 t225 x44_4).f1)) ∧ w'.cell? ⟨gb229, 2, none⟩ = some (.int .i64 ((rd_T85 t225 x44_4).f2)) ∧ w'.cell? ⟨gb229, 3, none⟩ = some (.int .i64 ((rd_T85 t225 x44_4).f3)) ∧ w'.cell? ⟨go19, (x29_2).toNat, none⟩ = some (.slice (some ad231) (rd_L6 x9_4 x29_2).length c230_0) ∧ w'.cell? (ad231.add (x38_3).toNat) = some (.int .i64 (rd (rd_L6 x9_4 x29_2) x38_3))) (ds := [17]) #[false, false, false, false, false, false, false, false, false, false, false, false, false, false, false, false, false, false] (by kernel_rfl) rfl rfl ⟨(blk_cell BK229.out 0).trans rfl, (blk_cell BK229.out 1).trans rfl, (blk_cell BK229.out 2).trans rfl, (blk_cell BK229.out 3).trans rfl, hx230_0, hx231_0⟩ (fun hHeld => ?_); refine with_tabW sky_Dirty.tab17 sky_Dirty.bits17 (fun HT_ HW_ => ?_)
                          generalize w39.drew = w40 at HO_9 HO_42 BK229 HB HL230_0 HR230_0 HX230_0 hx230_0 hx231_0 hHeld ⊢
                          refine pure_ (i := 0) (N := some 48) (v := ?_) (a' := ?_) #[true, false, false, false, false, false, false, false, false, false, false, false, false, false, false, false, false, false] rfl rfl (any_of HT_.out (by kernel_rfl)) (fun _ _ _ h => h) (Or.inl ⟨by rfl, ?_⟩) ?_ ?_
                          rotate_left
                          ·intro w'
                           go_simp
                           with_reducible rfl
                          rotate_left
                          ·simp only [Act.put, List.setIfInBounds_toArray, List.set_cons_zero, List.set_cons_succ, i64_w, i32_w]
                           rfl
                          refine pure_ (i := 1) (N := some 49) (v := ?_) (a' := ?_) #[true, true, false, false, false, false, false, false, false, false, false, false, false, false, false, false, false, false] rfl rfl (any_of HT_.out (by kernel_rfl)) (fun _ _ _ h => h) (Or.inl ⟨by rfl, ?_⟩) ?_ ?_
                          rotate_left
                          ·intro w'
                           go_simp
                           with_reducible rfl
                          rotate_left
                          ·simp only [Act.put, List.setIfInBounds_toArray, List.set_cons_zero, List.set_cons_succ, i64_w, i32_w]
                           rfl
                          refine pure_ (i := 2) (N := some 50) (v := ?_) (a' := ?_) #[true, true, true, false, false, false, false, false, false, false, false, false, false, false, false, false, false, false] rfl rfl (any_of HT_.out (by kernel_rfl)) (fun _ _ _ h => h) (Or.inl ⟨by rfl, ?_⟩) ?_ ?_
                          rotate_left
                          ·intro w'
                           go_simp
                           with_reducible rfl
                          rotate_left
                          ·simp only [Act.put, List.setIfInBounds_toArray, List.set_cons_zero, List.set_cons_succ, i64_w, i32_w]
                           rfl
                          refine pure_ (i := 4) (N := some 52) (v := ?_) (a' := ?_) #[true, true, true, false, true, false, false, false, false, false, false, false, false, false, false, false, false, false] rfl rfl (any_of HT_.out (by kernel_rfl)) (fun _ _ _ h => h) (Or.inl ⟨by rfl, ?_⟩) ?_ ?_
                          rotate_left
                          ·intro w'
                           go_simp
                           with_reducible rfl
                          rotate_left
                          ·simp only [Act.put, List.setIfInBounds_toArray, List.set_cons_zero, List.set_cons_succ, i64_w, i32_w]
                           rfl
                          refine pure_ (i := 8) (N := some 56) (v := ?_) (a' := ?_) #[true, true, true, false, true, false, false, false, true, false, false, false, false, false, false, false, false, false] rfl rfl (any_of HT_.out (by kernel_rfl)) (fun _ _ _ h => h) (Or.inl ⟨by rfl, ?_⟩) ?_ ?_
                          rotate_left
                          ·intro w'
                           go_simp
                           with_reducible rfl
                          rotate_left
                          ·simp only [Act.put, List.setIfInBounds_toArray, List.set_cons_zero, List.set_cons_succ, i64_w, i32_w]
                           rfl
                          refine pure_ (i := 9) (N := some 57) (v := ?_) (a' := ?_) #[true, true, true, false, true, false, false, false, true, true, false, false, false, false, false, false, false, false] rfl rfl (any_of HT_.out (by kernel_rfl)) (fun _ _ _ h => h) (Or.inl ⟨by rfl, ?_⟩) ?_ ?_
                          rotate_left
                          ·intro w'
                           go_simp
                           with_reducible rfl
                          rotate_left
                          ·simp only [Act.put, List.setIfInBounds_toArray, List.set_cons_zero, List.set_cons_succ, i64_w, i32_w]
                           rfl
                          refine pure_ (i := 10) (N := some 58) (v := ?_) (a' := ?_) #[true, true, true, false, true, false, false, false, true, true, true, false, false, false, false, false, false, false] rfl rfl (any_of HT_.out (by kernel_rfl)) (fun _ _ _ h => h) (Or.inl ⟨by rfl, ?_⟩) ?_ ?_
                          rotate_left
                          ·intro w'
                           go_simp
                           with_reducible rfl
                          rotate_left
                          ·simp only [Act.put, List.setIfInBounds_toArray, List.set_cons_zero, List.set_cons_succ, i64_w, i32_w]
                           rfl
                          refine pure_ (i := 11) (N := some 59) (v := ?_) (a' := ?_) #[true, true, true, false, true, false, false, false, true, true, true, true, false, false, false, false, false, false] rfl rfl (any_of HT_.out (by kernel_rfl)) (fun _ _ _ h => h) (Or.inl ⟨by rfl, ?_⟩) ?_ ?_
                          rotate_left
                          ·intro w'
                           go_simp
                           with_reducible rfl
                          rotate_left
                          ·simp only [Act.put, List.setIfInBounds_toArray, List.set_cons_zero, List.set_cons_succ, i64_w, i32_w]
                           rfl
                          refine pure_ (i := 12) (N := some 60) (v := ?_) (a' := ?_) #[true, true, true, false, true, false, false, false, true, true, true, true, true, false, false, false, false, false] rfl rfl (any_of HT_.out (by kernel_rfl)) (fun _ _ _ h => h) (Or.inl ⟨by rfl, ?_⟩) ?_ ?_
                          rotate_left
                          ·intro w'
                           go_simp
                           with_reducible rfl
                          rotate_left
                          ·simp only [Act.put, List.setIfInBounds_toArray, List.set_cons_zero, List.set_cons_succ, i64_w, i32_w]
                           rfl
                          refine take_ (i := 3) (N := some 51) (v := ?_) (a' := ?_) #[true, true, true, true, true, false, false, false, true, true, true, true, true, false, false, false, false, false] rfl rfl (take_ofW HT_.out HW_.out (by kernel_rfl)) (fun _ _ _ h => h) (Or.inl ⟨by rfl, ?_⟩) hHeld ?_ ?_
                          rotate_left
                          ·rintro w' ⟨s0, s1, s2, s3, s4, s5⟩
                           go_simp
                           with_reducible rfl
                          rotate_left
                          ·simp only [Act.put, List.setIfInBounds_toArray, List.set_cons_zero, List.set_cons_succ, i64_w, i32_w]
                           rfl
                          refine pure_ (i := 5) (N := some 53) (v := ?_) (a' := ?_) #[true, true, true, true, true, true, false, false, true, true, true, true, true, false, false, false, false, false] rfl rfl (any_of HT_.out (by kernel_rfl)) (fun _ _ _ h => h) (Or.inl ⟨by rfl, ?_⟩) ?_ ?_
                          rotate_left
                          ·intro w'
                           go_simp
                           with_reducible rfl
                          rotate_left
                          ·simp only [Act.put, List.setIfInBounds_toArray, List.set_cons_zero, List.set_cons_succ, i64_w, i32_w]
                           rfl
                          refine take_ (i := 6) (N := some 54) (v := ?_) (a' := ?_) #[true, true, true, true, true, true, true, false, true, true, true, true, true, false, false, false, false, false] rfl rfl (take_ofW HT_.out HW_.out (by kernel_rfl)) (fun _ _ _ h => h) (Or.inl ⟨by rfl, ?_⟩) hHeld ?_ ?_
                          rotate_left
                          ·rintro w' ⟨s0, s1, s2, s3, s4, s5⟩
                           go_simp
                           with_reducible rfl
                          rotate_left
                          ·simp only [Act.put, List.setIfInBounds_toArray, List.set_cons_zero, List.set_cons_succ, i64_w, i32_w]
                           rfl
                          refine take_ (i := 7) (N := some 55) (v := ?_) (a' := ?_) #[true, true, true, true, true, true, true, true, true, true, true, true, true, false, false, false, false, false] rfl rfl (take_ofW HT_.out HW_.out (by kernel_rfl)) (fun _ _ _ h => h) (Or.inl ⟨by rfl, ?_⟩) hHeld ?_ ?_
                          rotate_left
                          ·rintro w' ⟨s0, s1, s2, s3, s4, s5⟩
                           go_simp
                           with_reducible rfl
                          rotate_left
                          ·simp only [Act.put, List.setIfInBounds_toArray, List.set_cons_zero, List.set_cons_succ, i64_w, i32_w]
                           rfl
                          refine one_ (i := 13) (N := some 61) #[true, true, true, true, true, true, true, true, true, true, true, true, true, true, false, false, false, false] rfl rfl (one_of HT_.out (by kernel_rfl)) (by decide) (fun K hK => ?_)
                          refine goes_ Try.func43 (by kernel_rfl) rfl #[.agg #[.int .i64 ((rd_T85 t225 x44_4).f0), .int .i64 ((rd_T85 t225 x44_4).f1), .int .i64 ((rd_T85 t225 x44_4).f2), .int .i64 ((rd_T85 t225 x44_4).f3)], .slice A1 l1.length c1, .int .i64 (wrap64 (-x38_3)), .int .i64 (wrap64 (-x29_2))] (by rfl) rfl rfl (by (try simp only [List.map_toArray, List.map_cons, List.map_nil]); first | done | rfl | (simp only [List.length_drop, List.length_take]; rfl)) ?_
                          with_reducible refine (sky_baseline_see.calls k4 ((rd_T85 t225 x44_4).f0) ((rd_T85 t225 x44_4).f1) ((rd_T85 t225 x44_4).f2) ((rd_T85 t225 x44_4).f3) _ _ l1 (wrap64 (-x38_3)) (wrap64 (-x29_2)) t232 t233 _ ?side1 ?side2 A35.out).mono ?_
                          (case side1 => repeat (first | exact (Kd.C_below HR1.out HB.out) | (with_reducible refine Kd.C_alloc ?_ _) | (with_reducible refine Kd.C_drewN ?_ _) | (with_reducible refine Kd.C_drew ?_)))
                          (case side2 => exact HC1.out)
                          rintro e w41 ⟨rfl, hb⟩
                          have HS4_ := (hb.cell (World.block_lt_of_cell? _ _ (hHeld.2.2.2.2.1))).trans (hHeld.2.2.2.2.1)
                          have HS5_ := (hb.cell (World.block_lt_of_cell? _ _ (hHeld.2.2.2.2.2))).trans (hHeld.2.2.2.2.2)
                          refine ⟨_, rfl, ?_⟩
                          have n0_ := Aside0.mk (Kd.S_below (by (with_reducible repeat (first | apply Kd.S_alloc | apply Kd.S_drewN | apply Kd.S_drew)); exact HO_9.out) hb)
                          have n1_ := Aside0.mk (Kd.R_below (by (with_reducible repeat (first | apply Kd.R_alloc | apply Kd.R_drewN | apply Kd.R_drew)); exact HO_42.out) hb)
                          have n2_ := Aside0.mk (Kd.R_below (by (with_reducible repeat (first | apply Kd.R_alloc | apply Kd.R_drewN | apply Kd.R_drew)); exact HL230_0.out) hb)
                          have n3_ := Aside0.mk (blk_below (g := gb229) (o := .cells #[.int .i64 ((rd_T85 t225 x44_4).f0), .int .i64 ((rd_T85 t225 x44_4).f1), .int .i64 ((rd_T85 t225 x44_4).f2), .int .i64 ((rd_T85 t225 x44_4).f3)] 85 (0, 0)) (by (with_reducible repeat (first | refine blk_drewN ?_ _ | refine blk_drew ?_ | refine blk_alloc ?_ _)); exact BK229.out) hb)
                          have n4_ := Aside0.mk (Kd.C_below (by repeat (first | (with_reducible exact HR230_0.out) | (with_reducible refine Kd.C_alloc ?_ _) | (with_reducible refine Kd.C_drewN ?_ _) | (with_reducible refine Kd.C_drew ?_) | exact HR230_0.out)) hb)
                          have n5_ := Aside0.mk (pw_cell_below hb HX230_0.out)
                          have n6_ := Aside0.mk (below_step (by repeat (first | (with_reducible first | exact HB.out | apply below_alloc | apply pw_below_drewN | apply below_drew1 | refine below_set ?_ GE229.out) | exact HB.out)) hb)
                          clear HO_9
                          clear HO_42
                          clear HL230_0
                          clear BK229
                          clear HR230_0
                          clear HX230_0
                          clear HB
                          have HO_9 := n0_
                          have HO_42 := n1_
                          have HL230_0 := n2_
                          have BK229 := n3_
                          have HR230_0 := n4_
                          have HX230_0 := n5_
                          have HB := n6_
                          clear n0_ n1_ n2_ n3_ n4_ n5_ n6_
                          (try clear hb)
                          (try clear hb2)
                          (try clear hk)
                          (try clear hi)
                          have p36 : 0 ≤ (x38_3 : Int) := of_decide_eq_true (by first | (with_reducible assumption) | assumption)
                          have q36 : (x38_3 : Int) < (((rd_L6 x9_4 x29_2).length : Int) : Int) := of_decide_eq_true (by first | (with_reducible assumption) | assumption)
                          obtain ⟨go36, co36, eo36, gb36, gl36, cl36, HG36⟩ := Kd.R_form HL230_0.out (by omega)
                          (first | cases eo36 | (injection eo36 with ea_ en_ ec_; (first | subst ea_ | (injection ea_ with ea_; subst ea_)); subst ec_; clear en_))
                          have GB36 := Aside0.mk gb36
                          have GG36 := Aside0.mk HG36
                          clear gb36 gl36 HG36
                          (first | simp only [add_plain] at hx231_0 | skip)
                          obtain ⟨hx36_0, hf36_0⟩ := Kd.R_celln 0 HL230_0.out (x38_3 : Int) p36 q36
                          replace p36 := eq_true p36
                          replace q36 := eq_true q36
                          have hq42 : (x29_2 : Int) < (x9_4.length : Int) := (by have h_ : (x29_2 : Int) < ((x9_4.length : Int) : Int) := of_decide_eq_true (by first | (with_reducible assumption) | assumption); first | exact h_ | (have e_ := (Kd.S_reads' HO_9.out).1; omega) | simpa only [List.length_set, List.length_set] using h_)
                          obtain ⟨oki42, ce42, hcl42, hM42, hcc42, hok42, hbk42⟩ := Kd.S_borrow HO_9.out [] (x29_2 : Int) (of_decide_eq_true (by first | (with_reducible assumption) | assumption)) hq42
                          obtain ⟨ve42_0, rfl, ge42_0⟩ := hM42
                          have hv42 := hcc42 0 _ rfl
                          rw [Nat.add_zero, show ((Kd.slice 3 (Kd.int .i64))).sz = 1 from rfl, Nat.mul_one] at hv42
                          replace hv42 := Option.some.inj (hv42.symm.trans HX230_0.out)
                          subst hv42
                          clear hcc42 hcl42
                          replace ge42_0 := (show Kd.R (Kd.int .i64) 3 _ _ _ _ (rd_L6 x9_4 x29_2) from ge42_0)
                          have HP42 := Kd.R_putg ge42_0 (x38_3 : Int) (wrap64 ((rd (rd_L6 x9_4 x29_2) x38_3) + t232))
                          rw [← Ny234.out] at HP42
                          have HS42 := hbk42 HP42.2 (fun k_ e_ => by injection e_ with e_; subst e_; exact ge42_0.1 _ rfl) (x' := y234) (Kd.M_row HP42.1)
                          rw [← Ny236.out] at HS42
                          have HQ42 := Aside0.mk HS42
                          clear HP42 HS42 hbk42 hok42
                          refine hK.out _ _ ⟨(blk_cell BK229.out 0).trans rfl, (blk_cell BK229.out 1).trans rfl, (blk_cell BK229.out 2).trans rfl, (blk_cell BK229.out 3).trans rfl, HS4_, HS5_⟩ (fun hHeld => ?_)
                          clear hK K
                          refine norm_ (a' := ?_) ?_ ?_
                          rotate_left
                          ·show Act.put _ (some 61) _ = _
                           simp only [Act.put, List.setIfInBounds_toArray, List.set_cons_zero, List.set_cons_succ, i64_w, i32_w]
                           rfl
                          refine pure_ (i := 14) (N := some 62) (v := ?_) (a' := ?_) #[true, true, true, true, true, true, true, true, true, true, true, true, true, true, true, false, false, false] rfl rfl (any_of HT_.out (by kernel_rfl)) (fun _ _ _ h => h) (Or.inl ⟨by rfl, ?_⟩) ?_ ?_
                          rotate_left
                          ·intro w'
                           go_simp
                           with_reducible rfl
                          rotate_left
                          ·simp only [Act.put, List.setIfInBounds_toArray, List.set_cons_zero, List.set_cons_succ, i64_w, i32_w]
                           rfl
                          refine pure_ (i := 15) (N := some 63) (v := ?_) (a' := ?_) #[true, true, true, true, true, true, true, true, true, true, true, true, true, true, true, true, false, false] rfl rfl (any_of HT_.out (by kernel_rfl)) (fun _ _ _ h => h) (Or.inl ⟨by rfl, ?_⟩) ?_ ?_
                          rotate_left
                          ·intro w'
                           go_simp
                           with_reducible rfl
                          rotate_left
                          ·simp only [Act.put, List.setIfInBounds_toArray, List.set_cons_zero, List.set_cons_succ, i64_w, i32_w]
                           rfl
                          refine pure_ (i := 16) (N := some 64) (v := ?_) (a' := ?_) #[true, true, true, true, true, true, true, true, true, true, true, true, true, true, true, true, true, false] rfl rfl (any_of HT_.out (by kernel_rfl)) (fun _ _ _ h => h) (Or.inl ⟨by rfl, ?_⟩) ?_ ?_
                          rotate_left
                          ·intro w'
                           go_simp
                           with_reducible rfl
                          rotate_left
                          ·simp only [Act.put, List.setIfInBounds_toArray, List.set_cons_zero, List.set_cons_succ, i64_w, i32_w]
                           rfl
                          refine last_ (i := 17) (N := none) #[true, true, true, true, true, true, true, true, true, true, true, true, true, true, true, true, true, true] rfl rfl (one_of HT_.out (by kernel_rfl)) (by decide) (fun K hK => ?_)
                          refine skip_ (w1 := ?_) (by rfl) rfl ?_ ?_
                          rotate_left
                          ·go_simp
                           rfl
                          refine hK.out _ _ ?_
                          clear hK K
                          refine done_ (done_of HT_.out (by kernel_rfl)) ?_
                          try go_wp2
                          (try simp only [← hl9_4])
                          go_roundg k4
                          case measure => have := HJ5.out; have := HK2.out; have := HK3.out; have := HK4.out; omega
                          case rel => exact ⟨(y236), (wrap64 (x44_4 + 1)), (by first | rfl | (simp; done) | (simp [*]; done)), H', ⟨by have := HJ5.out; have := HK2.out; have := HK3.out; have := HK4.out; omega⟩, ⟨by (try simp only [hl9_3]); (try simp only [hl9_4]); (with_reducible repeat (first | apply Kd.S_alloc | apply Kd.S_drewN | apply Kd.S_drew)); exact HQ42.out⟩, ⟨by (try simp only [hl9_3]); (try simp only [hl9_4]); (with_reducible repeat (first | apply Kd.R_alloc | apply Kd.R_drewN | apply Kd.R_drew)); exact Kd.R_mono (Kd.R_far (p := ⟨go36, (x38_3 : Int).toNat, none⟩) (Kd.R_types HO_42.out GG36.out (by decide)) (fun _ hk => hk.2) (.int .i64 (wrap64 ((rd (rd_L6 x9_4 x29_2) x38_3) + t232)))) (fun _ hk => trivial)⟩, ⟨by repeat (first | (with_reducible first | exact HB.out | apply below_alloc | apply pw_below_drewN | apply below_drew1 | refine below_set ?_ GB36.out | refine below_set ?_ GE229.out) | exact HB.out)⟩⟩
                         ·rw [if_neg c34] at H
                          exact absurd H (by simp)
                        ·rw [if_neg c33] at H
                         exact absurd H (by simp)
                       ·rw [if_neg c32] at H
                        exact absurd H (by simp)
                      ·rw [if_neg c31] at H
                       exact absurd H (by simp)
                     ·rw [if_neg c30] at H
                      exact absurd H (by simp)
                    ·rw [if_neg c29] at H
                     exact absurd H (by simp)
                   ·rw [if_neg c28] at H
                    have c28b0 : decide (x44_4 < (t225.length : Int)) = false := decide_eq_false c28
                    (try simp only [hl9_3] at c28b0)
                    (try simp only [hl9_4] at c28b0)
                    clear c28
                    have H' := Aside0.mk H
                    clear H
                    go_wp2
                    (try simp only [← hl9_3, ← hl9_4])
                    go_roundg k4
                    case measure => have := HJ5.out; have := HK2.out; have := HK3.out; have := HK4.out; omega
                    case rel => exact ⟨(x9_4), (wrap64 (x38_3 + 1)), (by first | rfl | (simp; done) | (simp [*]; done)), H', ⟨by have := HJ5.out; have := HK2.out; have := HK3.out; have := HK4.out; omega⟩, ⟨by (try simp only [hl9_3]); (try simp only [hl9_4]); (with_reducible repeat (first | apply Kd.S_alloc | apply Kd.S_drewN | apply Kd.S_drew)); exact HO_9.out⟩, ⟨by repeat (first | (with_reducible first | exact HB.out | apply below_alloc | apply pw_below_drewN | apply below_drew1) | exact HB.out)⟩⟩
                ·rw [if_neg c24] at H
                 have c24b0 : decide (x38_3 < a2) = false := decide_eq_false c24
                 (try simp only [hl9_3] at c24b0)
                 clear c24
                 have H' := Aside0.mk H
                 clear H
                 go_wp2
                 (try simp only [← hl9_3])
                 go_roundg k3
                 case measure => have := HJ5.out; have := HK2.out; have := HK3.out; omega
                 case rel => exact ⟨(x9_3), (wrap64 (x29_2 + 1)), (by first | rfl | (simp; done) | (simp [*]; done)), H', ⟨by have := HJ5.out; have := HK2.out; have := HK3.out; omega⟩, ⟨by (try simp only [hl9_3]); (with_reducible repeat (first | apply Kd.S_alloc | apply Kd.S_drewN | apply Kd.S_drew)); exact HO_9.out⟩, ⟨by repeat (first | (with_reducible first | exact HB.out | apply below_alloc | apply pw_below_drewN | apply below_drew1) | exact HB.out)⟩⟩
             ·rw [if_neg c18] at H
              exact absurd H (by simp)
            ·rw [if_neg c17] at H
             exact absurd H (by simp)
           ·rw [if_neg c16] at H
            exact absurd H (by simp)
          ·rw [if_neg c15] at H
           exact absurd H (by simp)
         ·rw [if_neg c14] at H
          have c14b0 : decide (x29_2 < a2) = false := decide_eq_false c14
          clear c14
          simp only [Option.some.injEq, Prod.mk.injEq] at H
          obtain ⟨rfl, rfl⟩ := H
          go_wp2
          go_ret2
          exact ⟨_, by first | rfl | (simp [errW_none, errW_some] <;> rfl) | (simp [*, errW_none, errW_some] <;> rfl), by (with_reducible repeat (first | apply Kd.S_alloc | apply Kd.S_drewN | apply Kd.S_drew)); exact HO_9.out, by repeat (first | (with_reducible first | exact HB.out | apply below_alloc | apply pw_below_drewN | apply below_drew1) | exact HB.out)⟩
      ·rw [if_neg c11] at H
       exact absurd H (by simp)
     ·rw [if_neg c10] at H
      exact absurd H (by simp)
 ·rw [if_neg c5] at H
  have c5b0 : (t217 == 0) = false := beq_eq_false_iff_ne.mpr c5
  have c5b1 : (t217 != 0) = true := bne_iff_ne.mpr c5
  simp only [Option.some.injEq, Prod.mk.injEq] at H
  obtain ⟨rfl, rfl⟩ := H
  go_enter Try.func21, Try.ntmps21
  go_wp2_with (first | ((with_reducible refine gate_callee (f := 40) rfl ?_); refine goesL_ (some 16) rfl rfl Try.func40 (by kernel_rfl) rfl #[.slice A0 l0.length c0, .slice A1 l1.length c1] rfl (by (try simp only [List.map_toArray, List.map_cons, List.map_nil]); first | done | rfl | (simp only [List.length_drop, List.length_take]; rfl)) ?_; (with_reducible refine (sky_both.calls k _ _ l0 _ _ l1 t217 _ ?side1 ?side2 ?side3 ?side4 A4.out).mono ?_); (case side1 => repeat (first | exact HR0.out | (with_reducible refine Kd.C_alloc ?_ _) | (with_reducible refine Kd.C_drewN ?_ _) | (with_reducible refine Kd.C_drew ?_))); (case side2 => exact HC0.out); (case side3 => repeat (first | exact HR1.out | (with_reducible refine Kd.C_alloc ?_ _) | (with_reducible refine Kd.C_drewN ?_ _) | (with_reducible refine Kd.C_drew ?_))); (case side4 => exact HC1.out); rintro e w44 ⟨rfl, hb⟩; refine ⟨_, rfl, ?_⟩; have n0_ := Aside0.mk (below_step (by repeat (first | (with_reducible first | exact HB.out | apply below_alloc | apply pw_below_drewN | apply below_drew1) | exact HB.out)) hb); clear HB; have HB := n0_; clear n0_; (try clear hb); (try clear hb2); (try clear hk); (try clear hi)))
  go_ret2
  exact ⟨_, by first | rfl | (simp [errW_none, errW_some] <;> rfl) | (simp [*, errW_none, errW_some] <;> rfl), by first | exact Kd.S_nil _ _ _ _ _ | exact Kd.N_nil _ _ _ _ _ | exact Kd.V_nil _ _ _ _ _ | exact Kd.Q_nil _ _ _ _ _ | exact Kd.R_nil _ _ _ _ _, by repeat (first | (with_reducible first | exact HB.out | apply below_alloc | apply pw_below_drewN | apply below_drew1) | exact HB.out)⟩

end Go.Proofs.Ytihmhcdcbcleeaa.Q
