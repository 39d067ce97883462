-- Written by qprint.py (a program of this session) over the program of the kit that prints contracts. Not trusted: Lean checks it.
import Derived.Test.YthablamjbikllaaQ0
namespace Go.Proofs.Ythablamjbikllaa.Q
open Go.RowKit Go.Proofs.YthablamjbikllaaW.PrintWords Go.Proofs.YthablamjbikllaaW.PrintLast Go.Proofs.YthablamjbikllaaW.PrintMore
attribute [local go_sem] max2_int min2_int max_two min_two max_three min_three max_four min_four   -- for this text's walks alone
set_option linter.unusedVariables false
set_option linter.unusedSimpArgs false

/-! ### fringeref45_Mul: function 12 -/
def fringeref45_Mul.l0 : Nat → Int → Int → Int → Int → Option (Int)
 | 0, _, _, _, _ => none
 | k + 1, x0, x1, x5, x6 => if x6 ≥ 0 then (if (wrap64 (x5 * 2)) ≥ 256 then (if 0 ≤ x6 then (if (Go.bits .and .u8 (shr .u8 x1 x6) 1) = 1 then (fringeref45_Mul.l0 k x0 x1 (Go.bits .xor .i64 (Go.bits .xor .i64 (wrap64 (x5 * 2)) 285) (wrap64 (x0))) (wrap64 (x6 - 1))) else (fringeref45_Mul.l0 k x0 x1 (Go.bits .xor .i64 (wrap64 (x5 * 2)) 285) (wrap64 (x6 - 1)))) else (none)) else (if 0 ≤ x6 then (if (Go.bits .and .u8 (shr .u8 x1 x6) 1) = 1 then (fringeref45_Mul.l0 k x0 x1 (Go.bits .xor .i64 (wrap64 (x5 * 2)) (wrap64 (x0))) (wrap64 (x6 - 1))) else (fringeref45_Mul.l0 k x0 x1 (wrap64 (x5 * 2)) (wrap64 (x6 - 1)))) else (none))) else (some ((x5) % 256))
def fringeref45_Mul.f (k : Nat) (a0 : Int) (a1 : Int) : Option (Int) := fringeref45_Mul.l0 k a0 a1 0 7
theorem fringeref45_Mul.mono_l : ∀ k, (∀ y0 y1 y2 y3, LeO (fringeref45_Mul.l0 k y0 y1 y2 y3) (fringeref45_Mul.l0 (k + 1) y0 y1 y2 y3))
 | 0 => fun _ _ _ _ r h => by simp [fringeref45_Mul.l0] at h
 | k + 1 => by
  have ih0 := fringeref45_Mul.mono_l k
  ·intro y0 y1 y2 y3
   unfold fringeref45_Mul.l0
   repeat' first
   | (with_reducible exact ih0 _ _ _ _)
   | (with_reducible exact LeO.refl _)
   | (with_reducible exact LeO.none _)
   | (with_reducible refine LeO.ite ?_ ?_)
   | (with_reducible refine LeO.bind ?_ (fun _ => ?_))
   | exact ih0 _ _ _ _
   | exact LeO.none _
   | refine LeO.ite ?_ ?_
   | refine LeO.bind ?_ (fun _ => ?_)
theorem fringeref45_Mul.mono : ∀ a0 a1 k, LeO (fringeref45_Mul.f k a0 a1) (fringeref45_Mul.f (k + 1) a0 a1) := by
 intro a0 a1 k
 have ih0 := fringeref45_Mul.mono_l k
 unfold fringeref45_Mul.f
 repeat' first
   | (with_reducible exact ih0 _ _ _ _)
   | (with_reducible exact LeO.refl _)
   | (with_reducible exact LeO.none _)
   | (with_reducible refine LeO.ite ?_ ?_)
   | (with_reducible refine LeO.bind ?_ (fun _ => ?_))
   | exact ih0 _ _ _ _
   | exact LeO.none _
   | refine LeO.ite ?_ ?_
   | refine LeO.bind ?_ (fun _ => ?_)
set_option maxHeartbeats 8000000 in
set_option maxRecDepth 100000 in
theorem fringeref45_Mul.calls (k : Nat) (a0 : Int) (a1 : Int) (r : Int) (w : World) (h : fringeref45_Mul.f k a0 a1 = some r) :
  Calls Try.prog 12 #[.int .u8 a0, .int .u8 a1] w fun e w' => e = .returned (.int .u8 r) ∧ Drawn0 w w' := by
 have H : (fringeref45_Mul.l0 k a0 a1 0 7) = some r := h
 clear h
 have H' := Aside0.mk H
 clear H
 go_enter Try.func12, Try.ntmps12
 go_wp2
 go_loopg [5, 6] k (fun kq v5 v6 w' => ∃ (x5_1 : Int) (x6_1 : Int), v5 = .int .i64 x5_1 ∧ v6 = .int .i64 x6_1 ∧ Aside0 (fringeref45_Mul.l0 kq a0 a1 x5_1 x6_1 = some r) ∧ Aside0 (kq ≤ k) ∧ Drawn0 w w')
 case atStart => exact ⟨(0), (7), (by first | rfl | (simp; done) | (simp [*]; done)), (by first | rfl | (simp; done) | (simp [*]; done)), H', ⟨Nat.le_refl _⟩, by repeat (first | exact Drawn0.refl _ | apply Drawn0.step)⟩
 case round =>
  clear H'
  try clear c1
  try clear p2
  obtain ⟨x5_1, x6_1, rfl, rfl, HA, HK1, ⟨m1, rfl⟩⟩ := hrel
  cases gk with
  | zero => exact absurd HA.out (by simp [fringeref45_Mul.l0])
  | succ k1 =>
   have H := HA.out
   clear HA
   simp only [fringeref45_Mul.l0] at H
   by_cases c3 : x6_1 ≥ 0
   ·rw [if_pos c3] at H
    have c3b0 : decide (0 ≤ x6_1) = true := decide_eq_true c3
    clear c3
    by_cases c4 : (wrap64 (x5_1 * 2)) ≥ 256
    ·rw [if_pos c4] at H
     have c4b0 : decide (256 ≤ (wrap64 (x5_1 * 2))) = true := decide_eq_true c4
     clear c4
     by_cases c5 : 0 ≤ x6_1
     ·rw [if_pos c5] at H
      have c5b0 := eq_true c5
      have c5b1 : decide (0 ≤ x6_1) = true := decide_eq_true c5
      clear c5
      obtain ⟨ji6, hji6⟩ : ∃ j_ : Int, (shr .u8 a1 x6_1) = j_ := ⟨_, rfl⟩
      replace H : (if (Go.bits .and .u8 (ji6) 1) = 1 then (fringeref45_Mul.l0 k1 a0 a1 (Go.bits .xor .i64 (Go.bits .xor .i64 (wrap64 (x5_1 * 2)) 285) (wrap64 (a0))) (wrap64 (x6_1 - 1))) else (fringeref45_Mul.l0 k1 a0 a1 (Go.bits .xor .i64 (wrap64 (x5_1 * 2)) 285) (wrap64 (x6_1 - 1)))) = some r := by first | (rw [hji6] at H; exact H) | (simp only [hji6] at H ⊢; exact H)
      have hji6_ : (a1 / 2 ^ min x6_1.toNat 8) = ji6 := hji6
      have hji6z : x6_1 ≤ 8 → (a1 / 2 ^ x6_1.toNat) = ji6 := shr_small hji6
      by_cases c7 : (Go.bits .and .u8 (ji6) 1) = 1
      ·rw [if_pos c7] at H
       have c7b0 : ((Go.bits .and .u8 (ji6) 1) == 1) = true := beq_iff_eq.mpr c7
       have c7b1 : ((Go.bits .and .u8 (ji6) 1) != 1) = false := bne_eq_false_iff_eq.mpr c7
       clear c7
       have H' := Aside0.mk H
       clear H
       go_wp2
       go_roundg k1
       case measure => have := HK1.out; omega
       case rel => exact ⟨(Go.bits .xor .i64 (Go.bits .xor .i64 (wrap64 (x5_1 * 2)) 285) (wrap64 (a0))), (wrap64 (x6_1 - 1)), (by first | rfl | (simp; done) | (simp [*]; done)), (by first | rfl | (simp; done) | (simp [*]; done)), H', ⟨by have := HK1.out; omega⟩, by repeat (first | exact Drawn0.refl _ | apply Drawn0.step)⟩
      ·rw [if_neg c7] at H
       have c7b0 : ((Go.bits .and .u8 (ji6) 1) == 1) = false := beq_eq_false_iff_ne.mpr c7
       have c7b1 : ((Go.bits .and .u8 (ji6) 1) != 1) = true := bne_iff_ne.mpr c7
       have H' := Aside0.mk H
       clear H
       go_wp2
       go_roundg k1
       case measure => have := HK1.out; omega
       case rel => exact ⟨(Go.bits .xor .i64 (wrap64 (x5_1 * 2)) 285), (wrap64 (x6_1 - 1)), (by first | rfl | (simp; done) | (simp [*]; done)), (by first | rfl | (simp; done) | (simp [*]; done)), H', ⟨by have := HK1.out; omega⟩, by repeat (first | exact Drawn0.refl _ | apply Drawn0.step)⟩
     ·rw [if_neg c5] at H
      exact absurd H (by simp)
    ·rw [if_neg c4] at H
     have c4b0 : decide (256 ≤ (wrap64 (x5_1 * 2))) = false := decide_eq_false c4
     clear c4
     by_cases c8 : 0 ≤ x6_1
     ·rw [if_pos c8] at H
      have c8b0 := eq_true c8
      have c8b1 : decide (0 ≤ x6_1) = true := decide_eq_true c8
      clear c8
      obtain ⟨ji9, hji9⟩ : ∃ j_ : Int, (shr .u8 a1 x6_1) = j_ := ⟨_, rfl⟩
      replace H : (if (Go.bits .and .u8 (ji9) 1) = 1 then (fringeref45_Mul.l0 k1 a0 a1 (Go.bits .xor .i64 (wrap64 (x5_1 * 2)) (wrap64 (a0))) (wrap64 (x6_1 - 1))) else (fringeref45_Mul.l0 k1 a0 a1 (wrap64 (x5_1 * 2)) (wrap64 (x6_1 - 1)))) = some r := by first | (rw [hji9] at H; exact H) | (simp only [hji9] at H ⊢; exact H)
      have hji9_ : (a1 / 2 ^ min x6_1.toNat 8) = ji9 := hji9
      have hji9z : x6_1 ≤ 8 → (a1 / 2 ^ x6_1.toNat) = ji9 := shr_small hji9
      by_cases c10 : (Go.bits .and .u8 (ji9) 1) = 1
      ·rw [if_pos c10] at H
       have c10b0 : ((Go.bits .and .u8 (ji9) 1) == 1) = true := beq_iff_eq.mpr c10
       have c10b1 : ((Go.bits .and .u8 (ji9) 1) != 1) = false := bne_eq_false_iff_eq.mpr c10
       clear c10
       have H' := Aside0.mk H
       clear H
       go_wp2
       go_roundg k1
       case measure => have := HK1.out; omega
       case rel => exact ⟨(Go.bits .xor .i64 (wrap64 (x5_1 * 2)) (wrap64 (a0))), (wrap64 (x6_1 - 1)), (by first | rfl | (simp; done) | (simp [*]; done)), (by first | rfl | (simp; done) | (simp [*]; done)), H', ⟨by have := HK1.out; omega⟩, by repeat (first | exact Drawn0.refl _ | apply Drawn0.step)⟩
      ·rw [if_neg c10] at H
       have c10b0 : ((Go.bits .and .u8 (ji9) 1) == 1) = false := beq_eq_false_iff_ne.mpr c10
       have c10b1 : ((Go.bits .and .u8 (ji9) 1) != 1) = true := bne_iff_ne.mpr c10
       have H' := Aside0.mk H
       clear H
       go_wp2
       go_roundg k1
       case measure => have := HK1.out; omega
       case rel => exact ⟨(wrap64 (x5_1 * 2)), (wrap64 (x6_1 - 1)), (by first | rfl | (simp; done) | (simp [*]; done)), (by first | rfl | (simp; done) | (simp [*]; done)), H', ⟨by have := HK1.out; omega⟩, by repeat (first | exact Drawn0.refl _ | apply Drawn0.step)⟩
     ·rw [if_neg c8] at H
      exact absurd H (by simp)
   ·rw [if_neg c3] at H
    have c3b0 : decide (0 ≤ x6_1) = false := decide_eq_false c3
    clear c3
    obtain rfl := Option.some.inj H
    go_wp2
    go_ret
    exact ⟨by first | rfl | (simp; done) | (simp [*]; done), by repeat (first | exact Drawn0.refl _ | apply Drawn0.step)⟩

/-! ### fringeref45_inverse: function 32 -/
def fringeref45_inverse.l0 : Nat → Int → Int → Option (Int)
 | 0, _, _ => none
 | k + 1, x0, x3 => (fringeref45_Mul.f k x0 x3).bind fun t101 => (if t101 = 1 then (some x3) else (fringeref45_inverse.l0 k x0 ((x3 + 1) % 256)))
def fringeref45_inverse.f (k : Nat) (a0 : Int) : Option (Int) := fringeref45_inverse.l0 k a0 1
theorem fringeref45_inverse.mono_l : ∀ k, (∀ y0 y1, LeO (fringeref45_inverse.l0 k y0 y1) (fringeref45_inverse.l0 (k + 1) y0 y1))
 | 0 => fun _ _ r h => by simp [fringeref45_inverse.l0] at h
 | k + 1 => by
  have ih0 := fringeref45_inverse.mono_l k
  ·intro y0 y1
   unfold fringeref45_inverse.l0
   repeat' first
   | (with_reducible exact ih0 _ _)
   | (with_reducible exact fringeref45_Mul.mono _ _ _)
   | (with_reducible exact LeO.refl _)
   | (with_reducible exact LeO.none _)
   | (with_reducible refine LeO.ite ?_ ?_)
   | (with_reducible refine LeO.bind ?_ (fun _ => ?_))
   | exact ih0 _ _
   | exact fringeref45_Mul.mono _ _ _
   | exact LeO.none _
   | refine LeO.ite ?_ ?_
   | refine LeO.bind ?_ (fun _ => ?_)
theorem fringeref45_inverse.mono : ∀ a0 k, LeO (fringeref45_inverse.f k a0) (fringeref45_inverse.f (k + 1) a0) := by
 intro a0 k
 have ih0 := fringeref45_inverse.mono_l k
 unfold fringeref45_inverse.f
 repeat' first
   | (with_reducible exact ih0 _ _)
   | (with_reducible exact fringeref45_Mul.mono _ _ _)
   | (with_reducible exact LeO.refl _)
   | (with_reducible exact LeO.none _)
   | (with_reducible refine LeO.ite ?_ ?_)
   | (with_reducible refine LeO.bind ?_ (fun _ => ?_))
   | exact ih0 _ _
   | exact fringeref45_Mul.mono _ _ _
   | exact LeO.none _
   | refine LeO.ite ?_ ?_
   | refine LeO.bind ?_ (fun _ => ?_)
set_option maxHeartbeats 8000000 in
set_option maxRecDepth 100000 in
theorem fringeref45_inverse.calls (k : Nat) (a0 : Int) (r : Int) (w : World) (h : fringeref45_inverse.f k a0 = some r) :
  Calls Try.prog 32 #[.int .u8 a0] w fun e w' => e = .returned (.int .u8 r) ∧ Drawn0 w w' := by
 have H : (fringeref45_inverse.l0 k a0 1) = some r := h
 clear h
 have H' := Aside0.mk H
 clear H
 go_enter Try.func32, Try.ntmps32
 go_wp2
 go_loopg [3] k (fun kq v3 w' => ∃ (x3_1 : Int), v3 = .int .u8 x3_1 ∧ Aside0 (fringeref45_inverse.l0 kq a0 x3_1 = some r) ∧ Aside0 (kq ≤ k) ∧ Drawn0 w w')
 case atStart => exact ⟨(1), (by first | rfl | (simp; done) | (simp [*]; done)), H', ⟨Nat.le_refl _⟩, by repeat (first | exact Drawn0.refl _ | apply Drawn0.step)⟩
 case round =>
  clear H'
  obtain ⟨x3_1, rfl, HA, HK1, ⟨m1, rfl⟩⟩ := hrel
  cases gk with
  | zero => exact absurd HA.out (by simp [fringeref45_inverse.l0])
  | succ k1 =>
   have H := HA.out
   clear HA
   simp only [fringeref45_inverse.l0] at H
   replace H := Option.bind_eq_some_iff.mp H
   obtain ⟨t101, A20, H⟩ := H
   replace H : (if t101 = 1 then (some x3_1) else (fringeref45_inverse.l0 k1 a0 ((x3_1 + 1) % 256))) = some r := H
   have A2 := Aside0.mk A20
   clear A20
   by_cases c3 : t101 = 1
   ·rw [if_pos c3] at H
    have c3b0 : (t101 == 1) = true := beq_iff_eq.mpr c3
    have c3b1 : (t101 != 1) = false := bne_eq_false_iff_eq.mpr c3
    clear c3
    obtain rfl := Option.some.inj H
    go_wp2_with (first | ((with_reducible refine gate_callee (f := 12) rfl ?_); refine goesL_ (some 6) rfl rfl Try.func12 (by kernel_rfl) rfl #[.int .u8 a0, .int .u8 x3_1] rfl (by (try simp only [List.map_toArray, List.map_cons, List.map_nil]); first | done | rfl | (simp only [List.length_drop, List.length_take]; rfl)) ?_; (with_reducible refine (fringeref45_Mul.calls k1 a0 x3_1 t101 _ A2.out).mono ?_); rintro e w' ⟨rfl, ⟨nd, rfl⟩⟩; refine ⟨_, rfl, ?_⟩))
    go_ret
    exact ⟨by first | rfl | (simp; done) | (simp [*]; done), by repeat (first | exact Drawn0.refl _ | apply Drawn0.step)⟩
   ·rw [if_neg c3] at H
    have c3b0 : (t101 == 1) = false := beq_eq_false_iff_ne.mpr c3
    have c3b1 : (t101 != 1) = true := bne_iff_ne.mpr c3
    have H' := Aside0.mk H
    clear H
    go_wp2_with (first | ((with_reducible refine gate_callee (f := 12) rfl ?_); refine goesL_ (some 6) rfl rfl Try.func12 (by kernel_rfl) rfl #[.int .u8 a0, .int .u8 x3_1] rfl (by (try simp only [List.map_toArray, List.map_cons, List.map_nil]); first | done | rfl | (simp only [List.length_drop, List.length_take]; rfl)) ?_; (with_reducible refine (fringeref45_Mul.calls k1 a0 x3_1 t101 _ A2.out).mono ?_); rintro e w' ⟨rfl, ⟨nd, rfl⟩⟩; refine ⟨_, rfl, ?_⟩))
    go_roundg k1
    case measure => have := HK1.out; omega
    case rel => exact ⟨((x3_1 + 1) % 256), (by first | rfl | (simp; done) | (simp [*]; done)), H', ⟨by have := HK1.out; omega⟩, by repeat (first | exact Drawn0.refl _ | apply Drawn0.step)⟩

/-! ### fringeref45_Inv: function 10 -/
def fringeref45_Inv.f (k : Nat) (a0 : Int) : Option (Int × Int) := if a0 = 0 then (some (0, 18)) else ((fringeref45_inverse.f k a0).bind fun t102 => (some (t102, 0)))
theorem fringeref45_Inv.mono : ∀ a0 k, LeO (fringeref45_Inv.f k a0) (fringeref45_Inv.f (k + 1) a0) := by
 intro a0 k
 unfold fringeref45_Inv.f
 repeat' first
   | (with_reducible exact fringeref45_inverse.mono _ _)
   | (with_reducible exact LeO.refl _)
   | (with_reducible exact LeO.none _)
   | (with_reducible refine LeO.ite ?_ ?_)
   | (with_reducible refine LeO.bind ?_ (fun _ => ?_))
   | exact fringeref45_inverse.mono _ _
   | exact LeO.none _
   | refine LeO.ite ?_ ?_
   | refine LeO.bind ?_ (fun _ => ?_)
set_option maxHeartbeats 8000000 in
set_option maxRecDepth 100000 in
theorem fringeref45_Inv.calls (k : Nat) (a0 : Int) (r1 : Int) (r2 : Int) (w : World) (h : fringeref45_Inv.f k a0 = some (r1, r2)) :
  Calls Try.prog 10 #[.int .u8 a0] w fun e w' => e = .returned (.tuple #[.int .u8 r1, .int .i64 r2]) ∧ Drawn0 w w' := by
 have H : (if a0 = 0 then (some (0, 18)) else ((fringeref45_inverse.f k a0).bind fun t102 => (some (t102, 0)))) = some (r1, r2) := h
 clear h
 by_cases c2 : a0 = 0
 ·rw [if_pos c2] at H
  have c2b0 : (a0 == 0) = true := beq_iff_eq.mpr c2
  have c2b1 : (a0 != 0) = false := bne_eq_false_iff_eq.mpr c2
  clear c2
  simp only [Option.some.injEq, Prod.mk.injEq] at H
  obtain ⟨rfl, rfl⟩ := H
  go_enter Try.func10, Try.ntmps10
  go_wp2
  go_ret2
  exact ⟨by first | rfl | (simp; done) | (simp [*]; done), by repeat (first | exact Drawn0.refl _ | apply Drawn0.step)⟩
 ·rw [if_neg c2] at H
  have c2b0 : (a0 == 0) = false := beq_eq_false_iff_ne.mpr c2
  have c2b1 : (a0 != 0) = true := bne_iff_ne.mpr c2
  replace H := Option.bind_eq_some_iff.mp H
  obtain ⟨t102, A30, H⟩ := H
  replace H : (some (t102, 0)) = some (r1, r2) := H
  have A3 := Aside0.mk A30
  clear A30
  simp only [Option.some.injEq, Prod.mk.injEq] at H
  obtain ⟨rfl, rfl⟩ := H
  go_enter Try.func10, Try.ntmps10
  go_wp2_with (first | ((with_reducible refine gate_callee (f := 32) rfl ?_); refine goesL_ (some 7) rfl rfl Try.func32 (by kernel_rfl) rfl #[.int .u8 a0] rfl (by (try simp only [List.map_toArray, List.map_cons, List.map_nil]); first | done | rfl | (simp only [List.length_drop, List.length_take]; rfl)) ?_; (with_reducible refine (fringeref45_inverse.calls k a0 t102 _ A3.out).mono ?_); rintro e w' ⟨rfl, ⟨nd, rfl⟩⟩; refine ⟨_, rfl, ?_⟩))
  go_ret2
  exact ⟨by first | rfl | (simp; done) | (simp [*]; done), by repeat (first | exact Drawn0.refl _ | apply Drawn0.step)⟩

end Go.Proofs.Ythablamjbikllaa.Q
