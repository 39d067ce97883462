-- Written by qprint.py (a program of this session) over the program of the kit that prints contracts. Not trusted: Lean checks it.
import Derived.Test.YtihmhcdcbcleeaaQ0
import Derived.Test.YtihmhcdcbcleeaaQ3
import Derived.Test.YtihmhcdcbcleeaaQ13
import Derived.Test.YtihmhcdcbcleeaaQ14
import Derived.Test.YtihmhcdcbcleeaaQ15
namespace Go.Proofs.Ytihmhcdcbcleeaa.Q
open Go.RowKit Go.Proofs.YtihmhcdcbcleeaaW.PrintWords Go.Proofs.YtihmhcdcbcleeaaW.PrintLast Go.Proofs.YtihmhcdcbcleeaaW.PrintMore
attribute [local go_sem] max2_int min2_int max_two min_two max_three min_three max_four min_four   -- for this text's walks alone
set_option linter.unusedVariables false
set_option linter.unusedSimpArgs false

attribute [local go_sem high] eqA47
/-! ### fringelaw41_given: function 31 -/
def fringelaw41_given.f  : Option ((List (S41))) := some (([(⟨0, 0⟩ : S41), (⟨1, 0⟩ : S41), (⟨0, 2⟩ : S41)] : List (S41)))
set_option maxHeartbeats 8000000 in
set_option maxRecDepth 100000 in
theorem fringelaw41_given.calls  (r : List (S41)) (w : World) (h : fringelaw41_given.f  = some r) :
  Calls Try.prog 31 #[] w fun e w' => ∃ v0_ : Value, e = .returned (v0_) ∧ Kd.R k41 41 w' w.heap.size (fun _ => True) v0_ r ∧ Below w.heap.size w w' := by
 have hu41 := Try.underlying41
 have HB := Aside0.mk (Below.refl w.heap.size w)
 have H : (some (([(⟨0, 0⟩ : S41), (⟨1, 0⟩ : S41), (⟨0, 2⟩ : S41)] : List (S41)))) = some r := h
 clear h
 obtain ⟨y244, hy244⟩ : ∃ y_ : List (S41), y_ = (([(⟨0, 0⟩ : S41), (⟨1, 0⟩ : S41), (⟨0, 2⟩ : S41)] : List (S41))) := ⟨_, rfl⟩
 replace H : (some y244) = some r := by first | (rw [hy244]; with_reducible exact H) | (have H2_ := (Option.bind_some _ _).symm.trans H; rw [hy244]; with_reducible exact H2_) | (have H2_ := (Option.bind_some _ _).symm.trans H; with_reducible exact H2_) | with_reducible exact H | (rw [hy244]; exact H) | exact H
 have Ny244 := Aside0.mk hy244
 clear hy244
 obtain rfl := Option.some.inj H
 go_enter Try.func31, Try.ntmps31
 go_wp2_with (first | ((with_reducible refine gate_dst (N := 4) rfl ?_); refine Kd.R_lit k41 _ 41 ?hg (N := 4) ?hd (xs := ([(⟨0, 0⟩ : S41), (⟨1, 0⟩ : S41), (⟨0, 2⟩ : S41)] : List (S41))) (inner := [.int .i64 0, .int .i64 0, .int .i64 1, .int .i64 0, .int .i64 0, .int .i64 2]) (ok := fun _ => True) (okp := fun _ => True) ?hr ?hp (fun _ hk => hk) trivial (Below.refl _ _) (Nat.le_refl _) (by simp) ?_; (case hd => rfl); (case hg => rfl); (case hr => first | (go_simp; done) | (go_simp; rfl)); (case hp => exact (Reps.c2 (show Kd.M k41 _ _ _ (⟨0, 0⟩ : S41) [.int .i64 0, .int .i64 0] from (k41_mkM _ _ _ (⟨0, 0⟩ : S41) )) (Reps.c2 (show Kd.M k41 _ _ _ (⟨1, 0⟩ : S41) [.int .i64 1, .int .i64 0] from (k41_mkM _ _ _ (⟨1, 0⟩ : S41) )) (Reps.c2 (show Kd.M k41 _ _ _ (⟨0, 2⟩ : S41) [.int .i64 0, .int .i64 2] from (k41_mkM _ _ _ (⟨0, 2⟩ : S41) )) (Reps.none _ _))))); intro v245 w1 ho2 hb hg_ hnew_; clear hg_ hnew_; (first | rw [← Ny244.out] at ho2 | (simp only [Int.reduceToNat] at ho2; rw [← Ny244.out] at ho2)); have n0_ := Aside0.mk (Kd.R_lower ho2 (below_size (by repeat (first | (with_reducible first | exact HB.out | apply below_alloc | apply pw_below_drewN | apply below_drew1) | exact HB.out)))); have n1_ := Aside0.mk (below_step (by repeat (first | (with_reducible first | exact HB.out | apply below_alloc | apply pw_below_drewN | apply below_drew1) | exact HB.out)) hb); clear HB; have HO246 := n0_; have HB := n1_; clear n0_ n1_; clear hb ho2))
 go_ret
 exact ⟨_, by first | rfl | (simp [errW_none, errW_some] <;> rfl) | (simp [*, errW_none, errW_some] <;> rfl), by (with_reducible repeat (first | apply Kd.R_alloc | apply Kd.R_drewN | apply Kd.R_drew)); exact HO246.out, by repeat (first | (with_reducible first | exact HB.out | apply below_alloc | apply pw_below_drewN | apply below_drew1) | exact HB.out)⟩

/-! ### fringelaw41_has: function 32 -/
mutual
def fringelaw41_has.j0 : Nat → List (S47) → List (S68) → Bool → Option (Bool)
 | 0, _, _, _ => none
 | k + 1, x0, x2, x16 => if x16 = true then (some false) else (fringelaw41_has.l0 k x0 x2 0)
def fringelaw41_has.l0 : Nat → List (S47) → List (S68) → Int → Option (Bool)
 | 0, _, _, _ => none
 | k + 1, x0, x2, x7 => if x7 < 3 then (if 0 ≤ x7 then (if x7 < (x0.length : Int) then (if x7 < (x2.length : Int) then (if (!(((rd_T47 x0 x7).f0) == (wrap64 (Int.tdiv x7 2))) || (!(((rd_T47 x0 x7).f1) == (wrap64 (1 + (wrap64 (Int.tdiv (wrap64 (x7 + 1)) 2))))) || ((!(((rd_T47 x0 x7).f2.f0) == ((rd_T68 x2 x7).f0)) || (!(((rd_T47 x0 x7).f2.f1) == ((rd_T68 x2 x7).f1)) || (!(((rd_T47 x0 x7).f2.f2) == 1)))) || (!(((rd_T47 x0 x7).f3) == 1))))) = true then (some false) else (fringelaw41_has.l0 k x0 x2 (wrap64 (x7 + 1)))) else (none)) else (none)) else (none)) else (some true)
end
def fringelaw41_has.f (k : Nat) (l0 : List (S47)) (a1 : Int) (l2 : List (S68)) : Option (Bool) := if a1 = 0 then (fringelaw41_has.j0 k l0 l2 ((l0.length : Int) != 3)) else (fringelaw41_has.j0 k l0 l2 true)
theorem fringelaw41_has.mono_l : ∀ k, (∀ y0 y1 y2, LeO (fringelaw41_has.j0 k y0 y1 y2) (fringelaw41_has.j0 (k + 1) y0 y1 y2)) ∧ (∀ y0 y1 y2, LeO (fringelaw41_has.l0 k y0 y1 y2) (fringelaw41_has.l0 (k + 1) y0 y1 y2))
 | 0 => ⟨fun _ _ _ r h => by simp [fringelaw41_has.j0] at h, fun _ _ _ r h => by simp [fringelaw41_has.l0] at h⟩
 | k + 1 => by
  obtain ⟨ih0, ih1⟩ := fringelaw41_has.mono_l k
  refine ⟨?_, ?_⟩
  ·intro y0 y1 y2
   unfold fringelaw41_has.j0
   repeat' first
   | (with_reducible exact ih0 _ _ _)
   | (with_reducible exact ih1 _ _ _)
   | (with_reducible exact LeO.refl _)
   | (with_reducible exact LeO.none _)
   | (with_reducible refine LeO.ite ?_ ?_)
   | (with_reducible refine LeO.bind ?_ (fun _ => ?_))
   | exact ih0 _ _ _
   | exact ih1 _ _ _
   | exact LeO.none _
   | refine LeO.ite ?_ ?_
   | refine LeO.bind ?_ (fun _ => ?_)
  ·intro y0 y1 y2
   unfold fringelaw41_has.l0
   repeat' first
   | (with_reducible exact ih0 _ _ _)
   | (with_reducible exact ih1 _ _ _)
   | (with_reducible exact LeO.refl _)
   | (with_reducible exact LeO.none _)
   | (with_reducible refine LeO.ite ?_ ?_)
   | (with_reducible refine LeO.bind ?_ (fun _ => ?_))
   | exact ih0 _ _ _
   | exact ih1 _ _ _
   | exact LeO.none _
   | refine LeO.ite ?_ ?_
   | refine LeO.bind ?_ (fun _ => ?_)
theorem fringelaw41_has.mono : ∀ a0 a1 a2 k, LeO (fringelaw41_has.f k a0 a1 a2) (fringelaw41_has.f (k + 1) a0 a1 a2) := by
 intro a0 a1 a2 k
 obtain ⟨ih0, ih1⟩ := fringelaw41_has.mono_l k
 unfold fringelaw41_has.f
 repeat' first
   | (with_reducible exact ih0 _ _ _)
   | (with_reducible exact ih1 _ _ _)
   | (with_reducible exact LeO.refl _)
   | (with_reducible exact LeO.none _)
   | (with_reducible refine LeO.ite ?_ ?_)
   | (with_reducible refine LeO.bind ?_ (fun _ => ?_))
   | exact ih0 _ _ _
   | exact ih1 _ _ _
   | exact LeO.none _
   | refine LeO.ite ?_ ?_
   | refine LeO.bind ?_ (fun _ => ?_)
set_option maxHeartbeats 8000000 in
set_option maxRecDepth 100000 in
theorem fringelaw41_has.calls (k : Nat) (A0 : Option Addr) (c0 : Nat) (l0 : List (S47)) (a1 : Int) (A2 : Option Addr) (c2 : Nat) (l2 : List (S68)) (r : Bool) (w : World) (hr0 : Kd.C k47 w A0 l0.length l0) (hc0 : l0.length ≤ c0) (hr2 : Kd.C k68 w A2 l2.length l2) (hc2 : l2.length ≤ c2) (h : fringelaw41_has.f k l0 a1 l2 = some r) :
  Calls Try.prog 32 #[.slice A0 l0.length c0, .int .i64 a1, .slice A2 l2.length c2] w fun e w' => e = .returned (.bool r) ∧ Drawn0 w w' := by
 have hu47 := Try.underlying47
 have hu45 := Try.underlying45
 have HR0 := Aside0.mk hr0
 have HC0 := Aside0.mk hc0
 clear hr0 hc0
 have HR2 := Aside0.mk hr2
 have HC2 := Aside0.mk hc2
 clear hr2 hc2
 have H : (if a1 = 0 then (fringelaw41_has.j0 k l0 l2 ((l0.length : Int) != 3)) else (fringelaw41_has.j0 k l0 l2 true)) = some r := h
 clear h
 have HC4 := Aside0.mk H
 clear H
 go_enter Try.func32, Try.ntmps32
 go_upto_region 1 with (fail)
 repeat (go_quiet (fail); go_upto_region 1 with (fail))
 go_cut [16] (fun v16 wc => ∃ (kq : Nat) (x16_3 : Bool), v16 = .bool x16_3 ∧ Aside0 (fringelaw41_has.j0 kq l0 l2 x16_3 = some r) ∧ Aside0 (kq ≤ k) ∧ Drawn0 w wc)
 case first =>
  have H := HC4.out
  clear HC4
  by_cases c5 : a1 = 0
  ·rw [if_pos c5] at H
   have c5b0 : (a1 == 0) = true := beq_iff_eq.mpr c5
   have c5b1 : (a1 != 0) = false := bne_eq_false_iff_eq.mpr c5
   clear c5
   (first | rw [c5b0] | (simp only [i64_w, i32_w]; rw [c5b0]) | skip)
   have H' := Aside0.mk H
   clear H
   go_wp2
   repeat (go_quiet (fail); try go_wp2)
   go_meet
   case rel => exact ⟨_, (((l0.length : Int) != 3)), (by first | rfl | (simp; done) | (simp [*]; done)), H', ⟨by first | omega | exact Nat.le_refl _⟩, by repeat (first | exact Drawn0.refl _ | apply Drawn0.step)⟩
  ·rw [if_neg c5] at H
   have c5b0 : (a1 == 0) = false := beq_eq_false_iff_ne.mpr c5
   have c5b1 : (a1 != 0) = true := bne_iff_ne.mpr c5
   (first | rw [c5b0] | (simp only [i64_w, i32_w]; rw [c5b0]) | skip)
   have H' := Aside0.mk H
   clear H
   go_wp2
   repeat (go_quiet (fail); try go_wp2)
   go_meet
   case rel => exact ⟨_, (true), (by first | rfl | (simp; done) | (simp [*]; done)), H', ⟨by first | omega | exact Nat.le_refl _⟩, by repeat (first | exact Drawn0.refl _ | apply Drawn0.step)⟩
 case rest =>
  clear HC4
  try clear c2
  try clear p2
  try clear c3
  try clear c5
  try clear c5b0
  try clear c5b1
  obtain ⟨kq, x16_3, rfl, HA, HJ3, ⟨mc3, rfl⟩⟩ := hcut
  cases kq with
  | zero => exact absurd HA.out (by simp [fringelaw41_has.j0])
  | succ kj3 =>
   have H := HA.out
   clear HA
   simp only [fringelaw41_has.j0] at H
   by_cases c6 : x16_3 = true
   ·subst c6
    rw [if_pos rfl] at H
    obtain rfl := Option.some.inj H
    go_wp2
    repeat (go_quiet (fail); try go_wp2)
    go_ret
    exact ⟨by first | rfl | (simp; done) | (simp [*]; done), by repeat (first | exact Drawn0.refl _ | apply Drawn0.step)⟩
   ·replace c6 := Bool.eq_false_iff.mpr c6
    subst c6
    rw [if_neg (show ¬ (false = true) by decide)] at H
    have H' := Aside0.mk H
    clear H
    go_wp2
    repeat (go_quiet (fail); try go_wp2)
    go_loopg [7] kj3 (fun kq v7 w' => ∃ (x7_2 : Int), v7 = .int .i64 x7_2 ∧ Aside0 (fringelaw41_has.l0 kq l0 l2 x7_2 = some r) ∧ Aside0 (kq ≤ kj3) ∧ Drawn0 w w')
    case atStart => exact ⟨(0), (by first | rfl | (simp; done) | (simp [*]; done)), H', ⟨Nat.le_refl _⟩, by repeat (first | exact Drawn0.refl _ | apply Drawn0.step)⟩
    case round =>
     clear H'
     try clear c2
     try clear p2
     try clear c3
     try clear c5
     try clear c5b0
     try clear c5b1
     try clear c6
     try clear p2
     obtain ⟨x7_2, rfl, HA, HK2, ⟨m2, rfl⟩⟩ := hrel
     cases gk with
     | zero => exact absurd HA.out (by simp [fringelaw41_has.l0])
     | succ k2 =>
      have H := HA.out
      clear HA
      simp only [fringelaw41_has.l0] at H
      by_cases c7 : x7_2 < 3
      ·rw [if_pos c7] at H
       have c7b0 : decide (x7_2 < 3) = true := decide_eq_true c7
       clear c7
       by_cases c8 : 0 ≤ x7_2
       ·rw [if_pos c8] at H
        have c8b0 : decide (0 ≤ x7_2) = true := decide_eq_true c8
        clear c8
        by_cases c9 : x7_2 < (l0.length : Int)
        ·rw [if_pos c9] at H
         have c9b0 : decide (x7_2 < (l0.length : Int)) = true := decide_eq_true c9
         clear c9
         by_cases c10 : x7_2 < (l2.length : Int)
         ·rw [if_pos c10] at H
          have c10b0 : decide (x7_2 < (l2.length : Int)) = true := decide_eq_true c10
          clear c10
          by_cases c11 : (!(((rd_T47 l0 x7_2).f0) == (wrap64 (Int.tdiv x7_2 2))) || (!(((rd_T47 l0 x7_2).f1) == (wrap64 (1 + (wrap64 (Int.tdiv (wrap64 (x7_2 + 1)) 2))))) || ((!(((rd_T47 l0 x7_2).f2.f0) == ((rd_T68 l2 x7_2).f0)) || (!(((rd_T47 l0 x7_2).f2.f1) == ((rd_T68 l2 x7_2).f1)) || (!(((rd_T47 l0 x7_2).f2.f2) == 1)))) || (!(((rd_T47 l0 x7_2).f3) == 1))))) = true
          ·rw [if_pos c11] at H
           have c11b0 : (!(((rd_T47 l0 x7_2).f0) == (wrap64 (Int.tdiv x7_2 2))) || (!(((rd_T47 l0 x7_2).f1) == (wrap64 (1 + (wrap64 (Int.tdiv (wrap64 (x7_2 + 1)) 2))))) || ((!(((rd_T47 l0 x7_2).f2.f0) == ((rd_T68 l2 x7_2).f0)) || (!(((rd_T47 l0 x7_2).f2.f1) == ((rd_T68 l2 x7_2).f1)) || (!(((rd_T47 l0 x7_2).f2.f2) == 1)))) || (!(((rd_T47 l0 x7_2).f3) == 1))))) = true := c11
           clear c11
           obtain rfl := Option.some.inj H
           have p247 : 0 ≤ (x7_2 : Int) := of_decide_eq_true (by first | (with_reducible assumption) | assumption)
           have q247 : x7_2 < (l0.length : Int) := of_decide_eq_true (by first | (with_reducible assumption) | assumption)
           obtain ⟨ad247, e247, hx247_0, hx247_1, hx247_2, hx247_3, hx247_4, hx247_5⟩ := at_T47 HR0.out x7_2 p247 q247
           cases e247
           replace p247 := eq_true p247
           replace q247 := eq_true q247
           have p248 : 0 ≤ (x7_2 : Int) := of_decide_eq_true (by first | (with_reducible assumption) | assumption)
           have q248 : x7_2 < (l2.length : Int) := of_decide_eq_true (by first | (with_reducible assumption) | assumption)
           obtain ⟨ad248, e248, hx248_0, hx248_1⟩ := at_T68 HR2.out x7_2 p248 q248
           cases e248
           replace p248 := eq_true p248
           replace q248 := eq_true q248
           have p249 : 0 ≤ (x7_2 : Int) := of_decide_eq_true (by first | (with_reducible assumption) | assumption)
           have q249 : x7_2 < (l2.length : Int) := of_decide_eq_true (by first | (with_reducible assumption) | assumption)
           obtain ⟨ad249, e249, hx249_0, hx249_1⟩ := at_T68 HR2.out x7_2 p249 q249
           obtain rfl : ad248 = ad249 := (by injection e249)
           replace p249 := eq_true p249
           replace q249 := eq_true q249
           go_wp2
           repeat (go_quiet (fail); try go_wp2)
           go_ret
           exact ⟨by first | rfl | (simp; done) | (simp [*]; done), by repeat (first | exact Drawn0.refl _ | apply Drawn0.step)⟩
          ·rw [if_neg c11] at H
           have c11b0 : (!(((rd_T47 l0 x7_2).f0) == (wrap64 (Int.tdiv x7_2 2))) || (!(((rd_T47 l0 x7_2).f1) == (wrap64 (1 + (wrap64 (Int.tdiv (wrap64 (x7_2 + 1)) 2))))) || ((!(((rd_T47 l0 x7_2).f2.f0) == ((rd_T68 l2 x7_2).f0)) || (!(((rd_T47 l0 x7_2).f2.f1) == ((rd_T68 l2 x7_2).f1)) || (!(((rd_T47 l0 x7_2).f2.f2) == 1)))) || (!(((rd_T47 l0 x7_2).f3) == 1))))) = false := by simpa using c11
           clear c11
           have H' := Aside0.mk H
           clear H
           have p247 : 0 ≤ (x7_2 : Int) := of_decide_eq_true (by first | (with_reducible assumption) | assumption)
           have q247 : x7_2 < (l0.length : Int) := of_decide_eq_true (by first | (with_reducible assumption) | assumption)
           obtain ⟨ad247, e247, hx247_0, hx247_1, hx247_2, hx247_3, hx247_4, hx247_5⟩ := at_T47 HR0.out x7_2 p247 q247
           cases e247
           replace p247 := eq_true p247
           replace q247 := eq_true q247
           have p248 : 0 ≤ (x7_2 : Int) := of_decide_eq_true (by first | (with_reducible assumption) | assumption)
           have q248 : x7_2 < (l2.length : Int) := of_decide_eq_true (by first | (with_reducible assumption) | assumption)
           obtain ⟨ad248, e248, hx248_0, hx248_1⟩ := at_T68 HR2.out x7_2 p248 q248
           cases e248
           replace p248 := eq_true p248
           replace q248 := eq_true q248
           have p249 : 0 ≤ (x7_2 : Int) := of_decide_eq_true (by first | (with_reducible assumption) | assumption)
           have q249 : x7_2 < (l2.length : Int) := of_decide_eq_true (by first | (with_reducible assumption) | assumption)
           obtain ⟨ad249, e249, hx249_0, hx249_1⟩ := at_T68 HR2.out x7_2 p249 q249
           obtain rfl : ad248 = ad249 := (by injection e249)
           replace p249 := eq_true p249
           replace q249 := eq_true q249
           go_wp2
           repeat (go_quiet (fail); try go_wp2)
           go_roundg k2
           case measure => have := HJ3.out; have := HK2.out; omega
           case rel => exact ⟨(wrap64 (x7_2 + 1)), (by first | rfl | (simp; done) | (simp [*]; done)), H', ⟨by have := HJ3.out; have := HK2.out; omega⟩, by repeat (first | exact Drawn0.refl _ | apply Drawn0.step)⟩
         ·rw [if_neg c10] at H
          exact absurd H (by simp)
        ·rw [if_neg c9] at H
         exact absurd H (by simp)
       ·rw [if_neg c8] at H
        exact absurd H (by simp)
      ·rw [if_neg c7] at H
       have c7b0 : decide (x7_2 < 3) = false := decide_eq_false c7
       clear c7
       obtain rfl := Option.some.inj H
       go_wp2
       repeat (go_quiet (fail); try go_wp2)
       go_ret
       exact ⟨by first | rfl | (simp; done) | (simp [*]; done), by repeat (first | exact Drawn0.refl _ | apply Drawn0.step)⟩

/-! ### fringelaw41_alive: function 16 -/
def fringelaw41_alive.f (k : Nat)  : Option (Bool) := (some (([(⟨1, 0, 5⟩ : S33)] : List (S33)) : List (S33))).bind fun y250 => ((fringelaw41_given.f).bind fun t253 => ((sky_See.f k t253 y250).bind fun bt256 => ((fringelaw41_given.f).bind fun t260 => (if y250.length < 5864062014805 then ((sky_See.f k t260 (y250 ++ [(⟨0, 0, 2⟩ : S33)])).bind fun bt266 => ((fringelaw41_given.f).bind fun t270 => ((sky_Dirty.f k t270 y250 2).bind fun bt273 => ((fringelaw41_has.f k bt256.1 bt256.2 (([(⟨0, 5⟩ : S68), (⟨5, 0⟩ : S68), (⟨0, (-5)⟩ : S68)] : List (S68)))).bind fun t280 => (if t280 = true then ((fringelaw41_has.f k bt266.1 bt266.2 (([(⟨2, 5⟩ : S68), (⟨7, 0⟩ : S68), (⟨2, (-5)⟩ : S68)] : List (S68)))).bind fun t284 => (if t284 = true then (if bt273.2 = 0 then ((fringeref41_SameImage.f k bt273.1 (([(([5, 15] : List Int)), (([(-5), (-5)] : List Int))] : List (List Int)))).bind fun t294 => (some t294)) else (some false)) else (some false))) else (some false)))))) else (none)))))
theorem fringelaw41_alive.mono : ∀ k, LeO (fringelaw41_alive.f k ) (fringelaw41_alive.f (k + 1) ) := by
 intro  k
 unfold fringelaw41_alive.f
 repeat' first
   | (with_reducible exact fringelaw41_has.mono _ _ _ _)
   | (with_reducible exact fringeref41_SameImage.mono _ _ _)
   | (with_reducible exact sky_Dirty.mono _ _ _ _)
   | (with_reducible exact sky_See.mono _ _ _)
   | (with_reducible exact LeO.refl _)
   | (with_reducible exact LeO.none _)
   | (with_reducible refine LeO.ite ?_ ?_)
   | (with_reducible refine LeO.bind ?_ (fun _ => ?_))
   | exact fringelaw41_has.mono _ _ _ _
   | exact fringeref41_SameImage.mono _ _ _
   | exact sky_Dirty.mono _ _ _ _
   | exact sky_See.mono _ _ _
   | exact LeO.none _
   | refine LeO.ite ?_ ?_
   | refine LeO.bind ?_ (fun _ => ?_)
set_option maxHeartbeats 8000000 in
set_option maxRecDepth 100000 in
theorem fringelaw41_alive.callsT (k : Nat)  (w : World) (h : fringelaw41_alive.f k  = some true) :
  Calls Try.prog 16 #[] w fun e w' => e = .returned (.bool true) ∧ Below w.heap.size w w' := by
 have hu33 := Try.underlying33
 have hu68 := Try.underlying68
 have HB := Aside0.mk (Below.refl w.heap.size w)
 have H : ((some (([(⟨1, 0, 5⟩ : S33)] : List (S33)) : List (S33))).bind fun y250 => ((fringelaw41_given.f).bind fun t253 => ((sky_See.f k t253 y250).bind fun bt256 => ((fringelaw41_given.f).bind fun t260 => (if y250.length < 5864062014805 then ((sky_See.f k t260 (y250 ++ [(⟨0, 0, 2⟩ : S33)])).bind fun bt266 => ((fringelaw41_given.f).bind fun t270 => ((sky_Dirty.f k t270 y250 2).bind fun bt273 => ((fringelaw41_has.f k bt256.1 bt256.2 (([(⟨0, 5⟩ : S68), (⟨5, 0⟩ : S68), (⟨0, (-5)⟩ : S68)] : List (S68)))).bind fun t280 => (if t280 = true then ((fringelaw41_has.f k bt266.1 bt266.2 (([(⟨2, 5⟩ : S68), (⟨7, 0⟩ : S68), (⟨2, (-5)⟩ : S68)] : List (S68)))).bind fun t284 => (if t284 = true then (if bt273.2 = 0 then ((fringeref41_SameImage.f k bt273.1 (([(([5, 15] : List Int)), (([(-5), (-5)] : List Int))] : List (List Int)))).bind fun t294 => (some t294)) else (some false)) else (some false))) else (some false)))))) else (none)))))) = some true := h
 clear h
 obtain ⟨y250, hy250⟩ : ∃ y_ : List (S33), y_ = (([(⟨1, 0, 5⟩ : S33)] : List (S33))) := ⟨_, rfl⟩
 replace H : ((fringelaw41_given.f).bind fun t253 => ((sky_See.f k t253 y250).bind fun bt256 => ((fringelaw41_given.f).bind fun t260 => (if y250.length < 5864062014805 then ((sky_See.f k t260 (y250 ++ [(⟨0, 0, 2⟩ : S33)])).bind fun bt266 => ((fringelaw41_given.f).bind fun t270 => ((sky_Dirty.f k t270 y250 2).bind fun bt273 => ((fringelaw41_has.f k bt256.1 bt256.2 (([(⟨0, 5⟩ : S68), (⟨5, 0⟩ : S68), (⟨0, (-5)⟩ : S68)] : List (S68)))).bind fun t280 => (if t280 = true then ((fringelaw41_has.f k bt266.1 bt266.2 (([(⟨2, 5⟩ : S68), (⟨7, 0⟩ : S68), (⟨2, (-5)⟩ : S68)] : List (S68)))).bind fun t284 => (if t284 = true then (if bt273.2 = 0 then ((fringeref41_SameImage.f k bt273.1 (([(([5, 15] : List Int)), (([(-5), (-5)] : List Int))] : List (List Int)))).bind fun t294 => (some t294)) else (some false)) else (some false))) else (some false)))))) else (none))))) = some true := by first | (rw [hy250]; with_reducible exact H) | (have H2_ := (Option.bind_some _ _).symm.trans H; rw [hy250]; with_reducible exact H2_) | (have H2_ := (Option.bind_some _ _).symm.trans H; with_reducible exact H2_) | with_reducible exact H | (rw [hy250]; exact H) | exact H
 have Ny250 := Aside0.mk hy250
 clear hy250
 replace H := Option.bind_eq_some_iff.mp H
 obtain ⟨t253, A10, H⟩ := H
 (try dsimp only at H)
 have A1 := Aside0.mk A10
 clear A10
 replace H := Option.bind_eq_some_iff.mp H
 obtain ⟨⟨t256, t257⟩, A20, H⟩ := H
 (try dsimp only at H)
 have A2 := Aside0.mk A20
 clear A20
 replace H := Option.bind_eq_some_iff.mp H
 obtain ⟨t260, A30, H⟩ := H
 (try dsimp only at H)
 have A3 := Aside0.mk A30
 clear A30
 by_cases c4 : y250.length < 5864062014805
 ·rw [if_pos c4] at H
  have LMc4 := Aside0.mk c4
  clear c4
  obtain ⟨y263, hy263⟩ : ∃ y_ : List (S33), y_ = (y250 ++ [(⟨0, 0, 2⟩ : S33)]) := ⟨_, rfl⟩
  replace H : ((sky_See.f k t260 y263).bind fun bt266 => ((fringelaw41_given.f).bind fun t270 => ((sky_Dirty.f k t270 y250 2).bind fun bt273 => ((fringelaw41_has.f k t256 t257 (([(⟨0, 5⟩ : S68), (⟨5, 0⟩ : S68), (⟨0, (-5)⟩ : S68)] : List (S68)))).bind fun t280 => (if t280 = true then ((fringelaw41_has.f k bt266.1 bt266.2 (([(⟨2, 5⟩ : S68), (⟨7, 0⟩ : S68), (⟨2, (-5)⟩ : S68)] : List (S68)))).bind fun t284 => (if t284 = true then (if bt273.2 = 0 then ((fringeref41_SameImage.f k bt273.1 (([(([5, 15] : List Int)), (([(-5), (-5)] : List Int))] : List (List Int)))).bind fun t294 => (some t294)) else (some false)) else (some false))) else (some false)))))) = some true := by first | (rw [hy263]; with_reducible exact H) | (have H2_ := (Option.bind_some _ _).symm.trans H; rw [hy263]; with_reducible exact H2_) | (have H2_ := (Option.bind_some _ _).symm.trans H; with_reducible exact H2_) | with_reducible exact H | (rw [hy263]; exact H) | exact H
  have Ny263 := Aside0.mk hy263
  clear hy263
  replace H := Option.bind_eq_some_iff.mp H
  obtain ⟨⟨t266, t267⟩, A50, H⟩ := H
  (try dsimp only at H)
  have A5 := Aside0.mk A50
  clear A50
  replace H := Option.bind_eq_some_iff.mp H
  obtain ⟨t270, A60, H⟩ := H
  (try dsimp only at H)
  have A6 := Aside0.mk A60
  clear A60
  replace H := Option.bind_eq_some_iff.mp H
  obtain ⟨⟨t273, t274⟩, A70, H⟩ := H
  (try dsimp only at H)
  have A7 := Aside0.mk A70
  clear A70
  obtain ⟨y277, hy277⟩ : ∃ y_ : List (S68), y_ = (([(⟨0, 5⟩ : S68), (⟨5, 0⟩ : S68), (⟨0, (-5)⟩ : S68)] : List (S68))) := ⟨_, rfl⟩
  replace H : ((fringelaw41_has.f k t256 t257 y277).bind fun t280 => (if t280 = true then ((fringelaw41_has.f k t266 t267 (([(⟨2, 5⟩ : S68), (⟨7, 0⟩ : S68), (⟨2, (-5)⟩ : S68)] : List (S68)))).bind fun t284 => (if t284 = true then (if t274 = 0 then ((fringeref41_SameImage.f k t273 (([(([5, 15] : List Int)), (([(-5), (-5)] : List Int))] : List (List Int)))).bind fun t294 => (some t294)) else (some false)) else (some false))) else (some false))) = some true := by first | (rw [hy277]; with_reducible exact H) | (have H2_ := (Option.bind_some _ _).symm.trans H; rw [hy277]; with_reducible exact H2_) | (have H2_ := (Option.bind_some _ _).symm.trans H; with_reducible exact H2_) | with_reducible exact H | (rw [hy277]; exact H) | exact H
  have Ny277 := Aside0.mk hy277
  clear hy277
  replace H := Option.bind_eq_some_iff.mp H
  obtain ⟨t280, A80, H⟩ := H
  (try dsimp only at H)
  have A8 := Aside0.mk A80
  clear A80
  by_cases c9 : t280 = true
  ·subst c9
   rw [if_pos rfl] at H
   obtain ⟨y281, hy281⟩ : ∃ y_ : List (S68), y_ = (([(⟨2, 5⟩ : S68), (⟨7, 0⟩ : S68), (⟨2, (-5)⟩ : S68)] : List (S68))) := ⟨_, rfl⟩
   replace H : ((fringelaw41_has.f k t266 t267 y281).bind fun t284 => (if t284 = true then (if t274 = 0 then ((fringeref41_SameImage.f k t273 (([(([5, 15] : List Int)), (([(-5), (-5)] : List Int))] : List (List Int)))).bind fun t294 => (some t294)) else (some false)) else (some false))) = some true := by first | (rw [hy281]; with_reducible exact H) | (have H2_ := (Option.bind_some _ _).symm.trans H; rw [hy281]; with_reducible exact H2_) | (have H2_ := (Option.bind_some _ _).symm.trans H; with_reducible exact H2_) | with_reducible exact H | (rw [hy281]; exact H) | exact H
   have Ny281 := Aside0.mk hy281
   clear hy281
   replace H := Option.bind_eq_some_iff.mp H
   obtain ⟨t284, A100, H⟩ := H
   (try dsimp only at H)
   have A10 := Aside0.mk A100
   clear A100
   by_cases c11 : t284 = true
   ·subst c11
    rw [if_pos rfl] at H
    by_cases c12 : t274 = 0
    ·rw [if_pos c12] at H
     have c12b0 : (t274 == 0) = true := beq_iff_eq.mpr c12
     have c12b1 : (t274 != 0) = false := bne_eq_false_iff_eq.mpr c12
     clear c12
     obtain ⟨y285, hy285⟩ : ∃ y_ : List Int, y_ = (([5, 15] : List Int)) := ⟨_, rfl⟩
     replace H : ((fringeref41_SameImage.f k t273 (([y285, (([(-5), (-5)] : List Int))] : List (List Int)))).bind fun t294 => (some t294)) = some true := by first | (rw [hy285]; with_reducible exact H) | (have H2_ := (Option.bind_some _ _).symm.trans H; rw [hy285]; with_reducible exact H2_) | (have H2_ := (Option.bind_some _ _).symm.trans H; with_reducible exact H2_) | with_reducible exact H | (rw [hy285]; exact H) | exact H
     have Ny285 := Aside0.mk hy285
     clear hy285
     obtain ⟨y288, hy288⟩ : ∃ y_ : List Int, y_ = (([(-5), (-5)] : List Int)) := ⟨_, rfl⟩
     replace H : ((fringeref41_SameImage.f k t273 (([y285, y288] : List (List Int)))).bind fun t294 => (some t294)) = some true := by first | (rw [hy288]; with_reducible exact H) | (have H2_ := (Option.bind_some _ _).symm.trans H; rw [hy288]; with_reducible exact H2_) | (have H2_ := (Option.bind_some _ _).symm.trans H; with_reducible exact H2_) | with_reducible exact H | (rw [hy288]; exact H) | exact H
     have Ny288 := Aside0.mk hy288
     clear hy288
     obtain ⟨y291, hy291⟩ : ∃ y_ : List (List Int), y_ = (([y285, y288] : List (List Int))) := ⟨_, rfl⟩
     replace H : ((fringeref41_SameImage.f k t273 y291).bind fun t294 => (some t294)) = some true := by first | (rw [hy291]; with_reducible exact H) | (have H2_ := (Option.bind_some _ _).symm.trans H; rw [hy291]; with_reducible exact H2_) | (have H2_ := (Option.bind_some _ _).symm.trans H; with_reducible exact H2_) | with_reducible exact H | (rw [hy291]; exact H) | exact H
     have Ny291 := Aside0.mk hy291
     clear hy291
     replace H := Option.bind_eq_some_iff.mp H
     obtain ⟨t294, A130, H⟩ := H
     (try dsimp only at H)
     have A13 := Aside0.mk A130
     clear A130
     have hend := Aside0.mk (Option.some.inj H)
     clear H
     go_enter Try.func16, Try.ntmps16
     go_wp2_with (first | ((with_reducible refine gate_dst (N := 9) rfl ?_); (try (refine gate_guard (by rfl) ?_; dsimp only)); refine Kd.R_lit k33 _ 33 ?hg (N := 9) ?hd (xs := ([(⟨1, 0, 5⟩ : S33)] : List (S33))) (inner := [.int .i64 1, .int .i64 0, .int .i64 5]) (ok := fun _ => True) (okp := fun _ => True) ?hr ?hp (fun _ hk => hk) trivial (Below.refl _ _) (Nat.le_refl _) (by simp) ?_; (case hd => rfl); (case hg => rfl); (case hr => first | (go_simp; done) | (go_simp; rfl)); (case hp => exact (Reps.c3 (show Kd.M k33 _ _ _ (⟨1, 0, 5⟩ : S33) [.int .i64 1, .int .i64 0, .int .i64 5] from (k33_mkM _ _ _ (⟨1, 0, 5⟩ : S33) )) (Reps.none _ _))); intro v251 w14 ho15 hb hg_ hnew_; clear hg_ hnew_; (first | rw [← Ny250.out] at ho15 | (simp only [Int.reduceToNat] at ho15; rw [← Ny250.out] at ho15)); have n0_ := Aside0.mk (Kd.R_lower ho15 (below_size (by repeat (first | (with_reducible first | exact HB.out | apply below_alloc | apply pw_below_drewN | apply below_drew1) | exact HB.out)))); have n1_ := Aside0.mk (below_step (by repeat (first | (with_reducible first | exact HB.out | apply below_alloc | apply pw_below_drewN | apply below_drew1) | exact HB.out)) hb); clear HB; have HO252 := n0_; have HB := n1_; clear n0_ n1_; clear hb ho15) | ((with_reducible refine gate_callee (f := 31) rfl ?_); refine goesL_ (some 11) rfl rfl Try.func31 (by kernel_rfl) rfl #[] rfl (by (try simp only [List.map_toArray, List.map_cons, List.map_nil]); first | done | rfl | (simp only [List.length_drop, List.length_take]; rfl)) ?_; (with_reducible refine (fringelaw41_given.calls  t253 _ A1.out).mono ?_); rintro e w16 ⟨v254, rfl, ho0, hb⟩; refine ⟨_, rfl, ?_⟩; have n0_ := Aside0.mk (Kd.R_below (by (with_reducible repeat (first | apply Kd.R_alloc | apply Kd.R_drewN | apply Kd.R_drew)); exact HO252.out) hb); have n1_ := Aside0.mk (Kd.R_lower ho0 (below_size (by repeat (first | (with_reducible first | exact HB.out | apply below_alloc | apply pw_below_drewN | apply below_drew1) | exact HB.out)))); have n2_ := Aside0.mk (below_step (by repeat (first | (with_reducible first | exact HB.out | apply below_alloc | apply pw_below_drewN | apply below_drew1) | exact HB.out)) hb); clear HO252; clear HB; have HO252 := n0_; have HO255 := n1_; have HB := n2_; clear n0_ n1_ n2_; (try clear hb); (try clear hb2); (try clear hk); (try clear hi); (try clear ho0); obtain ⟨Ao17, co17, eo17⟩ := Kd.R_slice HO255.out; subst eo17; obtain ⟨Ao18, co18, eo18⟩ := Kd.R_slice HO252.out; subst eo18) | ((with_reducible refine gate_callee (f := 18) rfl ?_); refine goesL_ (some 13) rfl rfl Try.func18 (by kernel_rfl) rfl #[.slice Ao17 t253.length co17, .slice Ao18 y250.length co18] rfl (by (try simp only [List.map_toArray, List.map_cons, List.map_nil]); first | done | rfl | (simp only [List.length_drop, List.length_take]; rfl)) ?_; (with_reducible refine (sky_See.calls k _ _ t253 _ _ y250 t256 t257 _ ?side1 ?side2 ?side3 ?side4 A2.out).mono ?_); (case side1 => repeat (first | exact (Kd.R_reads' HO255.out).2.2 | (with_reducible refine Kd.C_alloc ?_ _) | (with_reducible refine Kd.C_drewN ?_ _) | (with_reducible refine Kd.C_drew ?_))); (case side2 => exact (Kd.R_reads' HO255.out).2.1); (case side3 => repeat (first | exact (Kd.R_reads' HO252.out).2.2 | (with_reducible refine Kd.C_alloc ?_ _) | (with_reducible refine Kd.C_drewN ?_ _) | (with_reducible refine Kd.C_drew ?_))); (case side4 => exact (Kd.R_reads' HO252.out).2.1); rintro e w19 ⟨v258, rfl, ho0, hb⟩; refine ⟨_, rfl, ?_⟩; have n0_ := Aside0.mk (Kd.R_below (by (with_reducible repeat (first | apply Kd.R_alloc | apply Kd.R_drewN | apply Kd.R_drew)); exact HO252.out) hb); have n1_ := Aside0.mk (Kd.R_below (by (with_reducible repeat (first | apply Kd.R_alloc | apply Kd.R_drewN | apply Kd.R_drew)); exact HO255.out) hb); have n2_ := Aside0.mk (Kd.R_lower ho0 (below_size (by repeat (first | (with_reducible first | exact HB.out | apply below_alloc | apply pw_below_drewN | apply below_drew1) | exact HB.out)))); have n3_ := Aside0.mk (below_step (by repeat (first | (with_reducible first | exact HB.out | apply below_alloc | apply pw_below_drewN | apply below_drew1) | exact HB.out)) hb); clear HO252; clear HO255; clear HB; have HO252 := n0_; have HO255 := n1_; have HO259 := n2_; have HB := n3_; clear n0_ n1_ n2_ n3_; (try clear hb); (try clear hb2); (try clear hk); (try clear hi); (try clear ho0)) | ((with_reducible refine gate_callee (f := 31) rfl ?_); refine goesL_ (some 17) rfl rfl Try.func31 (by kernel_rfl) rfl #[] rfl (by (try simp only [List.map_toArray, List.map_cons, List.map_nil]); first | done | rfl | (simp only [List.length_drop, List.length_take]; rfl)) ?_; (with_reducible refine (fringelaw41_given.calls  t260 _ A3.out).mono ?_); rintro e w20 ⟨v261, rfl, ho0, hb⟩; refine ⟨_, rfl, ?_⟩; have n0_ := Aside0.mk (Kd.R_below (by (with_reducible repeat (first | apply Kd.R_alloc | apply Kd.R_drewN | apply Kd.R_drew)); exact HO252.out) hb); have n1_ := Aside0.mk (Kd.R_elder' (by (with_reducible repeat (first | apply Kd.R_alloc | apply Kd.R_drewN | apply Kd.R_drew)); exact HO255.out) (Kd.R_base ho0) hb); have n2_ := Aside0.mk (Kd.R_below (by (with_reducible repeat (first | apply Kd.R_alloc | apply Kd.R_drewN | apply Kd.R_drew)); exact HO259.out) hb); have n3_ := Aside0.mk (Kd.R_lower (Kd.R_new' ho0 (Kd.R_lt (by (with_reducible repeat (first | apply Kd.R_alloc | apply Kd.R_drewN | apply Kd.R_drew)); exact HO255.out))) (below_size (by repeat (first | (with_reducible first | exact HB.out | apply below_alloc | apply pw_below_drewN | apply below_drew1) | exact HB.out)))); have n4_ := Aside0.mk (below_step (by repeat (first | (with_reducible first | exact HB.out | apply below_alloc | apply pw_below_drewN | apply below_drew1) | exact HB.out)) hb); clear HO252; clear HO255; clear HO259; clear HB; have HO252 := n0_; have HO255 := n1_; have HO259 := n2_; have HO262 := n3_; have HB := n4_; clear n0_ n1_ n2_ n3_ n4_; (try clear hb); (try clear hb2); (try clear hk); (try clear hi); (try clear ho0)) | ((with_reducible refine gate_builtin (b := .append) (xs := #[.tmp 18, .tmp 20]) rfl ?_); (try (refine gate_guard (by rfl) ?_; dsimp only)); at_builtin; refine Kd.R_append_keeps k33 (w0 := w) w.heap.size rfl (.tmp 18) (.tmp 20) 22 33 (.agg #[(.int .i64 0), (.int .i64 0), (.int .i64 0)]) 24 rfl Try.underlying22 info33 rfl (by decide) (by omega) (.slice Ao18 y250.length co18) y250 (⟨0, 0, 2⟩ : S33) [.int .i64 0, .int .i64 0, .int .i64 2] (fun _ => True) (fun _ => False) rfl rfl ?aP (fun _ hk => hk.elim) ?aF ?aO ?aB ?aS ?aL ?_; (case aP => exact k33_mkM _ _ _ (⟨0, 0, 2⟩ : S33)); (case aB => exact (by repeat (first | (with_reducible first | exact HB.out | apply below_alloc | apply pw_below_drewN | apply below_drew1) | exact HB.out))); (case aF => exact (fun _ _ => trivial)); (case aO => exact (by (with_reducible repeat (first | apply Kd.R_alloc | apply Kd.R_drewN | apply Kd.R_drew)); exact HO252.out)); (case aS => exact (below_size (by repeat (first | (with_reducible first | exact HB.out | apply below_alloc | apply pw_below_drewN | apply below_drew1) | exact HB.out)))); (case aL => have := LMc4.out; omega); intro v264 w21 ho ho2 hb hg hat; rw [← Ny263.out] at ho; have n0_ := Aside0.mk (ho2); have n1_ := Aside0.mk (Kd.R_over' (by (with_reducible repeat (first | apply Kd.R_alloc | apply Kd.R_drewN | apply Kd.R_drew)); exact HO255.out) (Kd.R_typed (by (with_reducible repeat (first | apply Kd.R_alloc | apply Kd.R_drewN | apply Kd.R_drew)); exact HO252.out)) (by decide) hg); have n2_ := Aside0.mk (Kd.R_over' (by (with_reducible repeat (first | apply Kd.R_alloc | apply Kd.R_drewN | apply Kd.R_drew)); exact HO259.out) (Kd.R_typed (by (with_reducible repeat (first | apply Kd.R_alloc | apply Kd.R_drewN | apply Kd.R_drew)); exact HO252.out)) (by decide) hg); have n3_ := Aside0.mk (Kd.R_over' (by (with_reducible repeat (first | apply Kd.R_alloc | apply Kd.R_drewN | apply Kd.R_drew)); exact HO262.out) (Kd.R_typed (by (with_reducible repeat (first | apply Kd.R_alloc | apply Kd.R_drewN | apply Kd.R_drew)); exact HO252.out)) (by decide) hg); have n4_ := Aside0.mk (hb); have n5_ := Aside0.mk (ho); clear HO252; clear HO255; clear HO259; clear HO262; clear HB; have HO252 := n0_; have HO255 := n1_; have HO259 := n2_; have HO262 := n3_; have HB := n4_; have HO265 := n5_; clear n0_ n1_ n2_ n3_ n4_ n5_; clear ho ho2 hb hg hat; obtain ⟨Ao22, co22, eo22⟩ := Kd.R_slice HO262.out; subst eo22; obtain ⟨Ao23, co23, eo23⟩ := Kd.R_slice HO265.out; subst eo23) | ((with_reducible refine gate_callee (f := 18) rfl ?_); refine goesL_ (some 22) rfl rfl Try.func18 (by kernel_rfl) rfl #[.slice Ao22 t260.length co22, .slice Ao23 y263.length co23] rfl (by (try simp only [List.map_toArray, List.map_cons, List.map_nil]); first | done | rfl | (simp only [List.length_drop, List.length_take]; rfl)) ?_; (with_reducible refine (sky_See.calls k _ _ t260 _ _ y263 t266 t267 _ ?side1 ?side2 ?side3 ?side4 A5.out).mono ?_); (case side1 => repeat (first | exact (Kd.R_reads' HO262.out).2.2 | (with_reducible refine Kd.C_alloc ?_ _) | (with_reducible refine Kd.C_drewN ?_ _) | (with_reducible refine Kd.C_drew ?_))); (case side2 => exact (Kd.R_reads' HO262.out).2.1); (case side3 => repeat (first | exact (Kd.R_reads' HO265.out).2.2 | (with_reducible refine Kd.C_alloc ?_ _) | (with_reducible refine Kd.C_drewN ?_ _) | (with_reducible refine Kd.C_drew ?_))); (case side4 => exact (Kd.R_reads' HO265.out).2.1); rintro e w24 ⟨v268, rfl, ho0, hb⟩; refine ⟨_, rfl, ?_⟩; have n0_ := Aside0.mk (Kd.R_below (by (with_reducible repeat (first | apply Kd.R_alloc | apply Kd.R_drewN | apply Kd.R_drew)); exact HO252.out) hb); have n1_ := Aside0.mk (Kd.R_below (by (with_reducible repeat (first | apply Kd.R_alloc | apply Kd.R_drewN | apply Kd.R_drew)); exact HO255.out) hb); have n2_ := Aside0.mk (Kd.R_elder' (by (with_reducible repeat (first | apply Kd.R_alloc | apply Kd.R_drewN | apply Kd.R_drew)); exact HO259.out) (Kd.R_base ho0) hb); have n3_ := Aside0.mk (Kd.R_below (by (with_reducible repeat (first | apply Kd.R_alloc | apply Kd.R_drewN | apply Kd.R_drew)); exact HO262.out) hb); have n4_ := Aside0.mk (Kd.R_below (by (with_reducible repeat (first | apply Kd.R_alloc | apply Kd.R_drewN | apply Kd.R_drew)); exact HO265.out) hb); have n5_ := Aside0.mk (Kd.R_lower (Kd.R_new' ho0 (Kd.R_lt (by (with_reducible repeat (first | apply Kd.R_alloc | apply Kd.R_drewN | apply Kd.R_drew)); exact HO259.out))) (below_size (by repeat (first | (with_reducible first | exact HB.out | apply below_alloc | apply pw_below_drewN | apply below_drew1) | exact HB.out)))); have n6_ := Aside0.mk (below_step (by repeat (first | (with_reducible first | exact HB.out | apply below_alloc | apply pw_below_drewN | apply below_drew1) | exact HB.out)) hb); clear HO252; clear HO255; clear HO259; clear HO262; clear HO265; clear HB; have HO252 := n0_; have HO255 := n1_; have HO259 := n2_; have HO262 := n3_; have HO265 := n4_; have HO269 := n5_; have HB := n6_; clear n0_ n1_ n2_ n3_ n4_ n5_ n6_; (try clear hb); (try clear hb2); (try clear hk); (try clear hi); (try clear ho0)) | ((with_reducible refine gate_callee (f := 31) rfl ?_); refine goesL_ (some 26) rfl rfl Try.func31 (by kernel_rfl) rfl #[] rfl (by (try simp only [List.map_toArray, List.map_cons, List.map_nil]); first | done | rfl | (simp only [List.length_drop, List.length_take]; rfl)) ?_; (with_reducible refine (fringelaw41_given.calls  t270 _ A6.out).mono ?_); rintro e w25 ⟨v271, rfl, ho0, hb⟩; refine ⟨_, rfl, ?_⟩; have n0_ := Aside0.mk (Kd.R_below (by (with_reducible repeat (first | apply Kd.R_alloc | apply Kd.R_drewN | apply Kd.R_drew)); exact HO252.out) hb); have n1_ := Aside0.mk (Kd.R_elder' (by (with_reducible repeat (first | apply Kd.R_alloc | apply Kd.R_drewN | apply Kd.R_drew)); exact HO255.out) (Kd.R_base ho0) hb); have n2_ := Aside0.mk (Kd.R_below (by (with_reducible repeat (first | apply Kd.R_alloc | apply Kd.R_drewN | apply Kd.R_drew)); exact HO259.out) hb); have n3_ := Aside0.mk (Kd.R_elder' (by (with_reducible repeat (first | apply Kd.R_alloc | apply Kd.R_drewN | apply Kd.R_drew)); exact HO262.out) (Kd.R_base ho0) hb); have n4_ := Aside0.mk (Kd.R_below (by (with_reducible repeat (first | apply Kd.R_alloc | apply Kd.R_drewN | apply Kd.R_drew)); exact HO265.out) hb); have n5_ := Aside0.mk (Kd.R_below (by (with_reducible repeat (first | apply Kd.R_alloc | apply Kd.R_drewN | apply Kd.R_drew)); exact HO269.out) hb); have n6_ := Aside0.mk (Kd.R_lower (Kd.R_new' (Kd.R_new' ho0 (Kd.R_lt (by (with_reducible repeat (first | apply Kd.R_alloc | apply Kd.R_drewN | apply Kd.R_drew)); exact HO255.out))) (Kd.R_lt (by (with_reducible repeat (first | apply Kd.R_alloc | apply Kd.R_drewN | apply Kd.R_drew)); exact HO262.out))) (below_size (by repeat (first | (with_reducible first | exact HB.out | apply below_alloc | apply pw_below_drewN | apply below_drew1) | exact HB.out)))); have n7_ := Aside0.mk (below_step (by repeat (first | (with_reducible first | exact HB.out | apply below_alloc | apply pw_below_drewN | apply below_drew1) | exact HB.out)) hb); clear HO252; clear HO255; clear HO259; clear HO262; clear HO265; clear HO269; clear HB; have HO252 := n0_; have HO255 := n1_; have HO259 := n2_; have HO262 := n3_; have HO265 := n4_; have HO269 := n5_; have HO272 := n6_; have HB := n7_; clear n0_ n1_ n2_ n3_ n4_ n5_ n6_ n7_; (try clear hb); (try clear hb2); (try clear hk); (try clear hi); (try clear ho0); obtain ⟨Ao26, co26, eo26⟩ := Kd.R_slice HO272.out; subst eo26) | ((with_reducible refine gate_callee (f := 21) rfl ?_); refine goesL_ (some 28) rfl rfl Try.func21 (by kernel_rfl) rfl #[.slice Ao26 t270.length co26, .slice Ao18 y250.length co18, .int .i64 2] rfl (by (try simp only [List.map_toArray, List.map_cons, List.map_nil]); first | done | rfl | (simp only [List.length_drop, List.length_take]; rfl)) ?_; (with_reducible refine (sky_Dirty.calls k _ _ t270 _ _ y250 2 t273 t274 _ ?side1 ?side2 ?side3 ?side4 A7.out).mono ?_); (case side1 => repeat (first | exact (Kd.R_reads' HO272.out).2.2 | (with_reducible refine Kd.C_alloc ?_ _) | (with_reducible refine Kd.C_drewN ?_ _) | (with_reducible refine Kd.C_drew ?_))); (case side2 => exact (Kd.R_reads' HO272.out).2.1); (case side3 => repeat (first | exact (Kd.R_reads' HO252.out).2.2 | (with_reducible refine Kd.C_alloc ?_ _) | (with_reducible refine Kd.C_drewN ?_ _) | (with_reducible refine Kd.C_drew ?_))); (case side4 => exact (Kd.R_reads' HO252.out).2.1); rintro e w27 ⟨v275, rfl, ho0, hb⟩; refine ⟨_, rfl, ?_⟩; have n0_ := Aside0.mk (Kd.R_below (by (with_reducible repeat (first | apply Kd.R_alloc | apply Kd.R_drewN | apply Kd.R_drew)); exact HO252.out) hb); have n1_ := Aside0.mk (Kd.R_below (by (with_reducible repeat (first | apply Kd.R_alloc | apply Kd.R_drewN | apply Kd.R_drew)); exact HO255.out) hb); have n2_ := Aside0.mk (Kd.R_below (by (with_reducible repeat (first | apply Kd.R_alloc | apply Kd.R_drewN | apply Kd.R_drew)); exact HO259.out) hb); have n3_ := Aside0.mk (Kd.R_below (by (with_reducible repeat (first | apply Kd.R_alloc | apply Kd.R_drewN | apply Kd.R_drew)); exact HO262.out) hb); have n4_ := Aside0.mk (Kd.R_below (by (with_reducible repeat (first | apply Kd.R_alloc | apply Kd.R_drewN | apply Kd.R_drew)); exact HO265.out) hb); have n5_ := Aside0.mk (Kd.R_below (by (with_reducible repeat (first | apply Kd.R_alloc | apply Kd.R_drewN | apply Kd.R_drew)); exact HO269.out) hb); have n6_ := Aside0.mk (Kd.R_below (by (with_reducible repeat (first | apply Kd.R_alloc | apply Kd.R_drewN | apply Kd.R_drew)); exact HO272.out) hb); have n7_ := Aside0.mk (Kd.N_lower (Kd.N_mono (ok' := fun k_ => some k_ ≠ (.slice Ao18 y250.length co18 : Value).ownBlock ∧ some k_ ≠ (.slice Ao17 t253.length co17 : Value).ownBlock ∧ some k_ ≠ (v258 : Value).ownBlock ∧ some k_ ≠ (.slice Ao22 t260.length co22 : Value).ownBlock ∧ some k_ ≠ (.slice Ao23 y263.length co23 : Value).ownBlock ∧ some k_ ≠ (v268 : Value).ownBlock ∧ some k_ ≠ (.slice Ao26 t270.length co26 : Value).ownBlock) (Kd.S_N (Kd.S_bound ho0)) (fun k_ hk_ => ⟨(Kd.fresh' (Kd.R_lt (by (with_reducible repeat (first | apply Kd.R_alloc | apply Kd.R_drewN | apply Kd.R_drew)); exact HO252.out)) k_ hk_.2.1), (Kd.fresh' (Kd.R_lt (by (with_reducible repeat (first | apply Kd.R_alloc | apply Kd.R_drewN | apply Kd.R_drew)); exact HO255.out)) k_ hk_.2.1), (Kd.fresh' (Kd.R_lt (by (with_reducible repeat (first | apply Kd.R_alloc | apply Kd.R_drewN | apply Kd.R_drew)); exact HO259.out)) k_ hk_.2.1), (Kd.fresh' (Kd.R_lt (by (with_reducible repeat (first | apply Kd.R_alloc | apply Kd.R_drewN | apply Kd.R_drew)); exact HO262.out)) k_ hk_.2.1), (Kd.fresh' (Kd.R_lt (by (with_reducible repeat (first | apply Kd.R_alloc | apply Kd.R_drewN | apply Kd.R_drew)); exact HO265.out)) k_ hk_.2.1), (Kd.fresh' (Kd.R_lt (by (with_reducible repeat (first | apply Kd.R_alloc | apply Kd.R_drewN | apply Kd.R_drew)); exact HO269.out)) k_ hk_.2.1), (Kd.fresh' (Kd.R_lt (by (with_reducible repeat (first | apply Kd.R_alloc | apply Kd.R_drewN | apply Kd.R_drew)); exact HO272.out)) k_ hk_.2.1)⟩)) (below_size (by repeat (first | (with_reducible first | exact HB.out | apply below_alloc | apply pw_below_drewN | apply below_drew1) | exact HB.out)))); have n8_ := Aside0.mk (below_step (by repeat (first | (with_reducible first | exact HB.out | apply below_alloc | apply pw_below_drewN | apply below_drew1) | exact HB.out)) hb); clear HO252; clear HO255; clear HO259; clear HO262; clear HO265; clear HO269; clear HO272; clear HB; have HO252 := n0_; have HO255 := n1_; have HO259 := n2_; have HO262 := n3_; have HO265 := n4_; have HO269 := n5_; have HO272 := n6_; have HO276 := n7_; have HB := n8_; clear n0_ n1_ n2_ n3_ n4_ n5_ n6_ n7_ n8_; (try clear hb); (try clear hb2); (try clear hk); (try clear hi); (try clear ho0)) | ((with_reducible refine gate_dst (N := 36) rfl ?_); (try (refine gate_guard (by rfl) ?_; dsimp only)); refine Kd.R_lit k68 _ 68 ?hg (N := 36) ?hd (xs := ([(⟨0, 5⟩ : S68), (⟨5, 0⟩ : S68), (⟨0, (-5)⟩ : S68)] : List (S68))) (inner := [.int .i64 0, .int .i64 5, .int .i64 5, .int .i64 0, .int .i64 0, .int .i64 (-5)]) (ok := fun _ => True) (okp := fun _ => True) ?hr ?hp (fun _ hk => hk) trivial (Below.refl _ _) (Nat.le_refl _) (by simp) ?_; (case hd => rfl); (case hg => rfl); (case hr => first | (go_simp; done) | (go_simp; rfl)); (case hp => exact (Reps.c2 (show Kd.M k68 _ _ _ (⟨0, 5⟩ : S68) [.int .i64 0, .int .i64 5] from (k68_mkM _ _ _ (⟨0, 5⟩ : S68) )) (Reps.c2 (show Kd.M k68 _ _ _ (⟨5, 0⟩ : S68) [.int .i64 5, .int .i64 0] from (k68_mkM _ _ _ (⟨5, 0⟩ : S68) )) (Reps.c2 (show Kd.M k68 _ _ _ (⟨0, (-5)⟩ : S68) [.int .i64 0, .int .i64 (-5)] from (k68_mkM _ _ _ (⟨0, (-5)⟩ : S68) )) (Reps.none _ _))))); intro v278 w28 ho29 hb hg_ hnew_; clear hg_ hnew_; (first | rw [← Ny277.out] at ho29 | (simp only [Int.reduceToNat] at ho29; rw [← Ny277.out] at ho29)); have n0_ := Aside0.mk (Kd.R_below (by (with_reducible repeat (first | apply Kd.R_alloc | apply Kd.R_drewN | apply Kd.R_drew)); exact HO252.out) hb); have n1_ := Aside0.mk (Kd.R_below (by (with_reducible repeat (first | apply Kd.R_alloc | apply Kd.R_drewN | apply Kd.R_drew)); exact HO255.out) hb); have n2_ := Aside0.mk (Kd.R_below (by (with_reducible repeat (first | apply Kd.R_alloc | apply Kd.R_drewN | apply Kd.R_drew)); exact HO259.out) hb); have n3_ := Aside0.mk (Kd.R_below (by (with_reducible repeat (first | apply Kd.R_alloc | apply Kd.R_drewN | apply Kd.R_drew)); exact HO262.out) hb); have n4_ := Aside0.mk (Kd.R_below (by (with_reducible repeat (first | apply Kd.R_alloc | apply Kd.R_drewN | apply Kd.R_drew)); exact HO265.out) hb); have n5_ := Aside0.mk (Kd.R_below (by (with_reducible repeat (first | apply Kd.R_alloc | apply Kd.R_drewN | apply Kd.R_drew)); exact HO269.out) hb); have n6_ := Aside0.mk (Kd.R_below (by (with_reducible repeat (first | apply Kd.R_alloc | apply Kd.R_drewN | apply Kd.R_drew)); exact HO272.out) hb); have n7_ := Aside0.mk (Kd.N_elder' (by (with_reducible repeat (first | apply Kd.N_alloc | apply Kd.N_drewN | apply Kd.N_drew)); exact HO276.out) (Kd.R_base ho29) hb); have n8_ := Aside0.mk (Kd.R_lower ho29 (below_size (by repeat (first | (with_reducible first | exact HB.out | apply below_alloc | apply pw_below_drewN | apply below_drew1) | exact HB.out)))); have n9_ := Aside0.mk (below_step (by repeat (first | (with_reducible first | exact HB.out | apply below_alloc | apply pw_below_drewN | apply below_drew1) | exact HB.out)) hb); clear HO252; clear HO255; clear HO259; clear HO262; clear HO265; clear HO269; clear HO272; clear HO276; clear HB; have HO252 := n0_; have HO255 := n1_; have HO259 := n2_; have HO262 := n3_; have HO265 := n4_; have HO269 := n5_; have HO272 := n6_; have HO276 := n7_; have HO279 := n8_; have HB := n9_; clear n0_ n1_ n2_ n3_ n4_ n5_ n6_ n7_ n8_ n9_; clear hb ho29; obtain ⟨Ao30, co30, eo30⟩ := Kd.R_slice HO259.out; subst eo30; obtain ⟨Ao31, co31, eo31⟩ := Kd.R_slice HO279.out; subst eo31) | ((with_reducible refine gate_callee (f := 32) rfl ?_); refine goesL_ (some 37) rfl rfl Try.func32 (by kernel_rfl) rfl #[.slice Ao30 t256.length co30, .int .i64 t257, .slice Ao31 y277.length co31] rfl (by (try simp only [List.map_toArray, List.map_cons, List.map_nil]); first | done | rfl | (simp only [List.length_drop, List.length_take]; rfl)) ?_; (with_reducible refine (fringelaw41_has.calls k _ _ t256 t257 _ _ y277 true _ ?side1 ?side2 ?side3 ?side4 A8.out).mono ?_); (case side1 => repeat (first | exact (Kd.R_reads' HO259.out).2.2 | (with_reducible refine Kd.C_alloc ?_ _) | (with_reducible refine Kd.C_drewN ?_ _) | (with_reducible refine Kd.C_drew ?_))); (case side2 => exact (Kd.R_reads' HO259.out).2.1); (case side3 => repeat (first | exact (Kd.R_reads' HO279.out).2.2 | (with_reducible refine Kd.C_alloc ?_ _) | (with_reducible refine Kd.C_drewN ?_ _) | (with_reducible refine Kd.C_drew ?_))); (case side4 => exact (Kd.R_reads' HO279.out).2.1); rintro e w' ⟨rfl, ⟨nd, rfl⟩⟩; refine ⟨_, rfl, ?_⟩) | ((with_reducible refine gate_dst (N := 44) rfl ?_); (try (refine gate_guard (by rfl) ?_; dsimp only)); refine Kd.R_lit k68 _ 68 ?hg (N := 44) ?hd (xs := ([(⟨2, 5⟩ : S68), (⟨7, 0⟩ : S68), (⟨2, (-5)⟩ : S68)] : List (S68))) (inner := [.int .i64 2, .int .i64 5, .int .i64 7, .int .i64 0, .int .i64 2, .int .i64 (-5)]) (ok := fun _ => True) (okp := fun _ => True) ?hr ?hp (fun _ hk => hk) trivial (Below.refl _ _) (Nat.le_refl _) (by simp) ?_; (case hd => rfl); (case hg => rfl); (case hr => first | (go_simp; done) | (go_simp; rfl)); (case hp => exact (Reps.c2 (show Kd.M k68 _ _ _ (⟨2, 5⟩ : S68) [.int .i64 2, .int .i64 5] from (k68_mkM _ _ _ (⟨2, 5⟩ : S68) )) (Reps.c2 (show Kd.M k68 _ _ _ (⟨7, 0⟩ : S68) [.int .i64 7, .int .i64 0] from (k68_mkM _ _ _ (⟨7, 0⟩ : S68) )) (Reps.c2 (show Kd.M k68 _ _ _ (⟨2, (-5)⟩ : S68) [.int .i64 2, .int .i64 (-5)] from (k68_mkM _ _ _ (⟨2, (-5)⟩ : S68) )) (Reps.none _ _))))); intro v282 w32 ho33 hb hg_ hnew_; clear hg_ hnew_; (first | rw [← Ny281.out] at ho33 | (simp only [Int.reduceToNat] at ho33; rw [← Ny281.out] at ho33)); have n0_ := Aside0.mk (Kd.R_below (by (with_reducible repeat (first | apply Kd.R_alloc | apply Kd.R_drewN | apply Kd.R_drew)); exact HO252.out) hb); have n1_ := Aside0.mk (Kd.R_below (by (with_reducible repeat (first | apply Kd.R_alloc | apply Kd.R_drewN | apply Kd.R_drew)); exact HO255.out) hb); have n2_ := Aside0.mk (Kd.R_below (by (with_reducible repeat (first | apply Kd.R_alloc | apply Kd.R_drewN | apply Kd.R_drew)); exact HO259.out) hb); have n3_ := Aside0.mk (Kd.R_below (by (with_reducible repeat (first | apply Kd.R_alloc | apply Kd.R_drewN | apply Kd.R_drew)); exact HO262.out) hb); have n4_ := Aside0.mk (Kd.R_below (by (with_reducible repeat (first | apply Kd.R_alloc | apply Kd.R_drewN | apply Kd.R_drew)); exact HO265.out) hb); have n5_ := Aside0.mk (Kd.R_below (by (with_reducible repeat (first | apply Kd.R_alloc | apply Kd.R_drewN | apply Kd.R_drew)); exact HO269.out) hb); have n6_ := Aside0.mk (Kd.R_below (by (with_reducible repeat (first | apply Kd.R_alloc | apply Kd.R_drewN | apply Kd.R_drew)); exact HO272.out) hb); have n7_ := Aside0.mk (Kd.N_elder' (by (with_reducible repeat (first | apply Kd.N_alloc | apply Kd.N_drewN | apply Kd.N_drew)); exact HO276.out) (Kd.R_base ho33) hb); have n8_ := Aside0.mk (Kd.R_elder' (by (with_reducible repeat (first | apply Kd.R_alloc | apply Kd.R_drewN | apply Kd.R_drew)); exact HO279.out) (Kd.R_base ho33) hb); have n9_ := Aside0.mk (Kd.R_lower (Kd.R_new' ho33 (Kd.R_lt (by (with_reducible repeat (first | apply Kd.R_alloc | apply Kd.R_drewN | apply Kd.R_drew)); exact HO279.out))) (below_size (by repeat (first | (with_reducible first | exact HB.out | apply below_alloc | apply pw_below_drewN | apply below_drew1) | exact HB.out)))); have n10_ := Aside0.mk (below_step (by repeat (first | (with_reducible first | exact HB.out | apply below_alloc | apply pw_below_drewN | apply below_drew1) | exact HB.out)) hb); clear HO252; clear HO255; clear HO259; clear HO262; clear HO265; clear HO269; clear HO272; clear HO276; clear HO279; clear HB; have HO252 := n0_; have HO255 := n1_; have HO259 := n2_; have HO262 := n3_; have HO265 := n4_; have HO269 := n5_; have HO272 := n6_; have HO276 := n7_; have HO279 := n8_; have HO283 := n9_; have HB := n10_; clear n0_ n1_ n2_ n3_ n4_ n5_ n6_ n7_ n8_ n9_ n10_; clear hb ho33; obtain ⟨Ao34, co34, eo34⟩ := Kd.R_slice HO269.out; subst eo34; obtain ⟨Ao35, co35, eo35⟩ := Kd.R_slice HO283.out; subst eo35) | (go_at_call 32; (with_reducible refine (fringelaw41_has.calls k _ _ t266 t267 _ _ y281 true _ ?side1 ?side2 ?side3 ?side4 A10.out).mono ?_); (case side1 => repeat (first | exact (Kd.R_reads' HO269.out).2.2 | (with_reducible refine Kd.C_alloc ?_ _) | (with_reducible refine Kd.C_drewN ?_ _) | (with_reducible refine Kd.C_drew ?_))); (case side2 => exact (Kd.R_reads' HO269.out).2.1); (case side3 => repeat (first | exact (Kd.R_reads' HO283.out).2.2 | (with_reducible refine Kd.C_alloc ?_ _) | (with_reducible refine Kd.C_drewN ?_ _) | (with_reducible refine Kd.C_drew ?_))); (case side4 => exact (Kd.R_reads' HO283.out).2.1); rintro e w' ⟨rfl, ⟨nd, rfl⟩⟩) | ((with_reducible refine gate_dst (N := 53) rfl ?_); (try (refine gate_guard (by rfl) ?_; dsimp only)); refine Kd.R_lit (Kd.int .i64) _ 3 ?hg (N := 53) ?hd (xs := ([5, 15] : List Int)) (inner := [.int .i64 5, .int .i64 15]) (ok := fun _ => True) (okp := fun _ => True) ?hr ?hp (fun _ hk => hk) trivial (Below.refl _ _) (Nat.le_refl _) (by simp) ?_; (case hd => rfl); (case hg => rfl); (case hr => first | (go_simp; done) | (go_simp; rfl)); (case hp => exact (Reps.one (show Kd.M (Kd.int .i64) _ _ _ 5 [.int .i64 5] from rfl) (Reps.one (show Kd.M (Kd.int .i64) _ _ _ 15 [.int .i64 15] from rfl) (Reps.none _ _)))); intro v286 w36 ho37 hb hg_ hnew_; clear hg_ hnew_; (first | rw [← Ny285.out] at ho37 | (simp only [Int.reduceToNat] at ho37; rw [← Ny285.out] at ho37)); have n0_ := Aside0.mk (Kd.R_below (by (with_reducible repeat (first | apply Kd.R_alloc | apply Kd.R_drewN | apply Kd.R_drew)); exact HO252.out) hb); have n1_ := Aside0.mk (Kd.R_below (by (with_reducible repeat (first | apply Kd.R_alloc | apply Kd.R_drewN | apply Kd.R_drew)); exact HO255.out) hb); have n2_ := Aside0.mk (Kd.R_below (by (with_reducible repeat (first | apply Kd.R_alloc | apply Kd.R_drewN | apply Kd.R_drew)); exact HO259.out) hb); have n3_ := Aside0.mk (Kd.R_below (by (with_reducible repeat (first | apply Kd.R_alloc | apply Kd.R_drewN | apply Kd.R_drew)); exact HO262.out) hb); have n4_ := Aside0.mk (Kd.R_below (by (with_reducible repeat (first | apply Kd.R_alloc | apply Kd.R_drewN | apply Kd.R_drew)); exact HO265.out) hb); have n5_ := Aside0.mk (Kd.R_below (by (with_reducible repeat (first | apply Kd.R_alloc | apply Kd.R_drewN | apply Kd.R_drew)); exact HO269.out) hb); have n6_ := Aside0.mk (Kd.R_below (by (with_reducible repeat (first | apply Kd.R_alloc | apply Kd.R_drewN | apply Kd.R_drew)); exact HO272.out) hb); have n7_ := Aside0.mk (Kd.N_elder' (by (with_reducible repeat (first | apply Kd.N_alloc | apply Kd.N_drewN | apply Kd.N_drew)); exact HO276.out) (Kd.R_base ho37) hb); have n8_ := Aside0.mk (Kd.R_below (by (with_reducible repeat (first | apply Kd.R_alloc | apply Kd.R_drewN | apply Kd.R_drew)); exact HO279.out) hb); have n9_ := Aside0.mk (Kd.R_below (by (with_reducible repeat (first | apply Kd.R_alloc | apply Kd.R_drewN | apply Kd.R_drew)); exact HO283.out) hb); have n10_ := Aside0.mk (Kd.R_lower ho37 (below_size (by repeat (first | (with_reducible first | exact HB.out | apply below_alloc | apply pw_below_drewN | apply below_drew1) | exact HB.out)))); have n11_ := Aside0.mk (below_step (by repeat (first | (with_reducible first | exact HB.out | apply below_alloc | apply pw_below_drewN | apply below_drew1) | exact HB.out)) hb); clear HO252; clear HO255; clear HO259; clear HO262; clear HO265; clear HO269; clear HO272; clear HO276; clear HO279; clear HO283; clear HB; have HO252 := n0_; have HO255 := n1_; have HO259 := n2_; have HO262 := n3_; have HO265 := n4_; have HO269 := n5_; have HO272 := n6_; have HO276 := n7_; have HO279 := n8_; have HO283 := n9_; have HO287 := n10_; have HB := n11_; clear n0_ n1_ n2_ n3_ n4_ n5_ n6_ n7_ n8_ n9_ n10_ n11_; clear hb ho37) | ((with_reducible refine gate_dst (N := 54) rfl ?_); (try (refine gate_guard (by rfl) ?_; dsimp only)); refine Kd.R_lit (Kd.int .i64) _ 3 ?hg (N := 54) ?hd (xs := ([(-5), (-5)] : List Int)) (inner := [.int .i64 (-5), .int .i64 (-5)]) (ok := fun _ => True) (okp := fun _ => True) ?hr ?hp (fun _ hk => hk) trivial (Below.refl _ _) (Nat.le_refl _) (by simp) ?_; (case hd => rfl); (case hg => rfl); (case hr => first | (go_simp; done) | (go_simp; rfl)); (case hp => exact (Reps.one (show Kd.M (Kd.int .i64) _ _ _ (-5) [.int .i64 (-5)] from rfl) (Reps.one (show Kd.M (Kd.int .i64) _ _ _ (-5) [.int .i64 (-5)] from rfl) (Reps.none _ _)))); intro v289 w38 ho39 hb hg_ hnew_; clear hg_ hnew_; (first | rw [← Ny288.out] at ho39 | (simp only [Int.reduceToNat] at ho39; rw [← Ny288.out] at ho39)); have n0_ := Aside0.mk (Kd.R_below (by (with_reducible repeat (first | apply Kd.R_alloc | apply Kd.R_drewN | apply Kd.R_drew)); exact HO252.out) hb); have n1_ := Aside0.mk (Kd.R_below (by (with_reducible repeat (first | apply Kd.R_alloc | apply Kd.R_drewN | apply Kd.R_drew)); exact HO255.out) hb); have n2_ := Aside0.mk (Kd.R_below (by (with_reducible repeat (first | apply Kd.R_alloc | apply Kd.R_drewN | apply Kd.R_drew)); exact HO259.out) hb); have n3_ := Aside0.mk (Kd.R_below (by (with_reducible repeat (first | apply Kd.R_alloc | apply Kd.R_drewN | apply Kd.R_drew)); exact HO262.out) hb); have n4_ := Aside0.mk (Kd.R_below (by (with_reducible repeat (first | apply Kd.R_alloc | apply Kd.R_drewN | apply Kd.R_drew)); exact HO265.out) hb); have n5_ := Aside0.mk (Kd.R_below (by (with_reducible repeat (first | apply Kd.R_alloc | apply Kd.R_drewN | apply Kd.R_drew)); exact HO269.out) hb); have n6_ := Aside0.mk (Kd.R_below (by (with_reducible repeat (first | apply Kd.R_alloc | apply Kd.R_drewN | apply Kd.R_drew)); exact HO272.out) hb); have n7_ := Aside0.mk (Kd.N_elder' (by (with_reducible repeat (first | apply Kd.N_alloc | apply Kd.N_drewN | apply Kd.N_drew)); exact HO276.out) (Kd.R_base ho39) hb); have n8_ := Aside0.mk (Kd.R_below (by (with_reducible repeat (first | apply Kd.R_alloc | apply Kd.R_drewN | apply Kd.R_drew)); exact HO279.out) hb); have n9_ := Aside0.mk (Kd.R_below (by (with_reducible repeat (first | apply Kd.R_alloc | apply Kd.R_drewN | apply Kd.R_drew)); exact HO283.out) hb); have n10_ := Aside0.mk (Kd.R_elder' (by (with_reducible repeat (first | apply Kd.R_alloc | apply Kd.R_drewN | apply Kd.R_drew)); exact HO287.out) (Kd.R_base ho39) hb); have n11_ := Aside0.mk (Kd.R_lower (Kd.R_new' ho39 (Kd.R_lt (by (with_reducible repeat (first | apply Kd.R_alloc | apply Kd.R_drewN | apply Kd.R_drew)); exact HO287.out))) (below_size (by repeat (first | (with_reducible first | exact HB.out | apply below_alloc | apply pw_below_drewN | apply below_drew1) | exact HB.out)))); have n12_ := Aside0.mk (below_step (by repeat (first | (with_reducible first | exact HB.out | apply below_alloc | apply pw_below_drewN | apply below_drew1) | exact HB.out)) hb); clear HO252; clear HO255; clear HO259; clear HO262; clear HO265; clear HO269; clear HO272; clear HO276; clear HO279; clear HO283; clear HO287; clear HB; have HO252 := n0_; have HO255 := n1_; have HO259 := n2_; have HO262 := n3_; have HO265 := n4_; have HO269 := n5_; have HO272 := n6_; have HO276 := n7_; have HO279 := n8_; have HO283 := n9_; have HO287 := n10_; have HO290 := n11_; have HB := n12_; clear n0_ n1_ n2_ n3_ n4_ n5_ n6_ n7_ n8_ n9_ n10_ n11_ n12_; clear hb ho39; obtain ⟨Ao40, co40, eo40⟩ := Kd.R_slice HO287.out; subst eo40; obtain ⟨Ao41, co41, eo41⟩ := Kd.R_slice HO290.out; subst eo41) | ((with_reducible refine gate_dst (N := 55) rfl ?_); (try (refine gate_guard (by rfl) ?_; dsimp only)); refine Kd.N_lit (Kd.slice 3 (Kd.int .i64)) _ 53 ?hg (N' := 55) ?hd (xs := ([y285, y288] : List (List Int))) (inner := [.slice Ao40 y285.length co40, .slice Ao41 y288.length co41]) (ok := (fun k_ => some k_ ≠ (.slice Ao18 y250.length co18 : Value).ownBlock ∧ some k_ ≠ (.slice Ao17 t253.length co17 : Value).ownBlock ∧ some k_ ≠ (.slice Ao30 t256.length co30 : Value).ownBlock ∧ some k_ ≠ (.slice Ao22 t260.length co22 : Value).ownBlock ∧ some k_ ≠ (.slice Ao23 y263.length co23 : Value).ownBlock ∧ some k_ ≠ (.slice Ao34 t266.length co34 : Value).ownBlock ∧ some k_ ≠ (.slice Ao26 t270.length co26 : Value).ownBlock ∧ some k_ ≠ (v275 : Value).ownBlock ∧ some k_ ≠ (.slice Ao31 y277.length co31 : Value).ownBlock ∧ some k_ ≠ (.slice Ao35 y281.length co35 : Value).ownBlock)) (okp := (fun k_ => some k_ ≠ (.slice Ao18 y250.length co18 : Value).ownBlock ∧ some k_ ≠ (.slice Ao17 t253.length co17 : Value).ownBlock ∧ some k_ ≠ (.slice Ao30 t256.length co30 : Value).ownBlock ∧ some k_ ≠ (.slice Ao22 t260.length co22 : Value).ownBlock ∧ some k_ ≠ (.slice Ao23 y263.length co23 : Value).ownBlock ∧ some k_ ≠ (.slice Ao34 t266.length co34 : Value).ownBlock ∧ some k_ ≠ (.slice Ao26 t270.length co26 : Value).ownBlock ∧ some k_ ≠ (v275 : Value).ownBlock ∧ some k_ ≠ (.slice Ao31 y277.length co31 : Value).ownBlock ∧ some k_ ≠ (.slice Ao35 y281.length co35 : Value).ownBlock)) ?hr ?hp (fun _ hk => hk) ((show ∀ k_, w38.heap.size ≤ k_ → (fun k_ => some k_ ≠ (.slice Ao18 y250.length co18 : Value).ownBlock ∧ some k_ ≠ (.slice Ao17 t253.length co17 : Value).ownBlock ∧ some k_ ≠ (.slice Ao30 t256.length co30 : Value).ownBlock ∧ some k_ ≠ (.slice Ao22 t260.length co22 : Value).ownBlock ∧ some k_ ≠ (.slice Ao23 y263.length co23 : Value).ownBlock ∧ some k_ ≠ (.slice Ao34 t266.length co34 : Value).ownBlock ∧ some k_ ≠ (.slice Ao26 t270.length co26 : Value).ownBlock ∧ some k_ ≠ (v275 : Value).ownBlock ∧ some k_ ≠ (.slice Ao31 y277.length co31 : Value).ownBlock ∧ some k_ ≠ (.slice Ao35 y281.length co35 : Value).ownBlock) k_ from fun k_ hk => ⟨Kd.fresh' (Kd.R_lt (by (with_reducible repeat (first | apply Kd.R_alloc | apply Kd.R_drewN | apply Kd.R_drew)); exact HO252.out)) k_ hk, Kd.fresh' (Kd.R_lt (by (with_reducible repeat (first | apply Kd.R_alloc | apply Kd.R_drewN | apply Kd.R_drew)); exact HO255.out)) k_ hk, Kd.fresh' (Kd.R_lt (by (with_reducible repeat (first | apply Kd.R_alloc | apply Kd.R_drewN | apply Kd.R_drew)); exact HO259.out)) k_ hk, Kd.fresh' (Kd.R_lt (by (with_reducible repeat (first | apply Kd.R_alloc | apply Kd.R_drewN | apply Kd.R_drew)); exact HO262.out)) k_ hk, Kd.fresh' (Kd.R_lt (by (with_reducible repeat (first | apply Kd.R_alloc | apply Kd.R_drewN | apply Kd.R_drew)); exact HO265.out)) k_ hk, Kd.fresh' (Kd.R_lt (by (with_reducible repeat (first | apply Kd.R_alloc | apply Kd.R_drewN | apply Kd.R_drew)); exact HO269.out)) k_ hk, Kd.fresh' (Kd.R_lt (by (with_reducible repeat (first | apply Kd.R_alloc | apply Kd.R_drewN | apply Kd.R_drew)); exact HO272.out)) k_ hk, Kd.fresh' (Kd.N_lt (by (with_reducible repeat (first | apply Kd.N_alloc | apply Kd.N_drewN | apply Kd.N_drew)); exact HO276.out)) k_ hk, Kd.fresh' (Kd.R_lt (by (with_reducible repeat (first | apply Kd.R_alloc | apply Kd.R_drewN | apply Kd.R_drew)); exact HO279.out)) k_ hk, Kd.fresh' (Kd.R_lt (by (with_reducible repeat (first | apply Kd.R_alloc | apply Kd.R_drewN | apply Kd.R_drew)); exact HO283.out)) k_ hk⟩) _ (Nat.le_refl _)) (Below.refl _ _) (Nat.le_refl _) (by simp) ?_; (case hd => rfl); (case hg => rfl); (case hr => first | (go_simp; done) | (go_simp; rfl)); (case hp => exact (Reps.one (show Kd.FK (Kd.slice 3 (Kd.int .i64)) _ _ y285 [.slice Ao40 y285.length co40] from (Kd.FK_slice_mk (Kd.R_reads' (Kd.R_mono (ok' := (fun k_ => some k_ ≠ (.slice Ao18 y250.length co18 : Value).ownBlock ∧ some k_ ≠ (.slice Ao17 t253.length co17 : Value).ownBlock ∧ some k_ ≠ (.slice Ao30 t256.length co30 : Value).ownBlock ∧ some k_ ≠ (.slice Ao22 t260.length co22 : Value).ownBlock ∧ some k_ ≠ (.slice Ao23 y263.length co23 : Value).ownBlock ∧ some k_ ≠ (.slice Ao34 t266.length co34 : Value).ownBlock ∧ some k_ ≠ (.slice Ao26 t270.length co26 : Value).ownBlock ∧ some k_ ≠ (v275 : Value).ownBlock ∧ some k_ ≠ (.slice Ao31 y277.length co31 : Value).ownBlock ∧ some k_ ≠ (.slice Ao35 y281.length co35 : Value).ownBlock)) (Kd.R_apart' (Kd.R_apart' (Kd.R_apart' (Kd.R_apart' (Kd.R_apart' (Kd.R_apart' (Kd.R_apart' (Kd.R_apart' (Kd.R_apart' (Kd.R_apart' (HO287.out) (Kd.R_typed HO252.out) (by decide)) (Kd.R_typed HO255.out) (by decide)) (Kd.R_typed HO259.out) (by decide)) (Kd.R_typed HO262.out) (by decide)) (Kd.R_typed HO265.out) (by decide)) (Kd.R_typed HO269.out) (by decide)) (Kd.R_typed HO272.out) (by decide)) (Kd.N_typed HO276.out) (by decide)) (Kd.R_typed HO279.out) (by decide)) (Kd.R_typed HO283.out) (by decide)) (fun k_ hk => ⟨hk.1.1.1.1.1.1.1.1.1.2, ⟨hk.1.1.1.1.1.1.1.1.2, ⟨hk.1.1.1.1.1.1.1.2, ⟨hk.1.1.1.1.1.1.2, ⟨hk.1.1.1.1.1.2, ⟨hk.1.1.1.1.2, ⟨hk.1.1.1.2, ⟨hk.1.1.2, ⟨hk.1.2, hk.2⟩⟩⟩⟩⟩⟩⟩⟩⟩))).2.1 (Kd.R_F (Kd.R_mono (ok' := (fun k_ => some k_ ≠ (.slice Ao18 y250.length co18 : Value).ownBlock ∧ some k_ ≠ (.slice Ao17 t253.length co17 : Value).ownBlock ∧ some k_ ≠ (.slice Ao30 t256.length co30 : Value).ownBlock ∧ some k_ ≠ (.slice Ao22 t260.length co22 : Value).ownBlock ∧ some k_ ≠ (.slice Ao23 y263.length co23 : Value).ownBlock ∧ some k_ ≠ (.slice Ao34 t266.length co34 : Value).ownBlock ∧ some k_ ≠ (.slice Ao26 t270.length co26 : Value).ownBlock ∧ some k_ ≠ (v275 : Value).ownBlock ∧ some k_ ≠ (.slice Ao31 y277.length co31 : Value).ownBlock ∧ some k_ ≠ (.slice Ao35 y281.length co35 : Value).ownBlock)) (Kd.R_apart' (Kd.R_apart' (Kd.R_apart' (Kd.R_apart' (Kd.R_apart' (Kd.R_apart' (Kd.R_apart' (Kd.R_apart' (Kd.R_apart' (Kd.R_apart' (HO287.out) (Kd.R_typed HO252.out) (by decide)) (Kd.R_typed HO255.out) (by decide)) (Kd.R_typed HO259.out) (by decide)) (Kd.R_typed HO262.out) (by decide)) (Kd.R_typed HO265.out) (by decide)) (Kd.R_typed HO269.out) (by decide)) (Kd.R_typed HO272.out) (by decide)) (Kd.N_typed HO276.out) (by decide)) (Kd.R_typed HO279.out) (by decide)) (Kd.R_typed HO283.out) (by decide)) (fun k_ hk => ⟨hk.1.1.1.1.1.1.1.1.1.2, ⟨hk.1.1.1.1.1.1.1.1.2, ⟨hk.1.1.1.1.1.1.1.2, ⟨hk.1.1.1.1.1.1.2, ⟨hk.1.1.1.1.1.2, ⟨hk.1.1.1.1.2, ⟨hk.1.1.1.2, ⟨hk.1.1.2, ⟨hk.1.2, hk.2⟩⟩⟩⟩⟩⟩⟩⟩⟩))))) (Reps.one (show Kd.FK (Kd.slice 3 (Kd.int .i64)) _ _ y288 [.slice Ao41 y288.length co41] from (Kd.FK_slice_mk (Kd.R_reads' (Kd.R_mono (ok' := (fun k_ => some k_ ≠ (.slice Ao18 y250.length co18 : Value).ownBlock ∧ some k_ ≠ (.slice Ao17 t253.length co17 : Value).ownBlock ∧ some k_ ≠ (.slice Ao30 t256.length co30 : Value).ownBlock ∧ some k_ ≠ (.slice Ao22 t260.length co22 : Value).ownBlock ∧ some k_ ≠ (.slice Ao23 y263.length co23 : Value).ownBlock ∧ some k_ ≠ (.slice Ao34 t266.length co34 : Value).ownBlock ∧ some k_ ≠ (.slice Ao26 t270.length co26 : Value).ownBlock ∧ some k_ ≠ (v275 : Value).ownBlock ∧ some k_ ≠ (.slice Ao31 y277.length co31 : Value).ownBlock ∧ some k_ ≠ (.slice Ao35 y281.length co35 : Value).ownBlock)) (Kd.R_apart' (Kd.R_apart' (Kd.R_apart' (Kd.R_apart' (Kd.R_apart' (Kd.R_apart' (Kd.R_apart' (Kd.R_apart' (Kd.R_apart' (Kd.R_apart' (HO290.out) (Kd.R_typed HO252.out) (by decide)) (Kd.R_typed HO255.out) (by decide)) (Kd.R_typed HO259.out) (by decide)) (Kd.R_typed HO262.out) (by decide)) (Kd.R_typed HO265.out) (by decide)) (Kd.R_typed HO269.out) (by decide)) (Kd.R_typed HO272.out) (by decide)) (Kd.N_typed HO276.out) (by decide)) (Kd.R_typed HO279.out) (by decide)) (Kd.R_typed HO283.out) (by decide)) (fun k_ hk => ⟨hk.1.1.1.1.1.1.1.1.1.2, ⟨hk.1.1.1.1.1.1.1.1.2, ⟨hk.1.1.1.1.1.1.1.2, ⟨hk.1.1.1.1.1.1.2, ⟨hk.1.1.1.1.1.2, ⟨hk.1.1.1.1.2, ⟨hk.1.1.1.2, ⟨hk.1.1.2, ⟨hk.1.2, hk.2⟩⟩⟩⟩⟩⟩⟩⟩⟩))).2.1 (Kd.R_F (Kd.R_mono (ok' := (fun k_ => some k_ ≠ (.slice Ao18 y250.length co18 : Value).ownBlock ∧ some k_ ≠ (.slice Ao17 t253.length co17 : Value).ownBlock ∧ some k_ ≠ (.slice Ao30 t256.length co30 : Value).ownBlock ∧ some k_ ≠ (.slice Ao22 t260.length co22 : Value).ownBlock ∧ some k_ ≠ (.slice Ao23 y263.length co23 : Value).ownBlock ∧ some k_ ≠ (.slice Ao34 t266.length co34 : Value).ownBlock ∧ some k_ ≠ (.slice Ao26 t270.length co26 : Value).ownBlock ∧ some k_ ≠ (v275 : Value).ownBlock ∧ some k_ ≠ (.slice Ao31 y277.length co31 : Value).ownBlock ∧ some k_ ≠ (.slice Ao35 y281.length co35 : Value).ownBlock)) (Kd.R_apart' (Kd.R_apart' (Kd.R_apart' (Kd.R_apart' (Kd.R_apart' (Kd.R_apart' (Kd.R_apart' (Kd.R_apart' (Kd.R_apart' (Kd.R_apart' (HO290.out) (Kd.R_typed HO252.out) (by decide)) (Kd.R_typed HO255.out) (by decide)) (Kd.R_typed HO259.out) (by decide)) (Kd.R_typed HO262.out) (by decide)) (Kd.R_typed HO265.out) (by decide)) (Kd.R_typed HO269.out) (by decide)) (Kd.R_typed HO272.out) (by decide)) (Kd.N_typed HO276.out) (by decide)) (Kd.R_typed HO279.out) (by decide)) (Kd.R_typed HO283.out) (by decide)) (fun k_ hk => ⟨hk.1.1.1.1.1.1.1.1.1.2, ⟨hk.1.1.1.1.1.1.1.1.2, ⟨hk.1.1.1.1.1.1.1.2, ⟨hk.1.1.1.1.1.1.2, ⟨hk.1.1.1.1.1.2, ⟨hk.1.1.1.1.2, ⟨hk.1.1.1.2, ⟨hk.1.1.2, ⟨hk.1.2, hk.2⟩⟩⟩⟩⟩⟩⟩⟩⟩))))) (Reps.none _ _)))); intro v292 w42 ho43 hb hg_ hnew_; clear hg_ hnew_; (first | rw [← Ny291.out] at ho43 | (simp only [Int.reduceToNat] at ho43; rw [← Ny291.out] at ho43)); have n0_ := Aside0.mk (Kd.R_below (by (with_reducible repeat (first | apply Kd.R_alloc | apply Kd.R_drewN | apply Kd.R_drew)); exact HO252.out) hb); have n1_ := Aside0.mk (Kd.R_below (by (with_reducible repeat (first | apply Kd.R_alloc | apply Kd.R_drewN | apply Kd.R_drew)); exact HO255.out) hb); have n2_ := Aside0.mk (Kd.R_below (by (with_reducible repeat (first | apply Kd.R_alloc | apply Kd.R_drewN | apply Kd.R_drew)); exact HO259.out) hb); have n3_ := Aside0.mk (Kd.R_below (by (with_reducible repeat (first | apply Kd.R_alloc | apply Kd.R_drewN | apply Kd.R_drew)); exact HO262.out) hb); have n4_ := Aside0.mk (Kd.R_below (by (with_reducible repeat (first | apply Kd.R_alloc | apply Kd.R_drewN | apply Kd.R_drew)); exact HO265.out) hb); have n5_ := Aside0.mk (Kd.R_below (by (with_reducible repeat (first | apply Kd.R_alloc | apply Kd.R_drewN | apply Kd.R_drew)); exact HO269.out) hb); have n6_ := Aside0.mk (Kd.R_below (by (with_reducible repeat (first | apply Kd.R_alloc | apply Kd.R_drewN | apply Kd.R_drew)); exact HO272.out) hb); have n7_ := Aside0.mk (Kd.N_elder' (by (with_reducible repeat (first | apply Kd.N_alloc | apply Kd.N_drewN | apply Kd.N_drew)); exact HO276.out) (Kd.N_base ho43) hb); have n8_ := Aside0.mk (Kd.R_below (by (with_reducible repeat (first | apply Kd.R_alloc | apply Kd.R_drewN | apply Kd.R_drew)); exact HO279.out) hb); have n9_ := Aside0.mk (Kd.R_below (by (with_reducible repeat (first | apply Kd.R_alloc | apply Kd.R_drewN | apply Kd.R_drew)); exact HO283.out) hb); have n10_ := Aside0.mk (Kd.N_lower ho43 (below_size (by repeat (first | (with_reducible first | exact HB.out | apply below_alloc | apply pw_below_drewN | apply below_drew1) | exact HB.out)))); have n11_ := Aside0.mk (below_step (by repeat (first | (with_reducible first | exact HB.out | apply below_alloc | apply pw_below_drewN | apply below_drew1) | exact HB.out)) hb); clear HO252; clear HO255; clear HO259; clear HO262; clear HO265; clear HO269; clear HO272; clear HO276; clear HO279; clear HO283; clear HB; clear HO287; clear HO290; have HO252 := n0_; have HO255 := n1_; have HO259 := n2_; have HO262 := n3_; have HO265 := n4_; have HO269 := n5_; have HO272 := n6_; have HO276 := n7_; have HO279 := n8_; have HO283 := n9_; have HO293 := n10_; have HB := n11_; clear n0_ n1_ n2_ n3_ n4_ n5_ n6_ n7_ n8_ n9_ n10_ n11_; clear hb ho43; obtain ⟨Ao44, co44, eo44⟩ := Kd.N_slice HO276.out; subst eo44; obtain ⟨Ao45, co45, eo45⟩ := Kd.N_slice HO293.out; subst eo45) | (go_at_call 30; (with_reducible refine (fringeref41_SameImage.calls k _ _ t273 _ _ y291 t294 _ ?side1 ?side2 ?side3 ?side4 A13.out).mono ?_); (case side1 => repeat (first | exact (Kd.N_reads' HO276.out).2.2 | (with_reducible refine Kd.C_alloc ?_ _) | (with_reducible refine Kd.C_drewN ?_ _) | (with_reducible refine Kd.C_drew ?_))); (case side2 => exact (Kd.N_reads' HO276.out).2.1); (case side3 => repeat (first | exact (Kd.N_reads' HO293.out).2.2 | (with_reducible refine Kd.C_alloc ?_ _) | (with_reducible refine Kd.C_drewN ?_ _) | (with_reducible refine Kd.C_drew ?_))); (case side4 => exact (Kd.N_reads' HO293.out).2.1); rintro e w' ⟨rfl, ⟨nd, rfl⟩⟩))
     go_ret
     exact ⟨by first | rfl | (rw [hend.out]; done) | (simp only [hend.out]; done) | (simp [*]; first | exact hend.out | exact eq_of_beq hend.out | exact of_decide_eq_true hend.out) | (have h_ := hend.out; simp_all; done) | (simp [*, errW_none, errW_some] <;> rfl), by repeat (first | (with_reducible first | exact HB.out | apply below_alloc | apply pw_below_drewN | apply below_drew1) | exact HB.out)⟩
    ·rw [if_neg c12] at H
     have c12b0 : (t274 == 0) = false := beq_eq_false_iff_ne.mpr c12
     have c12b1 : (t274 != 0) = true := bne_iff_ne.mpr c12
     exact absurd H (by simp)
   ·replace c11 := Bool.eq_false_iff.mpr c11
    subst c11
    rw [if_neg (show ¬ (false = true) by decide)] at H
    exact absurd H (by simp)
  ·replace c9 := Bool.eq_false_iff.mpr c9
   subst c9
   rw [if_neg (show ¬ (false = true) by decide)] at H
   exact absurd H (by simp)
 ·rw [if_neg c4] at H
  exact absurd H (by simp)

theorem fringelaw41_alive.only {k : Nat} {r : Bool} (h : fringelaw41_alive.f k  = some r) : r = true := at_only fringelaw41_alive.mono (K := 120) (by kernel_rfl) h
theorem fringelaw41_alive.calls (k : Nat)  (r : Bool) (w : World) (h : fringelaw41_alive.f k  = some r) :
  Calls Try.prog 16 #[] w fun e w' => e = .returned (.bool r) ∧ Below w.heap.size w w' := by
 have hr := fringelaw41_alive.only h
 subst hr
 exact fringelaw41_alive.callsT k w h

end Go.Proofs.Ytihmhcdcbcleeaa.Q
