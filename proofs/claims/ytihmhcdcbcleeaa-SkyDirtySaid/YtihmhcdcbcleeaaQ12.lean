-- Written by qprint.py (a program of this session) over the program of the kit that prints contracts. Not trusted: Lean checks it.
import Derived.Test.YtihmhcdcbcleeaaQ0
import Derived.Test.YtihmhcdcbcleeaaQ3
import Derived.Test.YtihmhcdcbcleeaaQ4
import Derived.Test.YtihmhcdcbcleeaaQ9
import Derived.Test.YtihmhcdcbcleeaaQ10
import Derived.Test.YtihmhcdcbcleeaaQ11
namespace Go.Proofs.Ytihmhcdcbcleeaa.Q
open Go.RowKit Go.Proofs.YtihmhcdcbcleeaaW.PrintWords Go.Proofs.YtihmhcdcbcleeaaW.PrintLast Go.Proofs.YtihmhcdcbcleeaaW.PrintMore
attribute [local go_sem] max2_int min2_int max_two min_two max_three min_three max_four min_four   -- for this text's walks alone
set_option linter.unusedVariables false
set_option linter.unusedSimpArgs false

attribute [local go_sem high] eqA47
/-! ### fringelaw41_given: function 31 -/
def fringelaw41_given.f  : Option ((List (S41))) := some (([(⟨0, 0⟩ : S41), (⟨1, 0⟩ : S41), (⟨0, 2⟩ : S41)] : List (S41)))
set_option maxHeartbeats 8000000 in
set_option maxRecDepth 100000 in
theorem fringelaw41_given.calls  (r : List (S41)) (w : World) (h : fringelaw41_given.f  = some r) :
  Calls Try.prog 31 #[] w fun e w' => ∃ v0_ : Value, e = .returned (v0_) ∧ Kd.R k41 41 w' w.heap.size (fun _ => True) v0_ r ∧ Below w.heap.size w w' := by
 have hu41 := Try.underlying41
 have HB := Aside0.mk (Below.refl w.heap.size w)
 have H : (some (([(⟨0, 0⟩ : S41), (⟨1, 0⟩ : S41), (⟨0, 2⟩ : S41)] : List (S41)))) = some r := h
 clear h
 obtain ⟨y224, hy224⟩ : ∃ y_ : List (S41), y_ = (([(⟨0, 0⟩ : S41), (⟨1, 0⟩ : S41), (⟨0, 2⟩ : S41)] : List (S41))) := ⟨_, rfl⟩
 replace H : (some y224) = some r := by first | (rw [hy224]; with_reducible exact H) | (have H2_ := (Option.bind_some _ _).symm.trans H; rw [hy224]; with_reducible exact H2_) | (have H2_ := (Option.bind_some _ _).symm.trans H; with_reducible exact H2_) | with_reducible exact H | (rw [hy224]; exact H) | exact H
 have Ny224 := Aside0.mk hy224
 clear hy224
 obtain rfl := Option.some.inj H
 go_enter Try.func31, Try.ntmps31
 go_wp2_with (first | ((with_reducible refine gate_dst (N := 4) rfl ?_); refine Kd.R_lit k41 _ 41 ?hg (N := 4) ?hd (xs := ([(⟨0, 0⟩ : S41), (⟨1, 0⟩ : S41), (⟨0, 2⟩ : S41)] : List (S41))) (inner := [.int .i64 0, .int .i64 0, .int .i64 1, .int .i64 0, .int .i64 0, .int .i64 2]) (ok := fun _ => True) (okp := fun _ => True) ?hr ?hp (fun _ hk => hk) trivial (Below.refl _ _) (Nat.le_refl _) (by simp) ?_; (case hd => rfl); (case hg => rfl); (case hr => first | (go_simp; done) | (go_simp; rfl)); (case hp => exact (Reps.c2 (show Kd.M k41 _ _ _ (⟨0, 0⟩ : S41) [.int .i64 0, .int .i64 0] from (k41_mkM _ _ _ (⟨0, 0⟩ : S41) )) (Reps.c2 (show Kd.M k41 _ _ _ (⟨1, 0⟩ : S41) [.int .i64 1, .int .i64 0] from (k41_mkM _ _ _ (⟨1, 0⟩ : S41) )) (Reps.c2 (show Kd.M k41 _ _ _ (⟨0, 2⟩ : S41) [.int .i64 0, .int .i64 2] from (k41_mkM _ _ _ (⟨0, 2⟩ : S41) )) (Reps.none _ _))))); intro v225 w1 ho2 hb hg_ hnew_; clear hg_ hnew_; (first | rw [← Ny224.out] at ho2 | (simp only [Int.reduceToNat] at ho2; rw [← Ny224.out] at ho2)); have n0_ := Aside0.mk (Kd.R_lower ho2 (below_size (by repeat (first | (with_reducible first | exact HB.out | apply below_alloc | apply pw_below_drewN | apply below_drew1) | exact HB.out)))); have n1_ := Aside0.mk (below_step (by repeat (first | (with_reducible first | exact HB.out | apply below_alloc | apply pw_below_drewN | apply below_drew1) | exact HB.out)) hb); clear HB; have HO226 := n0_; have HB := n1_; clear n0_ n1_; clear hb ho2))
 go_ret
 exact ⟨_, by first | rfl | (simp [errW_none, errW_some] <;> rfl) | (simp [*, errW_none, errW_some] <;> rfl), by (with_reducible repeat (first | apply Kd.R_alloc | apply Kd.R_drewN | apply Kd.R_drew)); exact HO226.out, by repeat (first | (with_reducible first | exact HB.out | apply below_alloc | apply pw_below_drewN | apply below_drew1) | exact HB.out)⟩

/-! ### fringelaw41_has: function 32 -/
mutual
def fringelaw41_has.j0 : Nat → List (S47) → List (S68) → Bool → Option (Bool)
 | 0, _, _, _ => none
 | k + 1, x0, x2, x16 => if x16 = true then (some false) else (fringelaw41_has.l0 k x0 x2 0)
def fringelaw41_has.l0 : Nat → List (S47) → List (S68) → Int → Option (Bool)
 | 0, _, _, _ => none
 | k + 1, x0, x2, x7 => if x7 < 3 then (if 0 ≤ x7 then (if x7 < (x0.length : Int) then (if x7 < (x2.length : Int) then (if (!(((rd_T47 x0 x7).f0) == (wrap64 (Int.tdiv x7 2))) || (!(((rd_T47 x0 x7).f1) == (wrap64 (1 + (wrap64 (Int.tdiv (wrap64 (x7 + 1)) 2))))) || ((!(((rd_T47 x0 x7).f2.f0) == ((rd_T68 x2 x7).f0)) || (!(((rd_T47 x0 x7).f2.f1) == ((rd_T68 x2 x7).f1)) || (!(((rd_T47 x0 x7).f2.f2) == 1)))) || (!(((rd_T47 x0 x7).f3) == 1))))) = true then (some false) else (fringelaw41_has.l0 k x0 x2 (wrap64 (x7 + 1)))) else (none)) else (none)) else (none)) else (some true)
end
def fringelaw41_has.f (k : Nat) (l0 : List (S47)) (a1 : Int) (l2 : List (S68)) : Option (Bool) := if a1 = 0 then (fringelaw41_has.j0 k l0 l2 ((l0.length : Int) != 3)) else (fringelaw41_has.j0 k l0 l2 true)
theorem fringelaw41_has.mono_l : ∀ k, (∀ y0 y1 y2, LeO (fringelaw41_has.j0 k y0 y1 y2) (fringelaw41_has.j0 (k + 1) y0 y1 y2)) ∧ (∀ y0 y1 y2, LeO (fringelaw41_has.l0 k y0 y1 y2) (fringelaw41_has.l0 (k + 1) y0 y1 y2))
 | 0 => ⟨fun _ _ _ r h => by simp [fringelaw41_has.j0] at h, fun _ _ _ r h => by simp [fringelaw41_has.l0] at h⟩
 | k + 1 => by
  obtain ⟨ih0, ih1⟩ := fringelaw41_has.mono_l k
  refine ⟨?_, ?_⟩
  ·intro y0 y1 y2
   unfold fringelaw41_has.j0
   repeat' first
   | (with_reducible exact ih0 _ _ _)
   | (with_reducible exact ih1 _ _ _)
   | (with_reducible exact LeO.refl _)
   | (with_reducible exact LeO.none _)
   | (with_reducible refine LeO.ite ?_ ?_)
   | (with_reducible refine LeO.bind ?_ (fun _ => ?_))
   | exact ih0 _ _ _
   | exact ih1 _ _ _
   | exact LeO.none _
   | refine LeO.ite ?_ ?_
   | refine LeO.bind ?_ (fun _ => ?_)
  ·intro y0 y1 y2
   unfold fringelaw41_has.l0
   repeat' first
   | (with_reducible exact ih0 _ _ _)
   | (with_reducible exact ih1 _ _ _)
   | (with_reducible exact LeO.refl _)
   | (with_reducible exact LeO.none _)
   | (with_reducible refine LeO.ite ?_ ?_)
   | (with_reducible refine LeO.bind ?_ (fun _ => ?_))
   | exact ih0 _ _ _
   | exact ih1 _ _ _
   | exact LeO.none _
   | refine LeO.ite ?_ ?_
   | refine LeO.bind ?_ (fun _ => ?_)
theorem fringelaw41_has.mono : ∀ a0 a1 a2 k, LeO (fringelaw41_has.f k a0 a1 a2) (fringelaw41_has.f (k + 1) a0 a1 a2) := by
 intro a0 a1 a2 k
 obtain ⟨ih0, ih1⟩ := fringelaw41_has.mono_l k
 unfold fringelaw41_has.f
 repeat' first
   | (with_reducible exact ih0 _ _ _)
   | (with_reducible exact ih1 _ _ _)
   | (with_reducible exact LeO.refl _)
   | (with_reducible exact LeO.none _)
   | (with_reducible refine LeO.ite ?_ ?_)
   | (with_reducible refine LeO.bind ?_ (fun _ => ?_))
   | exact ih0 _ _ _
   | exact ih1 _ _ _
   | exact LeO.none _
   | refine LeO.ite ?_ ?_
   | refine LeO.bind ?_ (fun _ => ?_)
set_option maxHeartbeats 8000000 in
set_option maxRecDepth 100000 in
theorem fringelaw41_has.calls (k : Nat) (A0 : Option Addr) (c0 : Nat) (l0 : List (S47)) (a1 : Int) (A2 : Option Addr) (c2 : Nat) (l2 : List (S68)) (r : Bool) (w : World) (hr0 : Kd.C k47 w A0 l0.length l0) (hc0 : l0.length ≤ c0) (hr2 : Kd.C k68 w A2 l2.length l2) (hc2 : l2.length ≤ c2) (h : fringelaw41_has.f k l0 a1 l2 = some r) :
  Calls Try.prog 32 #[.slice A0 l0.length c0, .int .i64 a1, .slice A2 l2.length c2] w fun e w' => e = .returned (.bool r) ∧ Drawn0 w w' := by
 have hu47 := Try.underlying47
 have hu45 := Try.underlying45
 have HR0 := Aside0.mk hr0
 have HC0 := Aside0.mk hc0
 clear hr0 hc0
 have HR2 := Aside0.mk hr2
 have HC2 := Aside0.mk hc2
 clear hr2 hc2
 have H : (if a1 = 0 then (fringelaw41_has.j0 k l0 l2 ((l0.length : Int) != 3)) else (fringelaw41_has.j0 k l0 l2 true)) = some r := h
 clear h
 have HC4 := Aside0.mk H
 clear H
 go_enter Try.func32, Try.ntmps32
 go_upto_region 1 with (fail)
 repeat (go_quiet (fail); go_upto_region 1 with (fail))
 go_cut [16] (fun v16 wc => ∃ (kq : Nat) (x16_3 : Bool), v16 = .bool x16_3 ∧ Aside0 (fringelaw41_has.j0 kq l0 l2 x16_3 = some r) ∧ Aside0 (kq ≤ k) ∧ Drawn0 w wc)
 case first =>
  have H := HC4.out
  clear HC4
  by_cases c5 : a1 = 0
  ·rw [if_pos c5] at H
   have c5b0 : (a1 == 0) = true := beq_iff_eq.mpr c5
   have c5b1 : (a1 != 0) = false := bne_eq_false_iff_eq.mpr c5
   clear c5
   (first | rw [c5b0] | (simp only [i64_w, i32_w]; rw [c5b0]) | skip)
   have H' := Aside0.mk H
   clear H
   go_wp2
   repeat (go_quiet (fail); try go_wp2)
   go_meet
   case rel => exact ⟨_, (((l0.length : Int) != 3)), (by first | rfl | (simp; done) | (simp [*]; done)), H', ⟨by first | omega | exact Nat.le_refl _⟩, by repeat (first | exact Drawn0.refl _ | apply Drawn0.step)⟩
  ·rw [if_neg c5] at H
   have c5b0 : (a1 == 0) = false := beq_eq_false_iff_ne.mpr c5
   have c5b1 : (a1 != 0) = true := bne_iff_ne.mpr c5
   (first | rw [c5b0] | (simp only [i64_w, i32_w]; rw [c5b0]) | skip)
   have H' := Aside0.mk H
   clear H
   go_wp2
   repeat (go_quiet (fail); try go_wp2)
   go_meet
   case rel => exact ⟨_, (true), (by first | rfl | (simp; done) | (simp [*]; done)), H', ⟨by first | omega | exact Nat.le_refl _⟩, by repeat (first | exact Drawn0.refl _ | apply Drawn0.step)⟩
 case rest =>
  clear HC4
  try clear c2
  try clear p2
  try clear c3
  try clear c5
  try clear c5b0
  try clear c5b1
  obtain ⟨kq, x16_3, rfl, HA, HJ3, ⟨mc3, rfl⟩⟩ := hcut
  cases kq with
  | zero => exact absurd HA.out (by simp [fringelaw41_has.j0])
  | succ kj3 =>
   have H := HA.out
   clear HA
   simp only [fringelaw41_has.j0] at H
   by_cases c6 : x16_3 = true
   ·subst c6
    have H1 : (some false) = some r := by first | (with_reducible rfl) | (rw [if_pos rfl] at H; exact H)
    clear H
    have H := H1
    clear H1
    obtain rfl := Option.some.inj H
    go_wp2
    repeat (go_quiet (fail); try go_wp2)
    go_ret
    exact ⟨by first | rfl | (simp; done) | (simp [*]; done), by repeat (first | exact Drawn0.refl _ | apply Drawn0.step)⟩
   ·replace c6 := Bool.eq_false_iff.mpr c6
    subst c6
    have H1 : (fringelaw41_has.l0 kj3 l0 l2 0) = some r := by first | (with_reducible rfl) | (rw [if_neg (show ¬ (false = true) by decide)] at H; exact H)
    clear H
    have H := H1
    clear H1
    have H' := Aside0.mk H
    clear H
    go_wp2
    repeat (go_quiet (fail); try go_wp2)
    go_loopg [7] kj3 (fun kq v7 w' => ∃ (x7_2 : Int), v7 = .int .i64 x7_2 ∧ Aside0 (fringelaw41_has.l0 kq l0 l2 x7_2 = some r) ∧ Aside0 (kq ≤ kj3) ∧ Drawn0 w w')
    case atStart => exact ⟨(0), (by first | rfl | (simp; done) | (simp [*]; done)), H', ⟨Nat.le_refl _⟩, by repeat (first | exact Drawn0.refl _ | apply Drawn0.step)⟩
    case round =>
     clear H'
     try clear c2
     try clear p2
     try clear c3
     try clear c5
     try clear c5b0
     try clear c5b1
     try clear c6
     try clear p2
     obtain ⟨x7_2, rfl, HA, HK2, ⟨m2, rfl⟩⟩ := hrel
     cases gk with
     | zero => exact absurd HA.out (by simp [fringelaw41_has.l0])
     | succ k2 =>
      have H := HA.out
      clear HA
      simp only [fringelaw41_has.l0] at H
      by_cases c7 : x7_2 < 3
      ·rw [if_pos c7] at H
       have c7b0 : decide (x7_2 < 3) = true := decide_eq_true c7
       clear c7
       by_cases c8 : 0 ≤ x7_2
       ·rw [if_pos c8] at H
        have c8b0 : decide (0 ≤ x7_2) = true := decide_eq_true c8
        clear c8
        by_cases c9 : x7_2 < (l0.length : Int)
        ·rw [if_pos c9] at H
         have c9b0 : decide (x7_2 < (l0.length : Int)) = true := decide_eq_true c9
         clear c9
         by_cases c10 : x7_2 < (l2.length : Int)
         ·rw [if_pos c10] at H
          have c10b0 : decide (x7_2 < (l2.length : Int)) = true := decide_eq_true c10
          clear c10
          by_cases c11 : (!(((rd_T47 l0 x7_2).f0) == (wrap64 (Int.tdiv x7_2 2))) || (!(((rd_T47 l0 x7_2).f1) == (wrap64 (1 + (wrap64 (Int.tdiv (wrap64 (x7_2 + 1)) 2))))) || ((!(((rd_T47 l0 x7_2).f2.f0) == ((rd_T68 l2 x7_2).f0)) || (!(((rd_T47 l0 x7_2).f2.f1) == ((rd_T68 l2 x7_2).f1)) || (!(((rd_T47 l0 x7_2).f2.f2) == 1)))) || (!(((rd_T47 l0 x7_2).f3) == 1))))) = true
          ·rw [if_pos c11] at H
           have c11b0 : (!(((rd_T47 l0 x7_2).f0) == (wrap64 (Int.tdiv x7_2 2))) || (!(((rd_T47 l0 x7_2).f1) == (wrap64 (1 + (wrap64 (Int.tdiv (wrap64 (x7_2 + 1)) 2))))) || ((!(((rd_T47 l0 x7_2).f2.f0) == ((rd_T68 l2 x7_2).f0)) || (!(((rd_T47 l0 x7_2).f2.f1) == ((rd_T68 l2 x7_2).f1)) || (!(((rd_T47 l0 x7_2).f2.f2) == 1)))) || (!(((rd_T47 l0 x7_2).f3) == 1))))) = true := c11
           clear c11
           obtain rfl := Option.some.inj H
           have p227 : 0 ≤ (x7_2 : Int) := of_decide_eq_true (by first | (with_reducible assumption) | assumption)
           have q227 : x7_2 < (l0.length : Int) := of_decide_eq_true (by first | (with_reducible assumption) | assumption)
           obtain ⟨ad227, e227, hx227_0, hx227_1, hx227_2, hx227_3, hx227_4, hx227_5⟩ := at_T47 HR0.out x7_2 p227 q227
           cases e227
           replace p227 := eq_true p227
           replace q227 := eq_true q227
           have p228 : 0 ≤ (x7_2 : Int) := of_decide_eq_true (by first | (with_reducible assumption) | assumption)
           have q228 : x7_2 < (l2.length : Int) := of_decide_eq_true (by first | (with_reducible assumption) | assumption)
           obtain ⟨ad228, e228, hx228_0, hx228_1⟩ := at_T68 HR2.out x7_2 p228 q228
           cases e228
           replace p228 := eq_true p228
           replace q228 := eq_true q228
           have p229 : 0 ≤ (x7_2 : Int) := of_decide_eq_true (by first | (with_reducible assumption) | assumption)
           have q229 : x7_2 < (l2.length : Int) := of_decide_eq_true (by first | (with_reducible assumption) | assumption)
           obtain ⟨ad229, e229, hx229_0, hx229_1⟩ := at_T68 HR2.out x7_2 p229 q229
           obtain rfl : ad228 = ad229 := (by injection e229)
           replace p229 := eq_true p229
           replace q229 := eq_true q229
           go_wp2
           repeat (go_quiet (fail); try go_wp2)
           go_ret
           exact ⟨by first | rfl | (simp; done) | (simp [*]; done), by repeat (first | exact Drawn0.refl _ | apply Drawn0.step)⟩
          ·rw [if_neg c11] at H
           have c11b0 : (!(((rd_T47 l0 x7_2).f0) == (wrap64 (Int.tdiv x7_2 2))) || (!(((rd_T47 l0 x7_2).f1) == (wrap64 (1 + (wrap64 (Int.tdiv (wrap64 (x7_2 + 1)) 2))))) || ((!(((rd_T47 l0 x7_2).f2.f0) == ((rd_T68 l2 x7_2).f0)) || (!(((rd_T47 l0 x7_2).f2.f1) == ((rd_T68 l2 x7_2).f1)) || (!(((rd_T47 l0 x7_2).f2.f2) == 1)))) || (!(((rd_T47 l0 x7_2).f3) == 1))))) = false := by simpa using c11
           clear c11
           have H' := Aside0.mk H
           clear H
           have p227 : 0 ≤ (x7_2 : Int) := of_decide_eq_true (by first | (with_reducible assumption) | assumption)
           have q227 : x7_2 < (l0.length : Int) := of_decide_eq_true (by first | (with_reducible assumption) | assumption)
           obtain ⟨ad227, e227, hx227_0, hx227_1, hx227_2, hx227_3, hx227_4, hx227_5⟩ := at_T47 HR0.out x7_2 p227 q227
           cases e227
           replace p227 := eq_true p227
           replace q227 := eq_true q227
           have p228 : 0 ≤ (x7_2 : Int) := of_decide_eq_true (by first | (with_reducible assumption) | assumption)
           have q228 : x7_2 < (l2.length : Int) := of_decide_eq_true (by first | (with_reducible assumption) | assumption)
           obtain ⟨ad228, e228, hx228_0, hx228_1⟩ := at_T68 HR2.out x7_2 p228 q228
           cases e228
           replace p228 := eq_true p228
           replace q228 := eq_true q228
           have p229 : 0 ≤ (x7_2 : Int) := of_decide_eq_true (by first | (with_reducible assumption) | assumption)
           have q229 : x7_2 < (l2.length : Int) := of_decide_eq_true (by first | (with_reducible assumption) | assumption)
           obtain ⟨ad229, e229, hx229_0, hx229_1⟩ := at_T68 HR2.out x7_2 p229 q229
           obtain rfl : ad228 = ad229 := (by injection e229)
           replace p229 := eq_true p229
           replace q229 := eq_true q229
           go_wp2
           repeat (go_quiet (fail); try go_wp2)
           go_roundg k2
           case measure => have := HJ3.out; have := HK2.out; omega
           case rel => exact ⟨(wrap64 (x7_2 + 1)), (by first | rfl | (simp; done) | (simp [*]; done)), H', ⟨by have := HJ3.out; have := HK2.out; omega⟩, by repeat (first | exact Drawn0.refl _ | apply Drawn0.step)⟩
         ·rw [if_neg c10] at H
          exact absurd H (by simp)
        ·rw [if_neg c9] at H
         exact absurd H (by simp)
       ·rw [if_neg c8] at H
        exact absurd H (by simp)
      ·rw [if_neg c7] at H
       have c7b0 : decide (x7_2 < 3) = false := decide_eq_false c7
       clear c7
       obtain rfl := Option.some.inj H
       go_wp2
       repeat (go_quiet (fail); try go_wp2)
       go_ret
       exact ⟨by first | rfl | (simp; done) | (simp [*]; done), by repeat (first | exact Drawn0.refl _ | apply Drawn0.step)⟩

/-! ### fringelaw41_alive: function 16 -/
def fringelaw41_alive.f (k : Nat)  : Option (Bool) := (some (([(⟨1, 0, 5⟩ : S33)] : List (S33)) : List (S33))).bind fun y230 => ((fringelaw41_given.f).bind fun t233 => ((sky_See.f k t233 y230).bind fun bt236 => ((fringelaw41_given.f).bind fun t240 => (if y230.length < 5864062014805 then ((sky_See.f k t240 (y230 ++ [(⟨0, 0, 2⟩ : S33)])).bind fun bt246 => ((fringelaw41_given.f).bind fun t250 => ((sky_Dirty.f k t250 y230 2).bind fun bt253 => ((fringelaw41_has.f k bt236.1 bt236.2 (([(⟨0, 5⟩ : S68), (⟨5, 0⟩ : S68), (⟨0, (-5)⟩ : S68)] : List (S68)))).bind fun t260 => (if t260 = true then ((fringelaw41_has.f k bt246.1 bt246.2 (([(⟨2, 5⟩ : S68), (⟨7, 0⟩ : S68), (⟨2, (-5)⟩ : S68)] : List (S68)))).bind fun t264 => (if t264 = true then (if bt253.2 = 0 then ((fringeref41_SameImage.f k bt253.1 (([(([5, 15] : List Int)), (([(-5), (-5)] : List Int))] : List (List Int)))).bind fun t274 => (some t274)) else (some false)) else (some false))) else (some false)))))) else (none)))))
theorem fringelaw41_alive.mono : ∀ k, LeO (fringelaw41_alive.f k ) (fringelaw41_alive.f (k + 1) ) := by
 intro  k
 unfold fringelaw41_alive.f
 repeat' first
   | (with_reducible exact fringelaw41_has.mono _ _ _ _)
   | (with_reducible exact fringeref41_SameImage.mono _ _ _)
   | (with_reducible exact sky_Dirty.mono _ _ _ _)
   | (with_reducible exact sky_See.mono _ _ _)
   | (with_reducible exact LeO.refl _)
   | (with_reducible exact LeO.none _)
   | (with_reducible refine LeO.ite ?_ ?_)
   | (with_reducible refine LeO.bind ?_ (fun _ => ?_))
   | exact fringelaw41_has.mono _ _ _ _
   | exact fringeref41_SameImage.mono _ _ _
   | exact sky_Dirty.mono _ _ _ _
   | exact sky_See.mono _ _ _
   | exact LeO.none _
   | refine LeO.ite ?_ ?_
   | refine LeO.bind ?_ (fun _ => ?_)
set_option maxHeartbeats 8000000 in
set_option maxRecDepth 100000 in
theorem fringelaw41_alive.callsT (k : Nat)  (w : World) (h : fringelaw41_alive.f k  = some true) :
  Calls Try.prog 16 #[] w fun e w' => e = .returned (.bool true) ∧ Below w.heap.size w w' := by
 have hu33 := Try.underlying33
 have hu68 := Try.underlying68
 have HB := Aside0.mk (Below.refl w.heap.size w)
 have H : ((some (([(⟨1, 0, 5⟩ : S33)] : List (S33)) : List (S33))).bind fun y230 => ((fringelaw41_given.f).bind fun t233 => ((sky_See.f k t233 y230).bind fun bt236 => ((fringelaw41_given.f).bind fun t240 => (if y230.length < 5864062014805 then ((sky_See.f k t240 (y230 ++ [(⟨0, 0, 2⟩ : S33)])).bind fun bt246 => ((fringelaw41_given.f).bind fun t250 => ((sky_Dirty.f k t250 y230 2).bind fun bt253 => ((fringelaw41_has.f k bt236.1 bt236.2 (([(⟨0, 5⟩ : S68), (⟨5, 0⟩ : S68), (⟨0, (-5)⟩ : S68)] : List (S68)))).bind fun t260 => (if t260 = true then ((fringelaw41_has.f k bt246.1 bt246.2 (([(⟨2, 5⟩ : S68), (⟨7, 0⟩ : S68), (⟨2, (-5)⟩ : S68)] : List (S68)))).bind fun t264 => (if t264 = true then (if bt253.2 = 0 then ((fringeref41_SameImage.f k bt253.1 (([(([5, 15] : List Int)), (([(-5), (-5)] : List Int))] : List (List Int)))).bind fun t274 => (some t274)) else (some false)) else (some false))) else (some false)))))) else (none)))))) = some true := h
 clear h
 obtain ⟨y230, hy230⟩ : ∃ y_ : List (S33), y_ = (([(⟨1, 0, 5⟩ : S33)] : List (S33))) := ⟨_, rfl⟩
 replace H : ((fringelaw41_given.f).bind fun t233 => ((sky_See.f k t233 y230).bind fun bt236 => ((fringelaw41_given.f).bind fun t240 => (if y230.length < 5864062014805 then ((sky_See.f k t240 (y230 ++ [(⟨0, 0, 2⟩ : S33)])).bind fun bt246 => ((fringelaw41_given.f).bind fun t250 => ((sky_Dirty.f k t250 y230 2).bind fun bt253 => ((fringelaw41_has.f k bt236.1 bt236.2 (([(⟨0, 5⟩ : S68), (⟨5, 0⟩ : S68), (⟨0, (-5)⟩ : S68)] : List (S68)))).bind fun t260 => (if t260 = true then ((fringelaw41_has.f k bt246.1 bt246.2 (([(⟨2, 5⟩ : S68), (⟨7, 0⟩ : S68), (⟨2, (-5)⟩ : S68)] : List (S68)))).bind fun t264 => (if t264 = true then (if bt253.2 = 0 then ((fringeref41_SameImage.f k bt253.1 (([(([5, 15] : List Int)), (([(-5), (-5)] : List Int))] : List (List Int)))).bind fun t274 => (some t274)) else (some false)) else (some false))) else (some false)))))) else (none))))) = some true := by first | (rw [hy230]; with_reducible exact H) | (have H2_ := (Option.bind_some _ _).symm.trans H; rw [hy230]; with_reducible exact H2_) | (have H2_ := (Option.bind_some _ _).symm.trans H; with_reducible exact H2_) | with_reducible exact H | (rw [hy230]; exact H) | exact H
 have Ny230 := Aside0.mk hy230
 clear hy230
 replace H := Option.bind_eq_some_iff.mp H
 obtain ⟨t233, A10, H⟩ := H
 replace H : ((sky_See.f k t233 y230).bind fun bt236 => ((fringelaw41_given.f).bind fun t240 => (if y230.length < 5864062014805 then ((sky_See.f k t240 (y230 ++ [(⟨0, 0, 2⟩ : S33)])).bind fun bt246 => ((fringelaw41_given.f).bind fun t250 => ((sky_Dirty.f k t250 y230 2).bind fun bt253 => ((fringelaw41_has.f k bt236.1 bt236.2 (([(⟨0, 5⟩ : S68), (⟨5, 0⟩ : S68), (⟨0, (-5)⟩ : S68)] : List (S68)))).bind fun t260 => (if t260 = true then ((fringelaw41_has.f k bt246.1 bt246.2 (([(⟨2, 5⟩ : S68), (⟨7, 0⟩ : S68), (⟨2, (-5)⟩ : S68)] : List (S68)))).bind fun t264 => (if t264 = true then (if bt253.2 = 0 then ((fringeref41_SameImage.f k bt253.1 (([(([5, 15] : List Int)), (([(-5), (-5)] : List Int))] : List (List Int)))).bind fun t274 => (some t274)) else (some false)) else (some false))) else (some false)))))) else (none)))) = some true := H
 have A1 := Aside0.mk A10
 clear A10
 replace H := Option.bind_eq_some_iff.mp H
 obtain ⟨⟨t236, t237⟩, A20, H⟩ := H
 replace H : ((fringelaw41_given.f).bind fun t240 => (if y230.length < 5864062014805 then ((sky_See.f k t240 (y230 ++ [(⟨0, 0, 2⟩ : S33)])).bind fun bt246 => ((fringelaw41_given.f).bind fun t250 => ((sky_Dirty.f k t250 y230 2).bind fun bt253 => ((fringelaw41_has.f k t236 t237 (([(⟨0, 5⟩ : S68), (⟨5, 0⟩ : S68), (⟨0, (-5)⟩ : S68)] : List (S68)))).bind fun t260 => (if t260 = true then ((fringelaw41_has.f k bt246.1 bt246.2 (([(⟨2, 5⟩ : S68), (⟨7, 0⟩ : S68), (⟨2, (-5)⟩ : S68)] : List (S68)))).bind fun t264 => (if t264 = true then (if bt253.2 = 0 then ((fringeref41_SameImage.f k bt253.1 (([(([5, 15] : List Int)), (([(-5), (-5)] : List Int))] : List (List Int)))).bind fun t274 => (some t274)) else (some false)) else (some false))) else (some false)))))) else (none))) = some true := H
 have A2 := Aside0.mk A20
 clear A20
 replace H := Option.bind_eq_some_iff.mp H
 obtain ⟨t240, A30, H⟩ := H
 replace H : (if y230.length < 5864062014805 then ((sky_See.f k t240 (y230 ++ [(⟨0, 0, 2⟩ : S33)])).bind fun bt246 => ((fringelaw41_given.f).bind fun t250 => ((sky_Dirty.f k t250 y230 2).bind fun bt253 => ((fringelaw41_has.f k t236 t237 (([(⟨0, 5⟩ : S68), (⟨5, 0⟩ : S68), (⟨0, (-5)⟩ : S68)] : List (S68)))).bind fun t260 => (if t260 = true then ((fringelaw41_has.f k bt246.1 bt246.2 (([(⟨2, 5⟩ : S68), (⟨7, 0⟩ : S68), (⟨2, (-5)⟩ : S68)] : List (S68)))).bind fun t264 => (if t264 = true then (if bt253.2 = 0 then ((fringeref41_SameImage.f k bt253.1 (([(([5, 15] : List Int)), (([(-5), (-5)] : List Int))] : List (List Int)))).bind fun t274 => (some t274)) else (some false)) else (some false))) else (some false)))))) else (none)) = some true := H
 have A3 := Aside0.mk A30
 clear A30
 by_cases c4 : y230.length < 5864062014805
 ·rw [if_pos c4] at H
  have LMc4 := Aside0.mk c4
  clear c4
  obtain ⟨y243, hy243⟩ : ∃ y_ : List (S33), y_ = (y230 ++ [(⟨0, 0, 2⟩ : S33)]) := ⟨_, rfl⟩
  replace H : ((sky_See.f k t240 y243).bind fun bt246 => ((fringelaw41_given.f).bind fun t250 => ((sky_Dirty.f k t250 y230 2).bind fun bt253 => ((fringelaw41_has.f k t236 t237 (([(⟨0, 5⟩ : S68), (⟨5, 0⟩ : S68), (⟨0, (-5)⟩ : S68)] : List (S68)))).bind fun t260 => (if t260 = true then ((fringelaw41_has.f k bt246.1 bt246.2 (([(⟨2, 5⟩ : S68), (⟨7, 0⟩ : S68), (⟨2, (-5)⟩ : S68)] : List (S68)))).bind fun t264 => (if t264 = true then (if bt253.2 = 0 then ((fringeref41_SameImage.f k bt253.1 (([(([5, 15] : List Int)), (([(-5), (-5)] : List Int))] : List (List Int)))).bind fun t274 => (some t274)) else (some false)) else (some false))) else (some false)))))) = some true := by first | (rw [hy243]; with_reducible exact H) | (have H2_ := (Option.bind_some _ _).symm.trans H; rw [hy243]; with_reducible exact H2_) | (have H2_ := (Option.bind_some _ _).symm.trans H; with_reducible exact H2_) | with_reducible exact H | (rw [hy243]; exact H) | exact H
  have Ny243 := Aside0.mk hy243
  clear hy243
  replace H := Option.bind_eq_some_iff.mp H
  obtain ⟨⟨t246, t247⟩, A50, H⟩ := H
  replace H : ((fringelaw41_given.f).bind fun t250 => ((sky_Dirty.f k t250 y230 2).bind fun bt253 => ((fringelaw41_has.f k t236 t237 (([(⟨0, 5⟩ : S68), (⟨5, 0⟩ : S68), (⟨0, (-5)⟩ : S68)] : List (S68)))).bind fun t260 => (if t260 = true then ((fringelaw41_has.f k t246 t247 (([(⟨2, 5⟩ : S68), (⟨7, 0⟩ : S68), (⟨2, (-5)⟩ : S68)] : List (S68)))).bind fun t264 => (if t264 = true then (if bt253.2 = 0 then ((fringeref41_SameImage.f k bt253.1 (([(([5, 15] : List Int)), (([(-5), (-5)] : List Int))] : List (List Int)))).bind fun t274 => (some t274)) else (some false)) else (some false))) else (some false))))) = some true := H
  have A5 := Aside0.mk A50
  clear A50
  replace H := Option.bind_eq_some_iff.mp H
  obtain ⟨t250, A60, H⟩ := H
  replace H : ((sky_Dirty.f k t250 y230 2).bind fun bt253 => ((fringelaw41_has.f k t236 t237 (([(⟨0, 5⟩ : S68), (⟨5, 0⟩ : S68), (⟨0, (-5)⟩ : S68)] : List (S68)))).bind fun t260 => (if t260 = true then ((fringelaw41_has.f k t246 t247 (([(⟨2, 5⟩ : S68), (⟨7, 0⟩ : S68), (⟨2, (-5)⟩ : S68)] : List (S68)))).bind fun t264 => (if t264 = true then (if bt253.2 = 0 then ((fringeref41_SameImage.f k bt253.1 (([(([5, 15] : List Int)), (([(-5), (-5)] : List Int))] : List (List Int)))).bind fun t274 => (some t274)) else (some false)) else (some false))) else (some false)))) = some true := H
  have A6 := Aside0.mk A60
  clear A60
  replace H := Option.bind_eq_some_iff.mp H
  obtain ⟨⟨t253, t254⟩, A70, H⟩ := H
  replace H : ((fringelaw41_has.f k t236 t237 (([(⟨0, 5⟩ : S68), (⟨5, 0⟩ : S68), (⟨0, (-5)⟩ : S68)] : List (S68)))).bind fun t260 => (if t260 = true then ((fringelaw41_has.f k t246 t247 (([(⟨2, 5⟩ : S68), (⟨7, 0⟩ : S68), (⟨2, (-5)⟩ : S68)] : List (S68)))).bind fun t264 => (if t264 = true then (if t254 = 0 then ((fringeref41_SameImage.f k t253 (([(([5, 15] : List Int)), (([(-5), (-5)] : List Int))] : List (List Int)))).bind fun t274 => (some t274)) else (some false)) else (some false))) else (some false))) = some true := H
  have A7 := Aside0.mk A70
  clear A70
  obtain ⟨y257, hy257⟩ : ∃ y_ : List (S68), y_ = (([(⟨0, 5⟩ : S68), (⟨5, 0⟩ : S68), (⟨0, (-5)⟩ : S68)] : List (S68))) := ⟨_, rfl⟩
  replace H : ((fringelaw41_has.f k t236 t237 y257).bind fun t260 => (if t260 = true then ((fringelaw41_has.f k t246 t247 (([(⟨2, 5⟩ : S68), (⟨7, 0⟩ : S68), (⟨2, (-5)⟩ : S68)] : List (S68)))).bind fun t264 => (if t264 = true then (if t254 = 0 then ((fringeref41_SameImage.f k t253 (([(([5, 15] : List Int)), (([(-5), (-5)] : List Int))] : List (List Int)))).bind fun t274 => (some t274)) else (some false)) else (some false))) else (some false))) = some true := by first | (rw [hy257]; with_reducible exact H) | (have H2_ := (Option.bind_some _ _).symm.trans H; rw [hy257]; with_reducible exact H2_) | (have H2_ := (Option.bind_some _ _).symm.trans H; with_reducible exact H2_) | with_reducible exact H | (rw [hy257]; exact H) | exact H
  have Ny257 := Aside0.mk hy257
  clear hy257
  replace H := Option.bind_eq_some_iff.mp H
  obtain ⟨t260, A80, H⟩ := H
  replace H : (if t260 = true then ((fringelaw41_has.f k t246 t247 (([(⟨2, 5⟩ : S68), (⟨7, 0⟩ : S68), (⟨2, (-5)⟩ : S68)] : List (S68)))).bind fun t264 => (if t264 = true then (if t254 = 0 then ((fringeref41_SameImage.f k t253 (([(([5, 15] : List Int)), (([(-5), (-5)] : List Int))] : List (List Int)))).bind fun t274 => (some t274)) else (some false)) else (some false))) else (some false)) = some true := H
  have A8 := Aside0.mk A80
  clear A80
  by_cases c9 : t260 = true
  ·subst c9
   have H1 : ((fringelaw41_has.f k t246 t247 (([(⟨2, 5⟩ : S68), (⟨7, 0⟩ : S68), (⟨2, (-5)⟩ : S68)] : List (S68)))).bind fun t264 => (if t264 = true then (if t254 = 0 then ((fringeref41_SameImage.f k t253 (([(([5, 15] : List Int)), (([(-5), (-5)] : List Int))] : List (List Int)))).bind fun t274 => (some t274)) else (some false)) else (some false))) = some true := by first | (with_reducible rfl) | (rw [if_pos rfl] at H; exact H)
   clear H
   have H := H1
   clear H1
   obtain ⟨y261, hy261⟩ : ∃ y_ : List (S68), y_ = (([(⟨2, 5⟩ : S68), (⟨7, 0⟩ : S68), (⟨2, (-5)⟩ : S68)] : List (S68))) := ⟨_, rfl⟩
   replace H : ((fringelaw41_has.f k t246 t247 y261).bind fun t264 => (if t264 = true then (if t254 = 0 then ((fringeref41_SameImage.f k t253 (([(([5, 15] : List Int)), (([(-5), (-5)] : List Int))] : List (List Int)))).bind fun t274 => (some t274)) else (some false)) else (some false))) = some true := by first | (rw [hy261]; with_reducible exact H) | (have H2_ := (Option.bind_some _ _).symm.trans H; rw [hy261]; with_reducible exact H2_) | (have H2_ := (Option.bind_some _ _).symm.trans H; with_reducible exact H2_) | with_reducible exact H | (rw [hy261]; exact H) | exact H
   have Ny261 := Aside0.mk hy261
   clear hy261
   replace H := Option.bind_eq_some_iff.mp H
   obtain ⟨t264, A100, H⟩ := H
   replace H : (if t264 = true then (if t254 = 0 then ((fringeref41_SameImage.f k t253 (([(([5, 15] : List Int)), (([(-5), (-5)] : List Int))] : List (List Int)))).bind fun t274 => (some t274)) else (some false)) else (some false)) = some true := H
   have A10 := Aside0.mk A100
   clear A100
   by_cases c11 : t264 = true
   ·subst c11
    have H1 : (if t254 = 0 then ((fringeref41_SameImage.f k t253 (([(([5, 15] : List Int)), (([(-5), (-5)] : List Int))] : List (List Int)))).bind fun t274 => (some t274)) else (some false)) = some true := by first | (with_reducible rfl) | (rw [if_pos rfl] at H; exact H)
    clear H
    have H := H1
    clear H1
    by_cases c12 : t254 = 0
    ·rw [if_pos c12] at H
     have c12b0 : (t254 == 0) = true := beq_iff_eq.mpr c12
     have c12b1 : (t254 != 0) = false := bne_eq_false_iff_eq.mpr c12
     clear c12
     obtain ⟨y265, hy265⟩ : ∃ y_ : List Int, y_ = (([5, 15] : List Int)) := ⟨_, rfl⟩
     replace H : ((fringeref41_SameImage.f k t253 (([y265, (([(-5), (-5)] : List Int))] : List (List Int)))).bind fun t274 => (some t274)) = some true := by first | (rw [hy265]; with_reducible exact H) | (have H2_ := (Option.bind_some _ _).symm.trans H; rw [hy265]; with_reducible exact H2_) | (have H2_ := (Option.bind_some _ _).symm.trans H; with_reducible exact H2_) | with_reducible exact H | (rw [hy265]; exact H) | exact H
     have Ny265 := Aside0.mk hy265
     clear hy265
     obtain ⟨y268, hy268⟩ : ∃ y_ : List Int, y_ = (([(-5), (-5)] : List Int)) := ⟨_, rfl⟩
     replace H : ((fringeref41_SameImage.f k t253 (([y265, y268] : List (List Int)))).bind fun t274 => (some t274)) = some true := by first | (rw [hy268]; with_reducible exact H) | (have H2_ := (Option.bind_some _ _).symm.trans H; rw [hy268]; with_reducible exact H2_) | (have H2_ := (Option.bind_some _ _).symm.trans H; with_reducible exact H2_) | with_reducible exact H | (rw [hy268]; exact H) | exact H
     have Ny268 := Aside0.mk hy268
     clear hy268
     obtain ⟨y271, hy271⟩ : ∃ y_ : List (List Int), y_ = (([y265, y268] : List (List Int))) := ⟨_, rfl⟩
     replace H : ((fringeref41_SameImage.f k t253 y271).bind fun t274 => (some t274)) = some true := by first | (rw [hy271]; with_reducible exact H) | (have H2_ := (Option.bind_some _ _).symm.trans H; rw [hy271]; with_reducible exact H2_) | (have H2_ := (Option.bind_some _ _).symm.trans H; with_reducible exact H2_) | with_reducible exact H | (rw [hy271]; exact H) | exact H
     have Ny271 := Aside0.mk hy271
     clear hy271
     replace H := Option.bind_eq_some_iff.mp H
     obtain ⟨t274, A130, H⟩ := H
     replace H : (some t274) = some true := H
     have A13 := Aside0.mk A130
     clear A130
     have hend := Aside0.mk (Option.some.inj H)
     clear H
     go_enter Try.func16, Try.ntmps16
     go_wp2_with (first | ((with_reducible refine gate_dst (N := 9) rfl ?_); (try (refine gate_guard (by rfl) ?_; dsimp only)); refine Kd.R_lit k33 _ 33 ?hg (N := 9) ?hd (xs := ([(⟨1, 0, 5⟩ : S33)] : List (S33))) (inner := [.int .i64 1, .int .i64 0, .int .i64 5]) (ok := fun _ => True) (okp := fun _ => True) ?hr ?hp (fun _ hk => hk) trivial (Below.refl _ _) (Nat.le_refl _) (by simp) ?_; (case hd => rfl); (case hg => rfl); (case hr => first | (go_simp; done) | (go_simp; rfl)); (case hp => exact (Reps.c3 (show Kd.M k33 _ _ _ (⟨1, 0, 5⟩ : S33) [.int .i64 1, .int .i64 0, .int .i64 5] from (k33_mkM _ _ _ (⟨1, 0, 5⟩ : S33) )) (Reps.none _ _))); intro v231 w14 ho15 hb hg_ hnew_; clear hg_ hnew_; (first | rw [← Ny230.out] at ho15 | (simp only [Int.reduceToNat] at ho15; rw [← Ny230.out] at ho15)); have n0_ := Aside0.mk (Kd.R_lower ho15 (below_size (by repeat (first | (with_reducible first | exact HB.out | apply below_alloc | apply pw_below_drewN | apply below_drew1) | exact HB.out)))); have n1_ := Aside0.mk (below_step (by repeat (first | (with_reducible first | exact HB.out | apply below_alloc | apply pw_below_drewN | apply below_drew1) | exact HB.out)) hb); clear HB; have HO232 := n0_; have HB := n1_; clear n0_ n1_; clear hb ho15) | ((with_reducible refine gate_callee (f := 31) rfl ?_); refine goesL_ (some 11) rfl rfl Try.func31 (by kernel_rfl) rfl #[] rfl (by (try simp only [List.map_toArray, List.map_cons, List.map_nil]); first | done | rfl | (simp only [List.length_drop, List.length_take]; rfl)) ?_; (with_reducible refine (fringelaw41_given.calls  t233 _ A1.out).mono ?_); rintro e w16 ⟨v234, rfl, ho0, hb⟩; refine ⟨_, rfl, ?_⟩; have n0_ := Aside0.mk (Kd.R_below (by (with_reducible repeat (first | apply Kd.R_alloc | apply Kd.R_drewN | apply Kd.R_drew)); exact HO232.out) hb); have n1_ := Aside0.mk (Kd.R_lower ho0 (below_size (by repeat (first | (with_reducible first | exact HB.out | apply below_alloc | apply pw_below_drewN | apply below_drew1) | exact HB.out)))); have n2_ := Aside0.mk (below_step (by repeat (first | (with_reducible first | exact HB.out | apply below_alloc | apply pw_below_drewN | apply below_drew1) | exact HB.out)) hb); clear HO232; clear HB; have HO232 := n0_; have HO235 := n1_; have HB := n2_; clear n0_ n1_ n2_; (try clear hb); (try clear hb2); (try clear hk); (try clear hi); (try clear ho0); obtain ⟨Ao17, co17, eo17⟩ := Kd.R_slice HO235.out; subst eo17; obtain ⟨Ao18, co18, eo18⟩ := Kd.R_slice HO232.out; subst eo18) | ((with_reducible refine gate_callee (f := 18) rfl ?_); refine goesL_ (some 13) rfl rfl Try.func18 (by kernel_rfl) rfl #[.slice Ao17 t233.length co17, .slice Ao18 y230.length co18] rfl (by (try simp only [List.map_toArray, List.map_cons, List.map_nil]); first | done | rfl | (simp only [List.length_drop, List.length_take]; rfl)) ?_; (with_reducible refine (sky_See.calls k _ _ t233 _ _ y230 t236 t237 _ ?side1 ?side2 ?side3 ?side4 A2.out).mono ?_); (case side1 => repeat (first | exact (Kd.R_reads' HO235.out).2.2 | (with_reducible refine Kd.C_alloc ?_ _) | (with_reducible refine Kd.C_drewN ?_ _) | (with_reducible refine Kd.C_drew ?_))); (case side2 => exact (Kd.R_reads' HO235.out).2.1); (case side3 => repeat (first | exact (Kd.R_reads' HO232.out).2.2 | (with_reducible refine Kd.C_alloc ?_ _) | (with_reducible refine Kd.C_drewN ?_ _) | (with_reducible refine Kd.C_drew ?_))); (case side4 => exact (Kd.R_reads' HO232.out).2.1); rintro e w19 ⟨v238, rfl, ho0, hb⟩; refine ⟨_, rfl, ?_⟩; have n0_ := Aside0.mk (Kd.R_below (by (with_reducible repeat (first | apply Kd.R_alloc | apply Kd.R_drewN | apply Kd.R_drew)); exact HO232.out) hb); have n1_ := Aside0.mk (Kd.R_below (by (with_reducible repeat (first | apply Kd.R_alloc | apply Kd.R_drewN | apply Kd.R_drew)); exact HO235.out) hb); have n2_ := Aside0.mk (Kd.R_lower ho0 (below_size (by repeat (first | (with_reducible first | exact HB.out | apply below_alloc | apply pw_below_drewN | apply below_drew1) | exact HB.out)))); have n3_ := Aside0.mk (below_step (by repeat (first | (with_reducible first | exact HB.out | apply below_alloc | apply pw_below_drewN | apply below_drew1) | exact HB.out)) hb); clear HO232; clear HO235; clear HB; have HO232 := n0_; have HO235 := n1_; have HO239 := n2_; have HB := n3_; clear n0_ n1_ n2_ n3_; (try clear hb); (try clear hb2); (try clear hk); (try clear hi); (try clear ho0)) | ((with_reducible refine gate_callee (f := 31) rfl ?_); refine goesL_ (some 17) rfl rfl Try.func31 (by kernel_rfl) rfl #[] rfl (by (try simp only [List.map_toArray, List.map_cons, List.map_nil]); first | done | rfl | (simp only [List.length_drop, List.length_take]; rfl)) ?_; (with_reducible refine (fringelaw41_given.calls  t240 _ A3.out).mono ?_); rintro e w20 ⟨v241, rfl, ho0, hb⟩; refine ⟨_, rfl, ?_⟩; have n0_ := Aside0.mk (Kd.R_below (by (with_reducible repeat (first | apply Kd.R_alloc | apply Kd.R_drewN | apply Kd.R_drew)); exact HO232.out) hb); have n1_ := Aside0.mk (Kd.R_elder' (by (with_reducible repeat (first | apply Kd.R_alloc | apply Kd.R_drewN | apply Kd.R_drew)); exact HO235.out) (Kd.R_base ho0) hb); have n2_ := Aside0.mk (Kd.R_below (by (with_reducible repeat (first | apply Kd.R_alloc | apply Kd.R_drewN | apply Kd.R_drew)); exact HO239.out) hb); have n3_ := Aside0.mk (Kd.R_lower (Kd.R_new' ho0 (Kd.R_lt (by (with_reducible repeat (first | apply Kd.R_alloc | apply Kd.R_drewN | apply Kd.R_drew)); exact HO235.out))) (below_size (by repeat (first | (with_reducible first | exact HB.out | apply below_alloc | apply pw_below_drewN | apply below_drew1) | exact HB.out)))); have n4_ := Aside0.mk (below_step (by repeat (first | (with_reducible first | exact HB.out | apply below_alloc | apply pw_below_drewN | apply below_drew1) | exact HB.out)) hb); clear HO232; clear HO235; clear HO239; clear HB; have HO232 := n0_; have HO235 := n1_; have HO239 := n2_; have HO242 := n3_; have HB := n4_; clear n0_ n1_ n2_ n3_ n4_; (try clear hb); (try clear hb2); (try clear hk); (try clear hi); (try clear ho0)) | ((with_reducible refine gate_builtin (b := .append) (xs := #[.tmp 18, .tmp 20]) rfl ?_); (try (refine gate_guard (by rfl) ?_; dsimp only)); at_builtin; refine Kd.R_append_keeps k33 (w0 := w) w.heap.size rfl (.tmp 18) (.tmp 20) 22 33 (.agg #[(.int .i64 0), (.int .i64 0), (.int .i64 0)]) 24 rfl Try.underlying22 info33 rfl (by decide) (by omega) (.slice Ao18 y230.length co18) y230 (⟨0, 0, 2⟩ : S33) [.int .i64 0, .int .i64 0, .int .i64 2] (fun _ => True) (fun _ => False) rfl rfl ?aP (fun _ hk => hk.elim) ?aF ?aO ?aB ?aS ?aL ?_; (case aP => exact k33_mkM _ _ _ (⟨0, 0, 2⟩ : S33)); (case aB => exact (by repeat (first | (with_reducible first | exact HB.out | apply below_alloc | apply pw_below_drewN | apply below_drew1) | exact HB.out))); (case aF => exact (fun _ _ => trivial)); (case aO => exact (by (with_reducible repeat (first | apply Kd.R_alloc | apply Kd.R_drewN | apply Kd.R_drew)); exact HO232.out)); (case aS => exact (below_size (by repeat (first | (with_reducible first | exact HB.out | apply below_alloc | apply pw_below_drewN | apply below_drew1) | exact HB.out)))); (case aL => have := LMc4.out; omega); intro v244 w21 ho ho2 hb hg hat; rw [← Ny243.out] at ho; have n0_ := Aside0.mk (ho2); have n1_ := Aside0.mk (Kd.R_over' (by (with_reducible repeat (first | apply Kd.R_alloc | apply Kd.R_drewN | apply Kd.R_drew)); exact HO235.out) (Kd.R_typed (by (with_reducible repeat (first | apply Kd.R_alloc | apply Kd.R_drewN | apply Kd.R_drew)); exact HO232.out)) (by decide) hg); have n2_ := Aside0.mk (Kd.R_over' (by (with_reducible repeat (first | apply Kd.R_alloc | apply Kd.R_drewN | apply Kd.R_drew)); exact HO239.out) (Kd.R_typed (by (with_reducible repeat (first | apply Kd.R_alloc | apply Kd.R_drewN | apply Kd.R_drew)); exact HO232.out)) (by decide) hg); have n3_ := Aside0.mk (Kd.R_over' (by (with_reducible repeat (first | apply Kd.R_alloc | apply Kd.R_drewN | apply Kd.R_drew)); exact HO242.out) (Kd.R_typed (by (with_reducible repeat (first | apply Kd.R_alloc | apply Kd.R_drewN | apply Kd.R_drew)); exact HO232.out)) (by decide) hg); have n4_ := Aside0.mk (hb); have n5_ := Aside0.mk (ho); clear HO232; clear HO235; clear HO239; clear HO242; clear HB; have HO232 := n0_; have HO235 := n1_; have HO239 := n2_; have HO242 := n3_; have HB := n4_; have HO245 := n5_; clear n0_ n1_ n2_ n3_ n4_ n5_; clear ho ho2 hb hg hat; obtain ⟨Ao22, co22, eo22⟩ := Kd.R_slice HO242.out; subst eo22; obtain ⟨Ao23, co23, eo23⟩ := Kd.R_slice HO245.out; subst eo23) | ((with_reducible refine gate_callee (f := 18) rfl ?_); refine goesL_ (some 22) rfl rfl Try.func18 (by kernel_rfl) rfl #[.slice Ao22 t240.length co22, .slice Ao23 y243.length co23] rfl (by (try simp only [List.map_toArray, List.map_cons, List.map_nil]); first | done | rfl | (simp only [List.length_drop, List.length_take]; rfl)) ?_; (with_reducible refine (sky_See.calls k _ _ t240 _ _ y243 t246 t247 _ ?side1 ?side2 ?side3 ?side4 A5.out).mono ?_); (case side1 => repeat (first | exact (Kd.R_reads' HO242.out).2.2 | (with_reducible refine Kd.C_alloc ?_ _) | (with_reducible refine Kd.C_drewN ?_ _) | (with_reducible refine Kd.C_drew ?_))); (case side2 => exact (Kd.R_reads' HO242.out).2.1); (case side3 => repeat (first | exact (Kd.R_reads' HO245.out).2.2 | (with_reducible refine Kd.C_alloc ?_ _) | (with_reducible refine Kd.C_drewN ?_ _) | (with_reducible refine Kd.C_drew ?_))); (case side4 => exact (Kd.R_reads' HO245.out).2.1); rintro e w24 ⟨v248, rfl, ho0, hb⟩; refine ⟨_, rfl, ?_⟩; have n0_ := Aside0.mk (Kd.R_below (by (with_reducible repeat (first | apply Kd.R_alloc | apply Kd.R_drewN | apply Kd.R_drew)); exact HO232.out) hb); have n1_ := Aside0.mk (Kd.R_below (by (with_reducible repeat (first | apply Kd.R_alloc | apply Kd.R_drewN | apply Kd.R_drew)); exact HO235.out) hb); have n2_ := Aside0.mk (Kd.R_elder' (by (with_reducible repeat (first | apply Kd.R_alloc | apply Kd.R_drewN | apply Kd.R_drew)); exact HO239.out) (Kd.R_base ho0) hb); have n3_ := Aside0.mk (Kd.R_below (by (with_reducible repeat (first | apply Kd.R_alloc | apply Kd.R_drewN | apply Kd.R_drew)); exact HO242.out) hb); have n4_ := Aside0.mk (Kd.R_below (by (with_reducible repeat (first | apply Kd.R_alloc | apply Kd.R_drewN | apply Kd.R_drew)); exact HO245.out) hb); have n5_ := Aside0.mk (Kd.R_lower (Kd.R_new' ho0 (Kd.R_lt (by (with_reducible repeat (first | apply Kd.R_alloc | apply Kd.R_drewN | apply Kd.R_drew)); exact HO239.out))) (below_size (by repeat (first | (with_reducible first | exact HB.out | apply below_alloc | apply pw_below_drewN | apply below_drew1) | exact HB.out)))); have n6_ := Aside0.mk (below_step (by repeat (first | (with_reducible first | exact HB.out | apply below_alloc | apply pw_below_drewN | apply below_drew1) | exact HB.out)) hb); clear HO232; clear HO235; clear HO239; clear HO242; clear HO245; clear HB; have HO232 := n0_; have HO235 := n1_; have HO239 := n2_; have HO242 := n3_; have HO245 := n4_; have HO249 := n5_; have HB := n6_; clear n0_ n1_ n2_ n3_ n4_ n5_ n6_; (try clear hb); (try clear hb2); (try clear hk); (try clear hi); (try clear ho0)) | ((with_reducible refine gate_callee (f := 31) rfl ?_); refine goesL_ (some 26) rfl rfl Try.func31 (by kernel_rfl) rfl #[] rfl (by (try simp only [List.map_toArray, List.map_cons, List.map_nil]); first | done | rfl | (simp only [List.length_drop, List.length_take]; rfl)) ?_; (with_reducible refine (fringelaw41_given.calls  t250 _ A6.out).mono ?_); rintro e w25 ⟨v251, rfl, ho0, hb⟩; refine ⟨_, rfl, ?_⟩; have n0_ := Aside0.mk (Kd.R_below (by (with_reducible repeat (first | apply Kd.R_alloc | apply Kd.R_drewN | apply Kd.R_drew)); exact HO232.out) hb); have n1_ := Aside0.mk (Kd.R_elder' (by (with_reducible repeat (first | apply Kd.R_alloc | apply Kd.R_drewN | apply Kd.R_drew)); exact HO235.out) (Kd.R_base ho0) hb); have n2_ := Aside0.mk (Kd.R_below (by (with_reducible repeat (first | apply Kd.R_alloc | apply Kd.R_drewN | apply Kd.R_drew)); exact HO239.out) hb); have n3_ := Aside0.mk (Kd.R_elder' (by (with_reducible repeat (first | apply Kd.R_alloc | apply Kd.R_drewN | apply Kd.R_drew)); exact HO242.out) (Kd.R_base ho0) hb); have n4_ := Aside0.mk (Kd.R_below (by (with_reducible repeat (first | apply Kd.R_alloc | apply Kd.R_drewN | apply Kd.R_drew)); exact HO245.out) hb); have n5_ := Aside0.mk (Kd.R_below (by (with_reducible repeat (first | apply Kd.R_alloc | apply Kd.R_drewN | apply Kd.R_drew)); exact HO249.out) hb); have n6_ := Aside0.mk (Kd.R_lower (Kd.R_new' (Kd.R_new' ho0 (Kd.R_lt (by (with_reducible repeat (first | apply Kd.R_alloc | apply Kd.R_drewN | apply Kd.R_drew)); exact HO235.out))) (Kd.R_lt (by (with_reducible repeat (first | apply Kd.R_alloc | apply Kd.R_drewN | apply Kd.R_drew)); exact HO242.out))) (below_size (by repeat (first | (with_reducible first | exact HB.out | apply below_alloc | apply pw_below_drewN | apply below_drew1) | exact HB.out)))); have n7_ := Aside0.mk (below_step (by repeat (first | (with_reducible first | exact HB.out | apply below_alloc | apply pw_below_drewN | apply below_drew1) | exact HB.out)) hb); clear HO232; clear HO235; clear HO239; clear HO242; clear HO245; clear HO249; clear HB; have HO232 := n0_; have HO235 := n1_; have HO239 := n2_; have HO242 := n3_; have HO245 := n4_; have HO249 := n5_; have HO252 := n6_; have HB := n7_; clear n0_ n1_ n2_ n3_ n4_ n5_ n6_ n7_; (try clear hb); (try clear hb2); (try clear hk); (try clear hi); (try clear ho0); obtain ⟨Ao26, co26, eo26⟩ := Kd.R_slice HO252.out; subst eo26) | ((with_reducible refine gate_callee (f := 21) rfl ?_); refine goesL_ (some 28) rfl rfl Try.func21 (by kernel_rfl) rfl #[.slice Ao26 t250.length co26, .slice Ao18 y230.length co18, .int .i64 2] rfl (by (try simp only [List.map_toArray, List.map_cons, List.map_nil]); first | done | rfl | (simp only [List.length_drop, List.length_take]; rfl)) ?_; (with_reducible refine (sky_Dirty.calls k _ _ t250 _ _ y230 2 t253 t254 _ ?side1 ?side2 ?side3 ?side4 A7.out).mono ?_); (case side1 => repeat (first | exact (Kd.R_reads' HO252.out).2.2 | (with_reducible refine Kd.C_alloc ?_ _) | (with_reducible refine Kd.C_drewN ?_ _) | (with_reducible refine Kd.C_drew ?_))); (case side2 => exact (Kd.R_reads' HO252.out).2.1); (case side3 => repeat (first | exact (Kd.R_reads' HO232.out).2.2 | (with_reducible refine Kd.C_alloc ?_ _) | (with_reducible refine Kd.C_drewN ?_ _) | (with_reducible refine Kd.C_drew ?_))); (case side4 => exact (Kd.R_reads' HO232.out).2.1); rintro e w27 ⟨v255, rfl, ho0, hb⟩; refine ⟨_, rfl, ?_⟩; have n0_ := Aside0.mk (Kd.R_below (by (with_reducible repeat (first | apply Kd.R_alloc | apply Kd.R_drewN | apply Kd.R_drew)); exact HO232.out) hb); have n1_ := Aside0.mk (Kd.R_below (by (with_reducible repeat (first | apply Kd.R_alloc | apply Kd.R_drewN | apply Kd.R_drew)); exact HO235.out) hb); have n2_ := Aside0.mk (Kd.R_below (by (with_reducible repeat (first | apply Kd.R_alloc | apply Kd.R_drewN | apply Kd.R_drew)); exact HO239.out) hb); have n3_ := Aside0.mk (Kd.R_below (by (with_reducible repeat (first | apply Kd.R_alloc | apply Kd.R_drewN | apply Kd.R_drew)); exact HO242.out) hb); have n4_ := Aside0.mk (Kd.R_below (by (with_reducible repeat (first | apply Kd.R_alloc | apply Kd.R_drewN | apply Kd.R_drew)); exact HO245.out) hb); have n5_ := Aside0.mk (Kd.R_below (by (with_reducible repeat (first | apply Kd.R_alloc | apply Kd.R_drewN | apply Kd.R_drew)); exact HO249.out) hb); have n6_ := Aside0.mk (Kd.R_below (by (with_reducible repeat (first | apply Kd.R_alloc | apply Kd.R_drewN | apply Kd.R_drew)); exact HO252.out) hb); have n7_ := Aside0.mk (Kd.N_lower (Kd.N_mono (ok' := fun k_ => some k_ ≠ (.slice Ao18 y230.length co18 : Value).ownBlock ∧ some k_ ≠ (.slice Ao17 t233.length co17 : Value).ownBlock ∧ some k_ ≠ (v238 : Value).ownBlock ∧ some k_ ≠ (.slice Ao22 t240.length co22 : Value).ownBlock ∧ some k_ ≠ (.slice Ao23 y243.length co23 : Value).ownBlock ∧ some k_ ≠ (v248 : Value).ownBlock ∧ some k_ ≠ (.slice Ao26 t250.length co26 : Value).ownBlock) (Kd.S_N (Kd.S_bound ho0)) (fun k_ hk_ => ⟨(Kd.fresh' (Kd.R_lt (by (with_reducible repeat (first | apply Kd.R_alloc | apply Kd.R_drewN | apply Kd.R_drew)); exact HO232.out)) k_ hk_.2.1), (Kd.fresh' (Kd.R_lt (by (with_reducible repeat (first | apply Kd.R_alloc | apply Kd.R_drewN | apply Kd.R_drew)); exact HO235.out)) k_ hk_.2.1), (Kd.fresh' (Kd.R_lt (by (with_reducible repeat (first | apply Kd.R_alloc | apply Kd.R_drewN | apply Kd.R_drew)); exact HO239.out)) k_ hk_.2.1), (Kd.fresh' (Kd.R_lt (by (with_reducible repeat (first | apply Kd.R_alloc | apply Kd.R_drewN | apply Kd.R_drew)); exact HO242.out)) k_ hk_.2.1), (Kd.fresh' (Kd.R_lt (by (with_reducible repeat (first | apply Kd.R_alloc | apply Kd.R_drewN | apply Kd.R_drew)); exact HO245.out)) k_ hk_.2.1), (Kd.fresh' (Kd.R_lt (by (with_reducible repeat (first | apply Kd.R_alloc | apply Kd.R_drewN | apply Kd.R_drew)); exact HO249.out)) k_ hk_.2.1), (Kd.fresh' (Kd.R_lt (by (with_reducible repeat (first | apply Kd.R_alloc | apply Kd.R_drewN | apply Kd.R_drew)); exact HO252.out)) k_ hk_.2.1)⟩)) (below_size (by repeat (first | (with_reducible first | exact HB.out | apply below_alloc | apply pw_below_drewN | apply below_drew1) | exact HB.out)))); have n8_ := Aside0.mk (below_step (by repeat (first | (with_reducible first | exact HB.out | apply below_alloc | apply pw_below_drewN | apply below_drew1) | exact HB.out)) hb); clear HO232; clear HO235; clear HO239; clear HO242; clear HO245; clear HO249; clear HO252; clear HB; have HO232 := n0_; have HO235 := n1_; have HO239 := n2_; have HO242 := n3_; have HO245 := n4_; have HO249 := n5_; have HO252 := n6_; have HO256 := n7_; have HB := n8_; clear n0_ n1_ n2_ n3_ n4_ n5_ n6_ n7_ n8_; (try clear hb); (try clear hb2); (try clear hk); (try clear hi); (try clear ho0)) | ((with_reducible refine gate_dst (N := 36) rfl ?_); (try (refine gate_guard (by rfl) ?_; dsimp only)); refine Kd.R_lit k68 _ 68 ?hg (N := 36) ?hd (xs := ([(⟨0, 5⟩ : S68), (⟨5, 0⟩ : S68), (⟨0, (-5)⟩ : S68)] : List (S68))) (inner := [.int .i64 0, .int .i64 5, .int .i64 5, .int .i64 0, .int .i64 0, .int .i64 (-5)]) (ok := fun _ => True) (okp := fun _ => True) ?hr ?hp (fun _ hk => hk) trivial (Below.refl _ _) (Nat.le_refl _) (by simp) ?_; (case hd => rfl); (case hg => rfl); (case hr => first | (go_simp; done) | (go_simp; rfl)); (case hp => exact (Reps.c2 (show Kd.M k68 _ _ _ (⟨0, 5⟩ : S68) [.int .i64 0, .int .i64 5] from (k68_mkM _ _ _ (⟨0, 5⟩ : S68) )) (Reps.c2 (show Kd.M k68 _ _ _ (⟨5, 0⟩ : S68) [.int .i64 5, .int .i64 0] from (k68_mkM _ _ _ (⟨5, 0⟩ : S68) )) (Reps.c2 (show Kd.M k68 _ _ _ (⟨0, (-5)⟩ : S68) [.int .i64 0, .int .i64 (-5)] from (k68_mkM _ _ _ (⟨0, (-5)⟩ : S68) )) (Reps.none _ _))))); intro v258 w28 ho29 hb hg_ hnew_; clear hg_ hnew_; (first | rw [← Ny257.out] at ho29 | (simp only [Int.reduceToNat] at ho29; rw [← Ny257.out] at ho29)); have n0_ := Aside0.mk (Kd.R_below (by (with_reducible repeat (first | apply Kd.R_alloc | apply Kd.R_drewN | apply Kd.R_drew)); exact HO232.out) hb); have n1_ := Aside0.mk (Kd.R_below (by (with_reducible repeat (first | apply Kd.R_alloc | apply Kd.R_drewN | apply Kd.R_drew)); exact HO235.out) hb); have n2_ := Aside0.mk (Kd.R_below (by (with_reducible repeat (first | apply Kd.R_alloc | apply Kd.R_drewN | apply Kd.R_drew)); exact HO239.out) hb); have n3_ := Aside0.mk (Kd.R_below (by (with_reducible repeat (first | apply Kd.R_alloc | apply Kd.R_drewN | apply Kd.R_drew)); exact HO242.out) hb); have n4_ := Aside0.mk (Kd.R_below (by (with_reducible repeat (first | apply Kd.R_alloc | apply Kd.R_drewN | apply Kd.R_drew)); exact HO245.out) hb); have n5_ := Aside0.mk (Kd.R_below (by (with_reducible repeat (first | apply Kd.R_alloc | apply Kd.R_drewN | apply Kd.R_drew)); exact HO249.out) hb); have n6_ := Aside0.mk (Kd.R_below (by (with_reducible repeat (first | apply Kd.R_alloc | apply Kd.R_drewN | apply Kd.R_drew)); exact HO252.out) hb); have n7_ := Aside0.mk (Kd.N_elder' (by (with_reducible repeat (first | apply Kd.N_alloc | apply Kd.N_drewN | apply Kd.N_drew)); exact HO256.out) (Kd.R_base ho29) hb); have n8_ := Aside0.mk (Kd.R_lower ho29 (below_size (by repeat (first | (with_reducible first | exact HB.out | apply below_alloc | apply pw_below_drewN | apply below_drew1) | exact HB.out)))); have n9_ := Aside0.mk (below_step (by repeat (first | (with_reducible first | exact HB.out | apply below_alloc | apply pw_below_drewN | apply below_drew1) | exact HB.out)) hb); clear HO232; clear HO235; clear HO239; clear HO242; clear HO245; clear HO249; clear HO252; clear HO256; clear HB; have HO232 := n0_; have HO235 := n1_; have HO239 := n2_; have HO242 := n3_; have HO245 := n4_; have HO249 := n5_; have HO252 := n6_; have HO256 := n7_; have HO259 := n8_; have HB := n9_; clear n0_ n1_ n2_ n3_ n4_ n5_ n6_ n7_ n8_ n9_; clear hb ho29; obtain ⟨Ao30, co30, eo30⟩ := Kd.R_slice HO239.out; subst eo30; obtain ⟨Ao31, co31, eo31⟩ := Kd.R_slice HO259.out; subst eo31) | ((with_reducible refine gate_callee (f := 32) rfl ?_); refine goesL_ (some 37) rfl rfl Try.func32 (by kernel_rfl) rfl #[.slice Ao30 t236.length co30, .int .i64 t237, .slice Ao31 y257.length co31] rfl (by (try simp only [List.map_toArray, List.map_cons, List.map_nil]); first | done | rfl | (simp only [List.length_drop, List.length_take]; rfl)) ?_; (with_reducible refine (fringelaw41_has.calls k _ _ t236 t237 _ _ y257 true _ ?side1 ?side2 ?side3 ?side4 A8.out).mono ?_); (case side1 => repeat (first | exact (Kd.R_reads' HO239.out).2.2 | (with_reducible refine Kd.C_alloc ?_ _) | (with_reducible refine Kd.C_drewN ?_ _) | (with_reducible refine Kd.C_drew ?_))); (case side2 => exact (Kd.R_reads' HO239.out).2.1); (case side3 => repeat (first | exact (Kd.R_reads' HO259.out).2.2 | (with_reducible refine Kd.C_alloc ?_ _) | (with_reducible refine Kd.C_drewN ?_ _) | (with_reducible refine Kd.C_drew ?_))); (case side4 => exact (Kd.R_reads' HO259.out).2.1); rintro e w' ⟨rfl, ⟨nd, rfl⟩⟩; refine ⟨_, rfl, ?_⟩) | ((with_reducible refine gate_dst (N := 44) rfl ?_); (try (refine gate_guard (by rfl) ?_; dsimp only)); refine Kd.R_lit k68 _ 68 ?hg (N := 44) ?hd (xs := ([(⟨2, 5⟩ : S68), (⟨7, 0⟩ : S68), (⟨2, (-5)⟩ : S68)] : List (S68))) (inner := [.int .i64 2, .int .i64 5, .int .i64 7, .int .i64 0, .int .i64 2, .int .i64 (-5)]) (ok := fun _ => True) (okp := fun _ => True) ?hr ?hp (fun _ hk => hk) trivial (Below.refl _ _) (Nat.le_refl _) (by simp) ?_; (case hd => rfl); (case hg => rfl); (case hr => first | (go_simp; done) | (go_simp; rfl)); (case hp => exact (Reps.c2 (show Kd.M k68 _ _ _ (⟨2, 5⟩ : S68) [.int .i64 2, .int .i64 5] from (k68_mkM _ _ _ (⟨2, 5⟩ : S68) )) (Reps.c2 (show Kd.M k68 _ _ _ (⟨7, 0⟩ : S68) [.int .i64 7, .int .i64 0] from (k68_mkM _ _ _ (⟨7, 0⟩ : S68) )) (Reps.c2 (show Kd.M k68 _ _ _ (⟨2, (-5)⟩ : S68) [.int .i64 2, .int .i64 (-5)] from (k68_mkM _ _ _ (⟨2, (-5)⟩ : S68) )) (Reps.none _ _))))); intro v262 w32 ho33 hb hg_ hnew_; clear hg_ hnew_; (first | rw [← Ny261.out] at ho33 | (simp only [Int.reduceToNat] at ho33; rw [← Ny261.out] at ho33)); have n0_ := Aside0.mk (Kd.R_below (by (with_reducible repeat (first | apply Kd.R_alloc | apply Kd.R_drewN | apply Kd.R_drew)); exact HO232.out) hb); have n1_ := Aside0.mk (Kd.R_below (by (with_reducible repeat (first | apply Kd.R_alloc | apply Kd.R_drewN | apply Kd.R_drew)); exact HO235.out) hb); have n2_ := Aside0.mk (Kd.R_below (by (with_reducible repeat (first | apply Kd.R_alloc | apply Kd.R_drewN | apply Kd.R_drew)); exact HO239.out) hb); have n3_ := Aside0.mk (Kd.R_below (by (with_reducible repeat (first | apply Kd.R_alloc | apply Kd.R_drewN | apply Kd.R_drew)); exact HO242.out) hb); have n4_ := Aside0.mk (Kd.R_below (by (with_reducible repeat (first | apply Kd.R_alloc | apply Kd.R_drewN | apply Kd.R_drew)); exact HO245.out) hb); have n5_ := Aside0.mk (Kd.R_below (by (with_reducible repeat (first | apply Kd.R_alloc | apply Kd.R_drewN | apply Kd.R_drew)); exact HO249.out) hb); have n6_ := Aside0.mk (Kd.R_below (by (with_reducible repeat (first | apply Kd.R_alloc | apply Kd.R_drewN | apply Kd.R_drew)); exact HO252.out) hb); have n7_ := Aside0.mk (Kd.N_elder' (by (with_reducible repeat (first | apply Kd.N_alloc | apply Kd.N_drewN | apply Kd.N_drew)); exact HO256.out) (Kd.R_base ho33) hb); have n8_ := Aside0.mk (Kd.R_elder' (by (with_reducible repeat (first | apply Kd.R_alloc | apply Kd.R_drewN | apply Kd.R_drew)); exact HO259.out) (Kd.R_base ho33) hb); have n9_ := Aside0.mk (Kd.R_lower (Kd.R_new' ho33 (Kd.R_lt (by (with_reducible repeat (first | apply Kd.R_alloc | apply Kd.R_drewN | apply Kd.R_drew)); exact HO259.out))) (below_size (by repeat (first | (with_reducible first | exact HB.out | apply below_alloc | apply pw_below_drewN | apply below_drew1) | exact HB.out)))); have n10_ := Aside0.mk (below_step (by repeat (first | (with_reducible first | exact HB.out | apply below_alloc | apply pw_below_drewN | apply below_drew1) | exact HB.out)) hb); clear HO232; clear HO235; clear HO239; clear HO242; clear HO245; clear HO249; clear HO252; clear HO256; clear HO259; clear HB; have HO232 := n0_; have HO235 := n1_; have HO239 := n2_; have HO242 := n3_; have HO245 := n4_; have HO249 := n5_; have HO252 := n6_; have HO256 := n7_; have HO259 := n8_; have HO263 := n9_; have HB := n10_; clear n0_ n1_ n2_ n3_ n4_ n5_ n6_ n7_ n8_ n9_ n10_; clear hb ho33; obtain ⟨Ao34, co34, eo34⟩ := Kd.R_slice HO249.out; subst eo34; obtain ⟨Ao35, co35, eo35⟩ := Kd.R_slice HO263.out; subst eo35) | (go_at_call 32; (with_reducible refine (fringelaw41_has.calls k _ _ t246 t247 _ _ y261 true _ ?side1 ?side2 ?side3 ?side4 A10.out).mono ?_); (case side1 => repeat (first | exact (Kd.R_reads' HO249.out).2.2 | (with_reducible refine Kd.C_alloc ?_ _) | (with_reducible refine Kd.C_drewN ?_ _) | (with_reducible refine Kd.C_drew ?_))); (case side2 => exact (Kd.R_reads' HO249.out).2.1); (case side3 => repeat (first | exact (Kd.R_reads' HO263.out).2.2 | (with_reducible refine Kd.C_alloc ?_ _) | (with_reducible refine Kd.C_drewN ?_ _) | (with_reducible refine Kd.C_drew ?_))); (case side4 => exact (Kd.R_reads' HO263.out).2.1); rintro e w' ⟨rfl, ⟨nd, rfl⟩⟩) | ((with_reducible refine gate_dst (N := 53) rfl ?_); (try (refine gate_guard (by rfl) ?_; dsimp only)); refine Kd.R_lit (Kd.int .i64) _ 3 ?hg (N := 53) ?hd (xs := ([5, 15] : List Int)) (inner := [.int .i64 5, .int .i64 15]) (ok := fun _ => True) (okp := fun _ => True) ?hr ?hp (fun _ hk => hk) trivial (Below.refl _ _) (Nat.le_refl _) (by simp) ?_; (case hd => rfl); (case hg => rfl); (case hr => first | (go_simp; done) | (go_simp; rfl)); (case hp => exact (Reps.one (show Kd.M (Kd.int .i64) _ _ _ 5 [.int .i64 5] from rfl) (Reps.one (show Kd.M (Kd.int .i64) _ _ _ 15 [.int .i64 15] from rfl) (Reps.none _ _)))); intro v266 w36 ho37 hb hg_ hnew_; clear hg_ hnew_; (first | rw [← Ny265.out] at ho37 | (simp only [Int.reduceToNat] at ho37; rw [← Ny265.out] at ho37)); have n0_ := Aside0.mk (Kd.R_below (by (with_reducible repeat (first | apply Kd.R_alloc | apply Kd.R_drewN | apply Kd.R_drew)); exact HO232.out) hb); have n1_ := Aside0.mk (Kd.R_below (by (with_reducible repeat (first | apply Kd.R_alloc | apply Kd.R_drewN | apply Kd.R_drew)); exact HO235.out) hb); have n2_ := Aside0.mk (Kd.R_below (by (with_reducible repeat (first | apply Kd.R_alloc | apply Kd.R_drewN | apply Kd.R_drew)); exact HO239.out) hb); have n3_ := Aside0.mk (Kd.R_below (by (with_reducible repeat (first | apply Kd.R_alloc | apply Kd.R_drewN | apply Kd.R_drew)); exact HO242.out) hb); have n4_ := Aside0.mk (Kd.R_below (by (with_reducible repeat (first | apply Kd.R_alloc | apply Kd.R_drewN | apply Kd.R_drew)); exact HO245.out) hb); have n5_ := Aside0.mk (Kd.R_below (by (with_reducible repeat (first | apply Kd.R_alloc | apply Kd.R_drewN | apply Kd.R_drew)); exact HO249.out) hb); have n6_ := Aside0.mk (Kd.R_below (by (with_reducible repeat (first | apply Kd.R_alloc | apply Kd.R_drewN | apply Kd.R_drew)); exact HO252.out) hb); have n7_ := Aside0.mk (Kd.N_elder' (by (with_reducible repeat (first | apply Kd.N_alloc | apply Kd.N_drewN | apply Kd.N_drew)); exact HO256.out) (Kd.R_base ho37) hb); have n8_ := Aside0.mk (Kd.R_below (by (with_reducible repeat (first | apply Kd.R_alloc | apply Kd.R_drewN | apply Kd.R_drew)); exact HO259.out) hb); have n9_ := Aside0.mk (Kd.R_below (by (with_reducible repeat (first | apply Kd.R_alloc | apply Kd.R_drewN | apply Kd.R_drew)); exact HO263.out) hb); have n10_ := Aside0.mk (Kd.R_lower ho37 (below_size (by repeat (first | (with_reducible first | exact HB.out | apply below_alloc | apply pw_below_drewN | apply below_drew1) | exact HB.out)))); have n11_ := Aside0.mk (below_step (by repeat (first | (with_reducible first | exact HB.out | apply below_alloc | apply pw_below_drewN | apply below_drew1) | exact HB.out)) hb); clear HO232; clear HO235; clear HO239; clear HO242; clear HO245; clear HO249; clear HO252; clear HO256; clear HO259; clear HO263; clear HB; have HO232 := n0_; have HO235 := n1_; have HO239 := n2_; have HO242 := n3_; have HO245 := n4_; have HO249 := n5_; have HO252 := n6_; have HO256 := n7_; have HO259 := n8_; have HO263 := n9_; have HO267 := n10_; have HB := n11_; clear n0_ n1_ n2_ n3_ n4_ n5_ n6_ n7_ n8_ n9_ n10_ n11_; clear hb ho37) | ((with_reducible refine gate_dst (N := 54) rfl ?_); (try (refine gate_guard (by rfl) ?_; dsimp only)); refine Kd.R_lit (Kd.int .i64) _ 3 ?hg (N := 54) ?hd (xs := ([(-5), (-5)] : List Int)) (inner := [.int .i64 (-5), .int .i64 (-5)]) (ok := fun _ => True) (okp := fun _ => True) ?hr ?hp (fun _ hk => hk) trivial (Below.refl _ _) (Nat.le_refl _) (by simp) ?_; (case hd => rfl); (case hg => rfl); (case hr => first | (go_simp; done) | (go_simp; rfl)); (case hp => exact (Reps.one (show Kd.M (Kd.int .i64) _ _ _ (-5) [.int .i64 (-5)] from rfl) (Reps.one (show Kd.M (Kd.int .i64) _ _ _ (-5) [.int .i64 (-5)] from rfl) (Reps.none _ _)))); intro v269 w38 ho39 hb hg_ hnew_; clear hg_ hnew_; (first | rw [← Ny268.out] at ho39 | (simp only [Int.reduceToNat] at ho39; rw [← Ny268.out] at ho39)); have n0_ := Aside0.mk (Kd.R_below (by (with_reducible repeat (first | apply Kd.R_alloc | apply Kd.R_drewN | apply Kd.R_drew)); exact HO232.out) hb); have n1_ := Aside0.mk (Kd.R_below (by (with_reducible repeat (first | apply Kd.R_alloc | apply Kd.R_drewN | apply Kd.R_drew)); exact HO235.out) hb); have n2_ := Aside0.mk (Kd.R_below (by (with_reducible repeat (first | apply Kd.R_alloc | apply Kd.R_drewN | apply Kd.R_drew)); exact HO239.out) hb); have n3_ := Aside0.mk (Kd.R_below (by (with_reducible repeat (first | apply Kd.R_alloc | apply Kd.R_drewN | apply Kd.R_drew)); exact HO242.out) hb); have n4_ := Aside0.mk (Kd.R_below (by (with_reducible repeat (first | apply Kd.R_alloc | apply Kd.R_drewN | apply Kd.R_drew)); exact HO245.out) hb); have n5_ := Aside0.mk (Kd.R_below (by (with_reducible repeat (first | apply Kd.R_alloc | apply Kd.R_drewN | apply Kd.R_drew)); exact HO249.out) hb); have n6_ := Aside0.mk (Kd.R_below (by (with_reducible repeat (first | apply Kd.R_alloc | apply Kd.R_drewN | apply Kd.R_drew)); exact HO252.out) hb); have n7_ := Aside0.mk (Kd.N_elder' (by (with_reducible repeat (first | apply Kd.N_alloc | apply Kd.N_drewN | apply Kd.N_drew)); exact HO256.out) (Kd.R_base ho39) hb); have n8_ := Aside0.mk (Kd.R_below (by (with_reducible repeat (first | apply Kd.R_alloc | apply Kd.R_drewN | apply Kd.R_drew)); exact HO259.out) hb); have n9_ := Aside0.mk (Kd.R_below (by (with_reducible repeat (first | apply Kd.R_alloc | apply Kd.R_drewN | apply Kd.R_drew)); exact HO263.out) hb); have n10_ := Aside0.mk (Kd.R_elder' (by (with_reducible repeat (first | apply Kd.R_alloc | apply Kd.R_drewN | apply Kd.R_drew)); exact HO267.out) (Kd.R_base ho39) hb); have n11_ := Aside0.mk (Kd.R_lower (Kd.R_new' ho39 (Kd.R_lt (by (with_reducible repeat (first | apply Kd.R_alloc | apply Kd.R_drewN | apply Kd.R_drew)); exact HO267.out))) (below_size (by repeat (first | (with_reducible first | exact HB.out | apply below_alloc | apply pw_below_drewN | apply below_drew1) | exact HB.out)))); have n12_ := Aside0.mk (below_step (by repeat (first | (with_reducible first | exact HB.out | apply below_alloc | apply pw_below_drewN | apply below_drew1) | exact HB.out)) hb); clear HO232; clear HO235; clear HO239; clear HO242; clear HO245; clear HO249; clear HO252; clear HO256; clear HO259; clear HO263; clear HO267; clear HB; have HO232 := n0_; have HO235 := n1_; have HO239 := n2_; have HO242 := n3_; have HO245 := n4_; have HO249 := n5_; have HO252 := n6_; have HO256 := n7_; have HO259 := n8_; have HO263 := n9_; have HO267 := n10_; have HO270 := n11_; have HB := n12_; clear n0_ n1_ n2_ n3_ n4_ n5_ n6_ n7_ n8_ n9_ n10_ n11_ n12_; clear hb ho39; obtain ⟨Ao40, co40, eo40⟩ := Kd.R_slice HO267.out; subst eo40; obtain ⟨Ao41, co41, eo41⟩ := Kd.R_slice HO270.out; subst eo41) | ((with_reducible refine gate_dst (N := 55) rfl ?_); (try (refine gate_guard (by rfl) ?_; dsimp only)); refine Kd.N_lit (Kd.slice 3 (Kd.int .i64)) _ 53 ?hg (N' := 55) ?hd (xs := ([y265, y268] : List (List Int))) (inner := [.slice Ao40 y265.length co40, .slice Ao41 y268.length co41]) (ok := (fun k_ => some k_ ≠ (.slice Ao18 y230.length co18 : Value).ownBlock ∧ some k_ ≠ (.slice Ao17 t233.length co17 : Value).ownBlock ∧ some k_ ≠ (.slice Ao30 t236.length co30 : Value).ownBlock ∧ some k_ ≠ (.slice Ao22 t240.length co22 : Value).ownBlock ∧ some k_ ≠ (.slice Ao23 y243.length co23 : Value).ownBlock ∧ some k_ ≠ (.slice Ao34 t246.length co34 : Value).ownBlock ∧ some k_ ≠ (.slice Ao26 t250.length co26 : Value).ownBlock ∧ some k_ ≠ (v255 : Value).ownBlock ∧ some k_ ≠ (.slice Ao31 y257.length co31 : Value).ownBlock ∧ some k_ ≠ (.slice Ao35 y261.length co35 : Value).ownBlock)) (okp := (fun k_ => some k_ ≠ (.slice Ao18 y230.length co18 : Value).ownBlock ∧ some k_ ≠ (.slice Ao17 t233.length co17 : Value).ownBlock ∧ some k_ ≠ (.slice Ao30 t236.length co30 : Value).ownBlock ∧ some k_ ≠ (.slice Ao22 t240.length co22 : Value).ownBlock ∧ some k_ ≠ (.slice Ao23 y243.length co23 : Value).ownBlock ∧ some k_ ≠ (.slice Ao34 t246.length co34 : Value).ownBlock ∧ some k_ ≠ (.slice Ao26 t250.length co26 : Value).ownBlock ∧ some k_ ≠ (v255 : Value).ownBlock ∧ some k_ ≠ (.slice Ao31 y257.length co31 : Value).ownBlock ∧ some k_ ≠ (.slice Ao35 y261.length co35 : Value).ownBlock)) ?hr ?hp (fun _ hk => hk) ((show ∀ k_, w38.heap.size ≤ k_ → (fun k_ => some k_ ≠ (.slice Ao18 y230.length co18 : Value).ownBlock ∧ some k_ ≠ (.slice Ao17 t233.length co17 : Value).ownBlock ∧ some k_ ≠ (.slice Ao30 t236.length co30 : Value).ownBlock ∧ some k_ ≠ (.slice Ao22 t240.length co22 : Value).ownBlock ∧ some k_ ≠ (.slice Ao23 y243.length co23 : Value).ownBlock ∧ some k_ ≠ (.slice Ao34 t246.length co34 : Value).ownBlock ∧ some k_ ≠ (.slice Ao26 t250.length co26 : Value).ownBlock ∧ some k_ ≠ (v255 : Value).ownBlock ∧ some k_ ≠ (.slice Ao31 y257.length co31 : Value).ownBlock ∧ some k_ ≠ (.slice Ao35 y261.length co35 : Value).ownBlock) k_ from fun k_ hk => ⟨Kd.fresh' (Kd.R_lt (by (with_reducible repeat (first | apply Kd.R_alloc | apply Kd.R_drewN | apply Kd.R_drew)); exact HO232.out)) k_ hk, Kd.fresh' (Kd.R_lt (by (with_reducible repeat (first | apply Kd.R_alloc | apply Kd.R_drewN | apply Kd.R_drew)); exact HO235.out)) k_ hk, Kd.fresh' (Kd.R_lt (by (with_reducible repeat (first | apply Kd.R_alloc | apply Kd.R_drewN | apply Kd.R_drew)); exact HO239.out)) k_ hk, Kd.fresh' (Kd.R_lt (by (with_reducible repeat (first | apply Kd.R_alloc | apply Kd.R_drewN | apply Kd.R_drew)); exact HO242.out)) k_ hk, Kd.fresh' (Kd.R_lt (by (with_reducible repeat (first | apply Kd.R_alloc | apply Kd.R_drewN | apply Kd.R_drew)); exact HO245.out)) k_ hk, Kd.fresh' (Kd.R_lt (by (with_reducible repeat (first | apply Kd.R_alloc | apply Kd.R_drewN | apply Kd.R_drew)); exact HO249.out)) k_ hk, Kd.fresh' (Kd.R_lt (by (with_reducible repeat (first | apply Kd.R_alloc | apply Kd.R_drewN | apply Kd.R_drew)); exact HO252.out)) k_ hk, Kd.fresh' (Kd.N_lt (by (with_reducible repeat (first | apply Kd.N_alloc | apply Kd.N_drewN | apply Kd.N_drew)); exact HO256.out)) k_ hk, Kd.fresh' (Kd.R_lt (by (with_reducible repeat (first | apply Kd.R_alloc | apply Kd.R_drewN | apply Kd.R_drew)); exact HO259.out)) k_ hk, Kd.fresh' (Kd.R_lt (by (with_reducible repeat (first | apply Kd.R_alloc | apply Kd.R_drewN | apply Kd.R_drew)); exact HO263.out)) k_ hk⟩) _ (Nat.le_refl _)) (Below.refl _ _) (Nat.le_refl _) (by simp) ?_; (case hd => rfl); (case hg => rfl); (case hr => first | (go_simp; done) | (go_simp; rfl)); (case hp => exact (Reps.one (show Kd.FK (Kd.slice 3 (Kd.int .i64)) _ _ y265 [.slice Ao40 y265.length co40] from (Kd.FK_slice_mk (Kd.R_reads' (Kd.R_mono (ok' := (fun k_ => some k_ ≠ (.slice Ao18 y230.length co18 : Value).ownBlock ∧ some k_ ≠ (.slice Ao17 t233.length co17 : Value).ownBlock ∧ some k_ ≠ (.slice Ao30 t236.length co30 : Value).ownBlock ∧ some k_ ≠ (.slice Ao22 t240.length co22 : Value).ownBlock ∧ some k_ ≠ (.slice Ao23 y243.length co23 : Value).ownBlock ∧ some k_ ≠ (.slice Ao34 t246.length co34 : Value).ownBlock ∧ some k_ ≠ (.slice Ao26 t250.length co26 : Value).ownBlock ∧ some k_ ≠ (v255 : Value).ownBlock ∧ some k_ ≠ (.slice Ao31 y257.length co31 : Value).ownBlock ∧ some k_ ≠ (.slice Ao35 y261.length co35 : Value).ownBlock)) (Kd.R_apart' (Kd.R_apart' (Kd.R_apart' (Kd.R_apart' (Kd.R_apart' (Kd.R_apart' (Kd.R_apart' (Kd.R_apart' (Kd.R_apart' (Kd.R_apart' (HO267.out) (Kd.R_typed HO232.out) (by decide)) (Kd.R_typed HO235.out) (by decide)) (Kd.R_typed HO239.out) (by decide)) (Kd.R_typed HO242.out) (by decide)) (Kd.R_typed HO245.out) (by decide)) (Kd.R_typed HO249.out) (by decide)) (Kd.R_typed HO252.out) (by decide)) (Kd.N_typed HO256.out) (by decide)) (Kd.R_typed HO259.out) (by decide)) (Kd.R_typed HO263.out) (by decide)) (fun k_ hk => ⟨hk.1.1.1.1.1.1.1.1.1.2, ⟨hk.1.1.1.1.1.1.1.1.2, ⟨hk.1.1.1.1.1.1.1.2, ⟨hk.1.1.1.1.1.1.2, ⟨hk.1.1.1.1.1.2, ⟨hk.1.1.1.1.2, ⟨hk.1.1.1.2, ⟨hk.1.1.2, ⟨hk.1.2, hk.2⟩⟩⟩⟩⟩⟩⟩⟩⟩))).2.1 (Kd.R_F (Kd.R_mono (ok' := (fun k_ => some k_ ≠ (.slice Ao18 y230.length co18 : Value).ownBlock ∧ some k_ ≠ (.slice Ao17 t233.length co17 : Value).ownBlock ∧ some k_ ≠ (.slice Ao30 t236.length co30 : Value).ownBlock ∧ some k_ ≠ (.slice Ao22 t240.length co22 : Value).ownBlock ∧ some k_ ≠ (.slice Ao23 y243.length co23 : Value).ownBlock ∧ some k_ ≠ (.slice Ao34 t246.length co34 : Value).ownBlock ∧ some k_ ≠ (.slice Ao26 t250.length co26 : Value).ownBlock ∧ some k_ ≠ (v255 : Value).ownBlock ∧ some k_ ≠ (.slice Ao31 y257.length co31 : Value).ownBlock ∧ some k_ ≠ (.slice Ao35 y261.length co35 : Value).ownBlock)) (Kd.R_apart' (Kd.R_apart' (Kd.R_apart' (Kd.R_apart' (Kd.R_apart' (Kd.R_apart' (Kd.R_apart' (Kd.R_apart' (Kd.R_apart' (Kd.R_apart' (HO267.out) (Kd.R_typed HO232.out) (by decide)) (Kd.R_typed HO235.out) (by decide)) (Kd.R_typed HO239.out) (by decide)) (Kd.R_typed HO242.out) (by decide)) (Kd.R_typed HO245.out) (by decide)) (Kd.R_typed HO249.out) (by decide)) (Kd.R_typed HO252.out) (by decide)) (Kd.N_typed HO256.out) (by decide)) (Kd.R_typed HO259.out) (by decide)) (Kd.R_typed HO263.out) (by decide)) (fun k_ hk => ⟨hk.1.1.1.1.1.1.1.1.1.2, ⟨hk.1.1.1.1.1.1.1.1.2, ⟨hk.1.1.1.1.1.1.1.2, ⟨hk.1.1.1.1.1.1.2, ⟨hk.1.1.1.1.1.2, ⟨hk.1.1.1.1.2, ⟨hk.1.1.1.2, ⟨hk.1.1.2, ⟨hk.1.2, hk.2⟩⟩⟩⟩⟩⟩⟩⟩⟩))))) (Reps.one (show Kd.FK (Kd.slice 3 (Kd.int .i64)) _ _ y268 [.slice Ao41 y268.length co41] from (Kd.FK_slice_mk (Kd.R_reads' (Kd.R_mono (ok' := (fun k_ => some k_ ≠ (.slice Ao18 y230.length co18 : Value).ownBlock ∧ some k_ ≠ (.slice Ao17 t233.length co17 : Value).ownBlock ∧ some k_ ≠ (.slice Ao30 t236.length co30 : Value).ownBlock ∧ some k_ ≠ (.slice Ao22 t240.length co22 : Value).ownBlock ∧ some k_ ≠ (.slice Ao23 y243.length co23 : Value).ownBlock ∧ some k_ ≠ (.slice Ao34 t246.length co34 : Value).ownBlock ∧ some k_ ≠ (.slice Ao26 t250.length co26 : Value).ownBlock ∧ some k_ ≠ (v255 : Value).ownBlock ∧ some k_ ≠ (.slice Ao31 y257.length co31 : Value).ownBlock ∧ some k_ ≠ (.slice Ao35 y261.length co35 : Value).ownBlock)) (Kd.R_apart' (Kd.R_apart' (Kd.R_apart' (Kd.R_apart' (Kd.R_apart' (Kd.R_apart' (Kd.R_apart' (Kd.R_apart' (Kd.R_apart' (Kd.R_apart' (HO270.out) (Kd.R_typed HO232.out) (by decide)) (Kd.R_typed HO235.out) (by decide)) (Kd.R_typed HO239.out) (by decide)) (Kd.R_typed HO242.out) (by decide)) (Kd.R_typed HO245.out) (by decide)) (Kd.R_typed HO249.out) (by decide)) (Kd.R_typed HO252.out) (by decide)) (Kd.N_typed HO256.out) (by decide)) (Kd.R_typed HO259.out) (by decide)) (Kd.R_typed HO263.out) (by decide)) (fun k_ hk => ⟨hk.1.1.1.1.1.1.1.1.1.2, ⟨hk.1.1.1.1.1.1.1.1.2, ⟨hk.1.1.1.1.1.1.1.2, ⟨hk.1.1.1.1.1.1.2, ⟨hk.1.1.1.1.1.2, ⟨hk.1.1.1.1.2, ⟨hk.1.1.1.2, ⟨hk.1.1.2, ⟨hk.1.2, hk.2⟩⟩⟩⟩⟩⟩⟩⟩⟩))).2.1 (Kd.R_F (Kd.R_mono (ok' := (fun k_ => some k_ ≠ (.slice Ao18 y230.length co18 : Value).ownBlock ∧ some k_ ≠ (.slice Ao17 t233.length co17 : Value).ownBlock ∧ some k_ ≠ (.slice Ao30 t236.length co30 : Value).ownBlock ∧ some k_ ≠ (.slice Ao22 t240.length co22 : Value).ownBlock ∧ some k_ ≠ (.slice Ao23 y243.length co23 : Value).ownBlock ∧ some k_ ≠ (.slice Ao34 t246.length co34 : Value).ownBlock ∧ some k_ ≠ (.slice Ao26 t250.length co26 : Value).ownBlock ∧ some k_ ≠ (v255 : Value).ownBlock ∧ some k_ ≠ (.slice Ao31 y257.length co31 : Value).ownBlock ∧ some k_ ≠ (.slice Ao35 y261.length co35 : Value).ownBlock)) (Kd.R_apart' (Kd.R_apart' (Kd.R_apart' (Kd.R_apart' (Kd.R_apart' (Kd.R_apart' (Kd.R_apart' (Kd.R_apart' (Kd.R_apart' (Kd.R_apart' (HO270.out) (Kd.R_typed HO232.out) (by decide)) (Kd.R_typed HO235.out) (by decide)) (Kd.R_typed HO239.out) (by decide)) (Kd.R_typed HO242.out) (by decide)) (Kd.R_typed HO245.out) (by decide)) (Kd.R_typed HO249.out) (by decide)) (Kd.R_typed HO252.out) (by decide)) (Kd.N_typed HO256.out) (by decide)) (Kd.R_typed HO259.out) (by decide)) (Kd.R_typed HO263.out) (by decide)) (fun k_ hk => ⟨hk.1.1.1.1.1.1.1.1.1.2, ⟨hk.1.1.1.1.1.1.1.1.2, ⟨hk.1.1.1.1.1.1.1.2, ⟨hk.1.1.1.1.1.1.2, ⟨hk.1.1.1.1.1.2, ⟨hk.1.1.1.1.2, ⟨hk.1.1.1.2, ⟨hk.1.1.2, ⟨hk.1.2, hk.2⟩⟩⟩⟩⟩⟩⟩⟩⟩))))) (Reps.none _ _)))); intro v272 w42 ho43 hb hg_ hnew_; clear hg_ hnew_; (first | rw [← Ny271.out] at ho43 | (simp only [Int.reduceToNat] at ho43; rw [← Ny271.out] at ho43)); have n0_ := Aside0.mk (Kd.R_below (by (with_reducible repeat (first | apply Kd.R_alloc | apply Kd.R_drewN | apply Kd.R_drew)); exact HO232.out) hb); have n1_ := Aside0.mk (Kd.R_below (by (with_reducible repeat (first | apply Kd.R_alloc | apply Kd.R_drewN | apply Kd.R_drew)); exact HO235.out) hb); have n2_ := Aside0.mk (Kd.R_below (by (with_reducible repeat (first | apply Kd.R_alloc | apply Kd.R_drewN | apply Kd.R_drew)); exact HO239.out) hb); have n3_ := Aside0.mk (Kd.R_below (by (with_reducible repeat (first | apply Kd.R_alloc | apply Kd.R_drewN | apply Kd.R_drew)); exact HO242.out) hb); have n4_ := Aside0.mk (Kd.R_below (by (with_reducible repeat (first | apply Kd.R_alloc | apply Kd.R_drewN | apply Kd.R_drew)); exact HO245.out) hb); have n5_ := Aside0.mk (Kd.R_below (by (with_reducible repeat (first | apply Kd.R_alloc | apply Kd.R_drewN | apply Kd.R_drew)); exact HO249.out) hb); have n6_ := Aside0.mk (Kd.R_below (by (with_reducible repeat (first | apply Kd.R_alloc | apply Kd.R_drewN | apply Kd.R_drew)); exact HO252.out) hb); have n7_ := Aside0.mk (Kd.N_elder' (by (with_reducible repeat (first | apply Kd.N_alloc | apply Kd.N_drewN | apply Kd.N_drew)); exact HO256.out) (Kd.N_base ho43) hb); have n8_ := Aside0.mk (Kd.R_below (by (with_reducible repeat (first | apply Kd.R_alloc | apply Kd.R_drewN | apply Kd.R_drew)); exact HO259.out) hb); have n9_ := Aside0.mk (Kd.R_below (by (with_reducible repeat (first | apply Kd.R_alloc | apply Kd.R_drewN | apply Kd.R_drew)); exact HO263.out) hb); have n10_ := Aside0.mk (Kd.N_lower ho43 (below_size (by repeat (first | (with_reducible first | exact HB.out | apply below_alloc | apply pw_below_drewN | apply below_drew1) | exact HB.out)))); have n11_ := Aside0.mk (below_step (by repeat (first | (with_reducible first | exact HB.out | apply below_alloc | apply pw_below_drewN | apply below_drew1) | exact HB.out)) hb); clear HO232; clear HO235; clear HO239; clear HO242; clear HO245; clear HO249; clear HO252; clear HO256; clear HO259; clear HO263; clear HB; clear HO267; clear HO270; have HO232 := n0_; have HO235 := n1_; have HO239 := n2_; have HO242 := n3_; have HO245 := n4_; have HO249 := n5_; have HO252 := n6_; have HO256 := n7_; have HO259 := n8_; have HO263 := n9_; have HO273 := n10_; have HB := n11_; clear n0_ n1_ n2_ n3_ n4_ n5_ n6_ n7_ n8_ n9_ n10_ n11_; clear hb ho43; obtain ⟨Ao44, co44, eo44⟩ := Kd.N_slice HO256.out; subst eo44; obtain ⟨Ao45, co45, eo45⟩ := Kd.N_slice HO273.out; subst eo45) | (go_at_call 30; (with_reducible refine (fringeref41_SameImage.calls k _ _ t253 _ _ y271 t274 _ ?side1 ?side2 ?side3 ?side4 A13.out).mono ?_); (case side1 => repeat (first | exact (Kd.N_reads' HO256.out).2.2 | (with_reducible refine Kd.C_alloc ?_ _) | (with_reducible refine Kd.C_drewN ?_ _) | (with_reducible refine Kd.C_drew ?_))); (case side2 => exact (Kd.N_reads' HO256.out).2.1); (case side3 => repeat (first | exact (Kd.N_reads' HO273.out).2.2 | (with_reducible refine Kd.C_alloc ?_ _) | (with_reducible refine Kd.C_drewN ?_ _) | (with_reducible refine Kd.C_drew ?_))); (case side4 => exact (Kd.N_reads' HO273.out).2.1); rintro e w' ⟨rfl, ⟨nd, rfl⟩⟩))
     go_ret
     exact ⟨by first | rfl | (rw [hend.out]; done) | (simp only [hend.out]; done) | (simp [*]; first | exact hend.out | exact eq_of_beq hend.out | exact of_decide_eq_true hend.out) | (have h_ := hend.out; simp_all; done) | (simp [*, errW_none, errW_some] <;> rfl), by repeat (first | (with_reducible first | exact HB.out | apply below_alloc | apply pw_below_drewN | apply below_drew1) | exact HB.out)⟩
    ·rw [if_neg c12] at H
     have c12b0 : (t254 == 0) = false := beq_eq_false_iff_ne.mpr c12
     have c12b1 : (t254 != 0) = true := bne_iff_ne.mpr c12
     exact absurd H (by simp)
   ·replace c11 := Bool.eq_false_iff.mpr c11
    subst c11
    have H1 : (some false) = some true := by first | (with_reducible rfl) | (rw [if_neg (show ¬ (false = true) by decide)] at H; exact H)
    clear H
    have H := H1
    clear H1
    exact absurd H (by simp)
  ·replace c9 := Bool.eq_false_iff.mpr c9
   subst c9
   have H1 : (some false) = some true := by first | (with_reducible rfl) | (rw [if_neg (show ¬ (false = true) by decide)] at H; exact H)
   clear H
   have H := H1
   clear H1
   exact absurd H (by simp)
 ·rw [if_neg c4] at H
  exact absurd H (by simp)

theorem fringelaw41_alive.only {k : Nat} {r : Bool} (h : fringelaw41_alive.f k  = some r) : r = true := at_only fringelaw41_alive.mono (K := 120) (by kernel_rfl) h
theorem fringelaw41_alive.calls (k : Nat)  (r : Bool) (w : World) (h : fringelaw41_alive.f k  = some r) :
  Calls Try.prog 16 #[] w fun e w' => e = .returned (.bool r) ∧ Below w.heap.size w w' := by
 have hr := fringelaw41_alive.only h
 subst hr
 exact fringelaw41_alive.callsT k w h

/-! ### fringelaw41_valid: function 17 -/
def fringelaw41_valid.f (k : Nat) (l0 : List (S41)) (l1 : List (S33)) : Option (Bool) := (fringeref41_Great.f l0 l1).bind fun t281 => (if t281 = true then (some false) else ((fringeref41_Both.f k l0 l1).bind fun t282 => (some (t282 == 0))))
theorem fringelaw41_valid.mono : ∀ a0 a1 k, LeO (fringelaw41_valid.f k a0 a1) (fringelaw41_valid.f (k + 1) a0 a1) := by
 intro a0 a1 k
 unfold fringelaw41_valid.f
 repeat' first
   | (with_reducible exact fringeref41_Both.mono _ _ _)
   | (with_reducible exact LeO.refl _)
   | (with_reducible exact LeO.none _)
   | (with_reducible refine LeO.ite ?_ ?_)
   | (with_reducible refine LeO.bind ?_ (fun _ => ?_))
   | exact fringeref41_Both.mono _ _ _
   | exact LeO.none _
   | refine LeO.ite ?_ ?_
   | refine LeO.bind ?_ (fun _ => ?_)
set_option maxHeartbeats 8000000 in
set_option maxRecDepth 100000 in
theorem fringelaw41_valid.calls (k : Nat) (A0 : Option Addr) (c0 : Nat) (l0 : List (S41)) (A1 : Option Addr) (c1 : Nat) (l1 : List (S33)) (r : Bool) (w : World) (hr0 : Kd.C k41 w A0 l0.length l0) (hc0 : l0.length ≤ c0) (hr1 : Kd.C k33 w A1 l1.length l1) (hc1 : l1.length ≤ c1) (h : fringelaw41_valid.f k l0 l1 = some r) :
  Calls Try.prog 17 #[.slice A0 l0.length c0, .slice A1 l1.length c1] w fun e w' => e = .returned (.bool r) ∧ Drawn0 w w' := by
 have HR0 := Aside0.mk hr0
 have HC0 := Aside0.mk hc0
 clear hr0 hc0
 have HR1 := Aside0.mk hr1
 have HC1 := Aside0.mk hc1
 clear hr1 hc1
 have H : ((fringeref41_Great.f l0 l1).bind fun t281 => (if t281 = true then (some false) else ((fringeref41_Both.f k l0 l1).bind fun t282 => (some (t282 == 0))))) = some r := h
 clear h
 replace H := Option.bind_eq_some_iff.mp H
 obtain ⟨t281, A30, H⟩ := H
 replace H : (if t281 = true then (some false) else ((fringeref41_Both.f k l0 l1).bind fun t282 => (some (t282 == 0)))) = some r := H
 have A3 := Aside0.mk A30
 clear A30
 by_cases c4 : t281 = true
 ·subst c4
  have H1 : (some false) = some r := by first | (with_reducible rfl) | (rw [if_pos rfl] at H; exact H)
  clear H
  have H := H1
  clear H1
  obtain rfl := Option.some.inj H
  go_enter Try.func17, Try.ntmps17
  go_wp2_with (first | ((with_reducible refine gate_callee (f := 10) rfl ?_); refine goesL_ (some 7) rfl rfl Try.func10 (by kernel_rfl) rfl #[.slice A0 l0.length c0, .slice A1 l1.length c1] rfl (by (try simp only [List.map_toArray, List.map_cons, List.map_nil]); first | done | rfl | (simp only [List.length_drop, List.length_take]; rfl)) ?_; (with_reducible refine (fringeref41_Great.calls _ _ l0 _ _ l1 true _ ?side1 ?side2 ?side3 ?side4 A3.out).mono ?_); (case side1 => repeat (first | exact HR0.out | (with_reducible refine Kd.C_alloc ?_ _) | (with_reducible refine Kd.C_drewN ?_ _) | (with_reducible refine Kd.C_drew ?_))); (case side2 => exact HC0.out); (case side3 => repeat (first | exact HR1.out | (with_reducible refine Kd.C_alloc ?_ _) | (with_reducible refine Kd.C_drewN ?_ _) | (with_reducible refine Kd.C_drew ?_))); (case side4 => exact HC1.out); rintro e w' ⟨rfl, ⟨nd, rfl⟩⟩; refine ⟨_, rfl, ?_⟩))
  go_ret
  exact ⟨by first | rfl | (simp; done) | (simp [*]; done), by repeat (first | exact Drawn0.refl _ | apply Drawn0.step)⟩
 ·replace c4 := Bool.eq_false_iff.mpr c4
  subst c4
  have H1 : ((fringeref41_Both.f k l0 l1).bind fun t282 => (some (t282 == 0))) = some r := by first | (with_reducible rfl) | (rw [if_neg (show ¬ (false = true) by decide)] at H; exact H)
  clear H
  have H := H1
  clear H1
  replace H := Option.bind_eq_some_iff.mp H
  obtain ⟨t282, A50, H⟩ := H
  replace H : (some (t282 == 0)) = some r := H
  have A5 := Aside0.mk A50
  clear A50
  obtain rfl := Option.some.inj H
  go_enter Try.func17, Try.ntmps17
  go_wp2_with (first | ((with_reducible refine gate_callee (f := 10) rfl ?_); refine goesL_ (some 7) rfl rfl Try.func10 (by kernel_rfl) rfl #[.slice A0 l0.length c0, .slice A1 l1.length c1] rfl (by (try simp only [List.map_toArray, List.map_cons, List.map_nil]); first | done | rfl | (simp only [List.length_drop, List.length_take]; rfl)) ?_; (with_reducible refine (fringeref41_Great.calls _ _ l0 _ _ l1 false _ ?side1 ?side2 ?side3 ?side4 A3.out).mono ?_); (case side1 => repeat (first | exact HR0.out | (with_reducible refine Kd.C_alloc ?_ _) | (with_reducible refine Kd.C_drewN ?_ _) | (with_reducible refine Kd.C_drew ?_))); (case side2 => exact HC0.out); (case side3 => repeat (first | exact HR1.out | (with_reducible refine Kd.C_alloc ?_ _) | (with_reducible refine Kd.C_drewN ?_ _) | (with_reducible refine Kd.C_drew ?_))); (case side4 => exact HC1.out); rintro e w' ⟨rfl, ⟨nd, rfl⟩⟩; refine ⟨_, rfl, ?_⟩) | (go_at_call 39; (with_reducible refine (fringeref41_Both.calls k _ _ l0 _ _ l1 t282 _ ?side1 ?side2 ?side3 ?side4 A5.out).mono ?_); (case side1 => repeat (first | exact HR0.out | (with_reducible refine Kd.C_alloc ?_ _) | (with_reducible refine Kd.C_drewN ?_ _) | (with_reducible refine Kd.C_drew ?_))); (case side2 => exact HC0.out); (case side3 => repeat (first | exact HR1.out | (with_reducible refine Kd.C_alloc ?_ _) | (with_reducible refine Kd.C_drewN ?_ _) | (with_reducible refine Kd.C_drew ?_))); (case side4 => exact HC1.out); rintro e w' ⟨rfl, ⟨nd, rfl⟩⟩))
  go_ret
  exact ⟨by first | rfl | (simp; done) | (simp [*]; done), by repeat (first | exact Drawn0.refl _ | apply Drawn0.step)⟩

end Go.Proofs.Ytihmhcdcbcleeaa.Q
