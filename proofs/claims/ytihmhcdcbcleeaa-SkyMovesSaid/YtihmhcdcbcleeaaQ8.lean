-- Written by qprint.py (a program of this session) over the program of the kit that prints contracts. Not trusted: Lean checks it.
import Derived.Test.YtihmhcdcbcleeaaQ0
import Derived.Test.YtihmhcdcbcleeaaQ5
namespace Go.Proofs.Ytihmhcdcbcleeaa.Q
open Go.RowKit Go.Proofs.YtihmhcdcbcleeaaW.PrintWords Go.Proofs.YtihmhcdcbcleeaaW.PrintLast Go.Proofs.YtihmhcdcbcleeaaW.PrintMore
attribute [local go_sem] max2_int min2_int max_two min_two max_three min_three max_four min_four   -- for this text's walks alone
set_option linter.unusedVariables false
set_option linter.unusedSimpArgs false

/-! ### sky_Shift_1: function 35 -/
def sky_Shift_1.f (a0 : Int) : Option (Bool) := if a0 ≥ 8 then (some true) else (some (decide (a0 ≤ (-8))))
set_option maxHeartbeats 8000000 in
set_option maxRecDepth 100000 in
theorem sky_Shift_1.calls (a0 : Int) (r : Bool) (w : World) (h : sky_Shift_1.f a0 = some r) :
  Calls Try.prog 35 #[.int .i64 a0] w fun e w' => e = .returned (.bool r) ∧ Drawn0 w w' := by
 have H : (if a0 ≥ 8 then (some true) else (some (decide (a0 ≤ (-8))))) = some r := h
 clear h
 by_cases c2 : a0 ≥ 8
 ·rw [if_pos c2] at H
  have c2b0 : decide (8 ≤ a0) = true := decide_eq_true c2
  clear c2
  obtain rfl := Option.some.inj H
  go_enter Try.func35, Try.ntmps35
  go_wp2
  go_ret
  exact ⟨by first | rfl | (simp; done) | (simp [*]; done), by repeat (first | exact Drawn0.refl _ | apply Drawn0.step)⟩
 ·rw [if_neg c2] at H
  have c2b0 : decide (8 ≤ a0) = false := decide_eq_false c2
  clear c2
  obtain rfl := Option.some.inj H
  go_enter Try.func35, Try.ntmps35
  go_wp2
  go_ret
  exact ⟨by first | rfl | (simp; done) | (simp [*]; done), by repeat (first | exact Drawn0.refl _ | apply Drawn0.step)⟩

/-! ### slices_Clone__api_Lamp_api_Lamp: function 36 (by hand) -/
def slices_Clone__api_Lamp_api_Lamp.f (l0 : List (S33)) : Option (List (S33)) := if l0.length < 5864062014805 then some l0 else none
theorem slices_Clone__api_Lamp_api_Lamp.calls (A0 : Option Addr) (c0 : Nat) (l0 : List (S33)) (r : List (S33)) (w : World) (hr0 : Kd.C k33 w A0 l0.length l0) (hc0 : l0.length ≤ c0) (h : slices_Clone__api_Lamp_api_Lamp.f l0 = some r) :
  Calls Try.prog 36 #[.slice A0 l0.length c0] w fun e w' => ∃ v0_ : Value, e = .returned (v0_) ∧ Kd.R k33 33 w' w.heap.size (fun _ => True) v0_ r ∧ Below w.heap.size w w' := by
 have HR0 := Aside0.mk hr0
 have HB := Aside0.mk (Below.refl w.heap.size w)
 have hl : l0.length < 5864062014805 := by
  unfold slices_Clone__api_Lamp_api_Lamp.f at h
  split at h
  ·assumption
  ·cases h
 have H : some l0 = some r := by rw [← h]; unfold slices_Clone__api_Lamp_api_Lamp.f; rw [if_pos hl]
 obtain rfl := Option.some.inj H
 clear h H
 have HL := Aside0.mk hl
 clear hl
 cases A0 with
 | none =>
  have h0 : l0 = [] := by
   cases l0 with
   | nil => rfl
   | cons a l => obtain ⟨ad, he, _⟩ := hr0.2.2 (by simp); cases he
  have HE := Aside0.mk h0
  clear h0 hr0 hc0 HR0 HL
  have hrun : ∀ W, (binOp .eql 22 (.slice none l0.length c0) (.slice none 0 0)).run Try.prog W = .ok (.bool true) W := fun W => _root_.Go.run_eql_slice_nil W 22 33 none _ _ Try.underlying22
  go_enter Try.func36, Try.ntmps36
  go_wp2_with (fail)
  go_ret
  exact ⟨_, rfl, by rw [HE.out]; exact Kd.R_nil _ _ _ _ _, HB.out⟩
 | some ad =>
  clear hr0 hc0
  have hrun : ∀ W, (binOp .eql 22 (.slice (some ad) l0.length c0) (.slice none 0 0)).run Try.prog W = .ok (.bool false) W := fun W => _root_.Go.run_eql_slice_nil W 22 33 (some ad) _ _ Try.underlying22
  go_enter Try.func36, Try.ntmps36
  go_wp2_with (first | ((with_reducible refine gate_dst (N := 5) rfl ?_); refine Kd.R_lit k33 _ 33 ?hg (N := 5) ?hd (xs := []) (inner := []) (ok := fun _ => True) (okp := fun _ => True) ?hr ?hp (fun _ hk => hk) trivial (Below.refl _ _) (Nat.le_refl _) (by simp) ?_; (case hd => rfl); (case hg => rfl); (case hr => first | (go_simp; done) | (go_simp; rfl)); (case hp => exact (Reps.none _ _)); intro v9 w5 ho5 hb _ _; have HO5 := Aside0.mk (Kd.R_lower ho5 (below_size HB.out)); have n2_ := Aside0.mk (below_step HB.out hb); clear HB; have HB := n2_; clear n2_ hb ho5) | ((with_reducible refine gate_builtin (b := .append) (xs := #[.tmp 5, .tmp 6]) rfl ?_); at_builtin; refine Kd.R_append_rows k33 (w0 := w) w.heap.size rfl (.tmp 5) (.tmp 6) 22 33 (.agg #[(.int .i64 0), (.int .i64 0), (.int .i64 0)]) 24 rfl Try.underlying22 info33 rfl (by decide) (by omega) v9 [] l0 _ _ _ (fun _ => True) (fun _ => False) rfl rfl ?aO ?aR (fun _ _ h => h) (fun _ h => h.elim) ?aF ?aB ?aS ?aL ?_; (case aR => exact Kd.C_below HR0.out HB.out); (case aB => exact HB.out); (case aF => exact (fun _ _ => trivial)); (case aO => exact HO5.out); (case aS => exact below_size HB.out); (case aL => have := HL.out; simp only [List.length_nil]; omega); intro v10 w6 ho hb _ _; have HO6 := Aside0.mk ho; clear HB; have HB := Aside0.mk hb; clear ho hb))
  go_ret
  exact ⟨_, rfl, HO6.out, HB.out⟩

/-! ### sky_Shift: function 13 -/
mutual
def sky_Shift.j0 : Nat → List (S33) → Int → Int → Bool → Option ((List (S33)) × Int)
 | 0, _, _, _, _ => none
 | k + 1, x0, x1, x2, x29 => if x29 = true then (some (([] : List (S33)), 16)) else ((slices_Clone__api_Lamp_api_Lamp.f x0).bind fun t123 => (sky_Shift.l0 k x1 x2 t123 (t123.length : Int) 0))
def sky_Shift.l0 : Nat → Int → Int → List (S33) → Int → Int → Option ((List (S33)) × Int)
 | 0, _, _, _, _, _ => none
 | k + 1, x1, x2, x10, x33, x34 => if x34 < x33 then (if 0 ≤ x34 then (if x34 < (x10.length : Int) then ((some (x10.set (x34 : Int).toNat (⟨wrap64 (((rd_T33 x10 x34).f0) + x1), (rd_T33 x10 x34).f1, (rd_T33 x10 x34).f2⟩ : S33) : List (S33))).bind fun y127 => ((some (y127.set (x34 : Int).toNat (⟨(rd_T33 y127 x34).f0, wrap64 (((rd_T33 y127 x34).f1) + x2), (rd_T33 y127 x34).f2⟩ : S33) : List (S33))).bind fun y129 => ((sky_cell.f ((rd_T33 y129 x34).f0)).bind fun t131 => (if t131 = true then ((sky_cell.f ((rd_T33 y129 x34).f1)).bind fun t133 => (if t133 = true then (sky_Shift.l0 k x1 x2 y129 x33 (wrap64 (x34 + 1))) else (some (([] : List (S33)), 16)))) else (some (([] : List (S33)), 16)))))) else (none)) else (none)) else (some (x10, 0))
end
def sky_Shift.f (k : Nat) (l0 : List (S33)) (a1 : Int) (a2 : Int) : Option ((List (S33)) × Int) := (sky_Check.f k l0).bind fun t120 => (if t120 = 0 then (if (l0.length : Int) > 0 then ((sky_Shift_1.f a1).bind fun t121 => (if t121 = true then (sky_Shift.j0 k l0 a1 a2 true) else ((sky_Shift_1.f a2).bind fun t122 => (sky_Shift.j0 k l0 a1 a2 t122)))) else (sky_Shift.j0 k l0 a1 a2 false)) else (some (([] : List (S33)), t120)))
theorem sky_Shift.mono_l : ∀ k, (∀ y0 y1 y2 y3, LeO (sky_Shift.j0 k y0 y1 y2 y3) (sky_Shift.j0 (k + 1) y0 y1 y2 y3)) ∧ (∀ y0 y1 y2 y3 y4, LeO (sky_Shift.l0 k y0 y1 y2 y3 y4) (sky_Shift.l0 (k + 1) y0 y1 y2 y3 y4))
 | 0 => ⟨fun _ _ _ _ r h => by simp [sky_Shift.j0] at h, fun _ _ _ _ _ r h => by simp [sky_Shift.l0] at h⟩
 | k + 1 => by
  obtain ⟨ih0, ih1⟩ := sky_Shift.mono_l k
  refine ⟨?_, ?_⟩
  ·intro y0 y1 y2 y3
   unfold sky_Shift.j0
   repeat' first
   | (with_reducible exact ih0 _ _ _ _)
   | (with_reducible exact ih1 _ _ _ _ _)
   | (with_reducible exact sky_Check.mono _ _)
   | (with_reducible exact LeO.refl _)
   | (with_reducible exact LeO.none _)
   | (with_reducible refine LeO.ite ?_ ?_)
   | (with_reducible refine LeO.bind ?_ (fun _ => ?_))
   | exact ih0 _ _ _ _
   | exact ih1 _ _ _ _ _
   | exact sky_Check.mono _ _
   | exact LeO.none _
   | refine LeO.ite ?_ ?_
   | refine LeO.bind ?_ (fun _ => ?_)
  ·intro y0 y1 y2 y3 y4
   unfold sky_Shift.l0
   repeat' first
   | (with_reducible exact ih0 _ _ _ _)
   | (with_reducible exact ih1 _ _ _ _ _)
   | (with_reducible exact sky_Check.mono _ _)
   | (with_reducible exact LeO.refl _)
   | (with_reducible exact LeO.none _)
   | (with_reducible refine LeO.ite ?_ ?_)
   | (with_reducible refine LeO.bind ?_ (fun _ => ?_))
   | exact ih0 _ _ _ _
   | exact ih1 _ _ _ _ _
   | exact sky_Check.mono _ _
   | exact LeO.none _
   | refine LeO.ite ?_ ?_
   | refine LeO.bind ?_ (fun _ => ?_)
theorem sky_Shift.mono : ∀ a0 a1 a2 k, LeO (sky_Shift.f k a0 a1 a2) (sky_Shift.f (k + 1) a0 a1 a2) := by
 intro a0 a1 a2 k
 obtain ⟨ih0, ih1⟩ := sky_Shift.mono_l k
 unfold sky_Shift.f
 repeat' first
   | (with_reducible exact ih0 _ _ _ _)
   | (with_reducible exact ih1 _ _ _ _ _)
   | (with_reducible exact sky_Check.mono _ _)
   | (with_reducible exact LeO.refl _)
   | (with_reducible exact LeO.none _)
   | (with_reducible refine LeO.ite ?_ ?_)
   | (with_reducible refine LeO.bind ?_ (fun _ => ?_))
   | exact ih0 _ _ _ _
   | exact ih1 _ _ _ _ _
   | exact sky_Check.mono _ _
   | exact LeO.none _
   | refine LeO.ite ?_ ?_
   | refine LeO.bind ?_ (fun _ => ?_)
set_option maxHeartbeats 8000000 in
set_option maxRecDepth 100000 in
theorem sky_Shift.calls (k : Nat) (A0 : Option Addr) (c0 : Nat) (l0 : List (S33)) (a1 : Int) (a2 : Int) (r1 : List (S33)) (r2 : Int) (w : World) (hr0 : Kd.C k33 w A0 l0.length l0) (hc0 : l0.length ≤ c0) (h : sky_Shift.f k l0 a1 a2 = some (r1, r2)) :
  Calls Try.prog 13 #[.slice A0 l0.length c0, .int .i64 a1, .int .i64 a2] w fun e w' => ∃ v0_ : Value, e = .returned (.tuple #[v0_, .int .i64 r2]) ∧ Kd.R k33 33 w' w.heap.size (fun _ => True) v0_ r1 ∧ Below w.heap.size w w' := by
 have HR0 := Aside0.mk hr0
 have HC0 := Aside0.mk hc0
 clear hr0 hc0
 have HB := Aside0.mk (Below.refl w.heap.size w)
 have H : ((sky_Check.f k l0).bind fun t120 => (if t120 = 0 then (if (l0.length : Int) > 0 then ((sky_Shift_1.f a1).bind fun t121 => (if t121 = true then (sky_Shift.j0 k l0 a1 a2 true) else ((sky_Shift_1.f a2).bind fun t122 => (sky_Shift.j0 k l0 a1 a2 t122)))) else (sky_Shift.j0 k l0 a1 a2 false)) else (some (([] : List (S33)), t120)))) = some (r1, r2) := h
 clear h
 replace H := Option.bind_eq_some_iff.mp H
 obtain ⟨t120, A40, H⟩ := H
 replace H : (if t120 = 0 then (if (l0.length : Int) > 0 then ((sky_Shift_1.f a1).bind fun t121 => (if t121 = true then (sky_Shift.j0 k l0 a1 a2 true) else ((sky_Shift_1.f a2).bind fun t122 => (sky_Shift.j0 k l0 a1 a2 t122)))) else (sky_Shift.j0 k l0 a1 a2 false)) else (some (([] : List (S33)), t120))) = some (r1, r2) := H
 have A4 := Aside0.mk A40
 clear A40
 by_cases c5 : t120 = 0
 ·rw [if_pos c5] at H
  have c5b0 : (t120 == 0) = true := beq_iff_eq.mpr c5
  have c5b1 : (t120 != 0) = false := bne_eq_false_iff_eq.mpr c5
  clear c5
  have HC6 := Aside0.mk H
  clear H
  go_enter Try.func13, Try.ntmps13
  go_upto_region 5 with (first | ((with_reducible refine gate_callee (f := 27) rfl ?_); refine goesL_ (some 13) rfl rfl Try.func27 (by kernel_rfl) rfl #[.slice A0 l0.length c0] rfl (by (try simp only [List.map_toArray, List.map_cons, List.map_nil]); first | done | rfl | (simp only [List.length_drop, List.length_take]; rfl)) ?_; (with_reducible refine (sky_Check.calls k _ _ l0 t120 _ ?side1 ?side2 A4.out).mono ?_); (case side1 => repeat (first | exact HR0.out | (with_reducible refine Kd.C_alloc ?_ _) | (with_reducible refine Kd.C_drewN ?_ _) | (with_reducible refine Kd.C_drew ?_))); (case side2 => exact HC0.out); rintro e w7 ⟨rfl, hb⟩; refine ⟨_, rfl, ?_⟩; have n0_ := Aside0.mk (below_step (by repeat (first | (with_reducible first | exact HB.out | apply below_alloc | apply pw_below_drewN | apply below_drew1) | exact HB.out)) hb); clear HB; have HB := n0_; clear n0_; (try clear hb); (try clear hb2); (try clear hk); (try clear hi)))
  (try simp only [Act.put, List.setIfInBounds_toArray, List.set_cons_zero, List.set_cons_succ])
  go_cut [29] (fun v29 wc => ∃ (kq : Nat) (x29_5 : Bool), v29 = .bool x29_5 ∧ Aside0 (sky_Shift.j0 kq l0 a1 a2 x29_5 = some (r1, r2)) ∧ Aside0 (kq ≤ k) ∧ Aside0 (Below w.heap.size w wc))
  case first =>
   have H := HC6.out
   clear HC6
   by_cases c8 : (l0.length : Int) > 0
   ·rw [if_pos c8] at H
    have c8b0 : decide (0 < (l0.length : Int)) = true := decide_eq_true c8
    have c8b1 : decide (0 < l0.length) = true := decide_eq_true (by omega)
    clear c8
    (first | rw [c8b0] | (simp only [i64_w, i32_w]; rw [c8b0]) | skip)
    replace H := Option.bind_eq_some_iff.mp H
    obtain ⟨t121, A90, H⟩ := H
    replace H : (if t121 = true then (sky_Shift.j0 k l0 a1 a2 true) else ((sky_Shift_1.f a2).bind fun t122 => (sky_Shift.j0 k l0 a1 a2 t122))) = some (r1, r2) := H
    have A9 := Aside0.mk A90
    clear A90
    by_cases c10 : t121 = true
    ·subst c10
     have H1 : (sky_Shift.j0 k l0 a1 a2 true) = some (r1, r2) := by first | (with_reducible rfl) | (rw [if_pos rfl] at H; exact H)
     clear H
     have H := H1
     clear H1
     have H' := Aside0.mk H
     clear H
     go_wp2_with (first | (go_at_call 35; (with_reducible refine (sky_Shift_1.calls a1 true _ A9.out).mono ?_); rintro e w' ⟨rfl, ⟨nd, rfl⟩⟩))
     go_meet
     case rel => exact ⟨_, (true), (by first | rfl | (simp; done) | (simp [*]; done)), H', ⟨by first | omega | exact Nat.le_refl _⟩, ⟨by repeat (first | (with_reducible first | exact HB.out | apply below_alloc | apply pw_below_drewN | apply below_drew1) | exact HB.out)⟩⟩
    ·replace c10 := Bool.eq_false_iff.mpr c10
     subst c10
     have H1 : ((sky_Shift_1.f a2).bind fun t122 => (sky_Shift.j0 k l0 a1 a2 t122)) = some (r1, r2) := by first | (with_reducible rfl) | (rw [if_neg (show ¬ (false = true) by decide)] at H; exact H)
     clear H
     have H := H1
     clear H1
     replace H := Option.bind_eq_some_iff.mp H
     obtain ⟨t122, A110, H⟩ := H
     replace H : (sky_Shift.j0 k l0 a1 a2 t122) = some (r1, r2) := H
     have A11 := Aside0.mk A110
     clear A110
     have H' := Aside0.mk H
     clear H
     go_wp2_with (first | (go_at_call 35; (with_reducible refine (sky_Shift_1.calls a1 false _ A9.out).mono ?_); rintro e w' ⟨rfl, ⟨nd, rfl⟩⟩) | (go_at_call 35; (with_reducible refine (sky_Shift_1.calls a2 t122 _ A11.out).mono ?_); rintro e w' ⟨rfl, ⟨nd, rfl⟩⟩))
     go_meet
     case rel => exact ⟨_, (t122), (by first | rfl | (simp; done) | (simp [*]; done)), H', ⟨by first | omega | exact Nat.le_refl _⟩, ⟨by repeat (first | (with_reducible first | exact HB.out | apply below_alloc | apply pw_below_drewN | apply below_drew1) | exact HB.out)⟩⟩
   ·rw [if_neg c8] at H
    have c8b0 : decide (0 < (l0.length : Int)) = false := decide_eq_false c8
    have c8b1 : decide (0 < l0.length) = false := decide_eq_false (by omega)
    clear c8
    (first | rw [c8b0] | (simp only [i64_w, i32_w]; rw [c8b0]) | skip)
    have H' := Aside0.mk H
    clear H
    go_wp2
    go_meet
    case rel => exact ⟨_, (false), (by first | rfl | (simp; done) | (simp [*]; done)), H', ⟨by first | omega | exact Nat.le_refl _⟩, ⟨by repeat (first | (with_reducible first | exact HB.out | apply below_alloc | apply pw_below_drewN | apply below_drew1) | exact HB.out)⟩⟩
  case rest =>
   clear HC6
   try clear c1
   try clear c2
   try clear p2
   try clear c5
   try clear c5b0
   try clear c5b1
   try clear c8
   try clear c8b0
   try clear c8b1
   try clear c10
   obtain ⟨kq, x29_5, rfl, HA, HJ5, HB⟩ := hcut
   cases kq with
   | zero => exact absurd HA.out (by simp [sky_Shift.j0])
   | succ kj5 =>
    have H := HA.out
    clear HA
    simp only [sky_Shift.j0] at H
    by_cases c12 : x29_5 = true
    ·subst c12
     have H1 : (some (([] : List (S33)), 16)) = some (r1, r2) := by first | (with_reducible rfl) | (rw [if_pos rfl] at H; exact H)
     clear H
     have H := H1
     clear H1
     simp only [Option.some.injEq, Prod.mk.injEq] at H
     obtain ⟨rfl, rfl⟩ := H
     go_wp2
     go_ret2
     exact ⟨_, by first | rfl | (simp [errW_none, errW_some] <;> rfl) | (simp [*, errW_none, errW_some] <;> rfl), by first | exact Kd.R_nil _ _ _ _ _ | exact Kd.N_nil _ _ _ _ _ | exact Kd.V_nil _ _ _ _ _ | exact Kd.Q_nil _ _ _ _ _ | exact Kd.S_nil _ _ _ _ _, by repeat (first | (with_reducible first | exact HB.out | apply below_alloc | apply pw_below_drewN | apply below_drew1) | exact HB.out)⟩
    ·replace c12 := Bool.eq_false_iff.mpr c12
     subst c12
     have H1 : ((slices_Clone__api_Lamp_api_Lamp.f l0).bind fun t123 => (sky_Shift.l0 kj5 a1 a2 t123 (t123.length : Int) 0)) = some (r1, r2) := by first | (with_reducible rfl) | (rw [if_neg (show ¬ (false = true) by decide)] at H; exact H)
     clear H
     have H := H1
     clear H1
     replace H := Option.bind_eq_some_iff.mp H
     obtain ⟨t123, A130, H⟩ := H
     replace H : (sky_Shift.l0 kj5 a1 a2 t123 (t123.length : Int) 0) = some (r1, r2) := H
     have A13 := Aside0.mk A130
     clear A130
     have H' := Aside0.mk H
     clear H
     go_wp2_with (first | ((with_reducible refine gate_callee (f := 36) rfl ?_); refine goesL_ (some 31) rfl rfl Try.func36 (by kernel_rfl) rfl #[.slice A0 l0.length c0] rfl (by (try simp only [List.map_toArray, List.map_cons, List.map_nil]); first | done | rfl | (simp only [List.length_drop, List.length_take]; rfl)) ?_; (with_reducible refine (slices_Clone__api_Lamp_api_Lamp.calls _ _ l0 t123 _ ?side1 ?side2 A13.out).mono ?_); (case side1 => repeat (first | exact (Kd.C_below HR0.out HB.out) | (with_reducible refine Kd.C_alloc ?_ _) | (with_reducible refine Kd.C_drewN ?_ _) | (with_reducible refine Kd.C_drew ?_))); (case side2 => exact HC0.out); rintro e w14 ⟨v124, rfl, ho0, hb⟩; refine ⟨_, rfl, ?_⟩; have n0_ := Aside0.mk (Kd.R_lower ho0 (below_size (by repeat (first | (with_reducible first | exact HB.out | apply below_alloc | apply pw_below_drewN | apply below_drew1) | exact HB.out)))); have n1_ := Aside0.mk (below_step (by repeat (first | (with_reducible first | exact HB.out | apply below_alloc | apply pw_below_drewN | apply below_drew1) | exact HB.out)) hb); clear HB; have HO125 := n0_; have HB := n1_; clear n0_ n1_; (try clear hb); (try clear hb2); (try clear hk); (try clear hi); (try clear ho0); obtain ⟨Ao15, co15, eo15⟩ := Kd.R_slice HO125.out; subst eo15))
     go_loopg [34] kj5 (fun kq v34 w' => ∃ (x10_2 : List (S33)) (x34_2 : Int), v34 = .int .i64 x34_2 ∧ Aside0 (sky_Shift.l0 kq a1 a2 x10_2 (t123.length : Int) x34_2 = some (r1, r2)) ∧ Aside0 (kq ≤ kj5) ∧ Aside0 (Kd.R k33 33 w' w.heap.size (fun _ => True) (.slice Ao15 t123.length co15) x10_2) ∧ Aside0 (Below w.heap.size w w'))
     case atStart => exact ⟨(t123), (0), (by first | rfl | (simp; done) | (simp [*]; done)), H', ⟨Nat.le_refl _⟩, ⟨by (with_reducible repeat (first | apply Kd.R_alloc | apply Kd.R_drewN | apply Kd.R_drew)); exact HO125.out⟩, ⟨by repeat (first | (with_reducible first | exact HB.out | apply below_alloc | apply pw_below_drewN | apply below_drew1) | exact HB.out)⟩⟩
     case round =>
      clear H'
      try clear c1
      try clear c2
      try clear p2
      try clear c3
      try clear c5
      try clear c5b0
      try clear c5b1
      try clear c8
      try clear c8b0
      try clear c8b1
      try clear c10
      try clear c12
      try clear c13
      try clear p2
      obtain ⟨x10_2, x34_2, rfl, HA, HK2, HO_10, HB⟩ := hrel
      have hl10_2 := (Kd.R_reads' HO_10.out).1
      rw [hl10_2] at HO_10
      (try simp only [hl10_2])
      cases gk with
      | zero => exact absurd HA.out (by simp [sky_Shift.l0])
      | succ k2 =>
       have H := HA.out
       clear HA
       simp only [sky_Shift.l0] at H
       by_cases c16 : x34_2 < (t123.length : Int)
       ·rw [if_pos c16] at H
        have c16b0 : decide (x34_2 < (t123.length : Int)) = true := decide_eq_true c16
        (try simp only [hl10_2] at c16b0)
        clear c16
        by_cases c17 : 0 ≤ x34_2
        ·rw [if_pos c17] at H
         have c17b0 : decide (0 ≤ x34_2) = true := decide_eq_true c17
         (try simp only [hl10_2] at c17b0)
         clear c17
         by_cases c18 : x34_2 < (x10_2.length : Int)
         ·rw [if_pos c18] at H
          have c18b0 : decide (x34_2 < (x10_2.length : Int)) = true := decide_eq_true c18
          (try simp only [hl10_2] at c18b0)
          clear c18
          obtain ⟨y127, hy127⟩ : ∃ y_ : List (S33), y_ = (x10_2.set (x34_2 : Int).toNat (⟨wrap64 (((rd_T33 x10_2 x34_2).f0) + a1), (rd_T33 x10_2 x34_2).f1, (rd_T33 x10_2 x34_2).f2⟩ : S33)) := ⟨_, rfl⟩
          replace H : ((some (y127.set (x34_2 : Int).toNat (⟨(rd_T33 y127 x34_2).f0, wrap64 (((rd_T33 y127 x34_2).f1) + a2), (rd_T33 y127 x34_2).f2⟩ : S33) : List (S33))).bind fun y129 => ((sky_cell.f ((rd_T33 y129 x34_2).f0)).bind fun t131 => (if t131 = true then ((sky_cell.f ((rd_T33 y129 x34_2).f1)).bind fun t133 => (if t133 = true then (sky_Shift.l0 k2 a1 a2 y129 (t123.length : Int) (wrap64 (x34_2 + 1))) else (some (([] : List (S33)), 16)))) else (some (([] : List (S33)), 16))))) = some (r1, r2) := by first | (rw [hy127]; with_reducible exact H) | (have H2_ := (Option.bind_some _ _).symm.trans H; rw [hy127]; with_reducible exact H2_) | (have H2_ := (Option.bind_some _ _).symm.trans H; with_reducible exact H2_) | with_reducible exact H | (rw [hy127]; exact H) | exact H
          have Ny127 := Aside0.mk hy127
          clear hy127
          obtain ⟨y129, hy129⟩ : ∃ y_ : List (S33), y_ = (y127.set (x34_2 : Int).toNat (⟨(rd_T33 y127 x34_2).f0, wrap64 (((rd_T33 y127 x34_2).f1) + a2), (rd_T33 y127 x34_2).f2⟩ : S33)) := ⟨_, rfl⟩
          replace H : ((sky_cell.f ((rd_T33 y129 x34_2).f0)).bind fun t131 => (if t131 = true then ((sky_cell.f ((rd_T33 y129 x34_2).f1)).bind fun t133 => (if t133 = true then (sky_Shift.l0 k2 a1 a2 y129 (t123.length : Int) (wrap64 (x34_2 + 1))) else (some (([] : List (S33)), 16)))) else (some (([] : List (S33)), 16)))) = some (r1, r2) := by first | (rw [hy129]; with_reducible exact H) | (have H2_ := (Option.bind_some _ _).symm.trans H; rw [hy129]; with_reducible exact H2_) | (have H2_ := (Option.bind_some _ _).symm.trans H; with_reducible exact H2_) | with_reducible exact H | (rw [hy129]; exact H) | exact H
          have Ny129 := Aside0.mk hy129
          clear hy129
          replace H := Option.bind_eq_some_iff.mp H
          obtain ⟨t131, A210, H⟩ := H
          replace H : (if t131 = true then ((sky_cell.f ((rd_T33 y129 x34_2).f1)).bind fun t133 => (if t133 = true then (sky_Shift.l0 k2 a1 a2 y129 (t123.length : Int) (wrap64 (x34_2 + 1))) else (some (([] : List (S33)), 16)))) else (some (([] : List (S33)), 16))) = some (r1, r2) := H
          have A21 := Aside0.mk A210
          clear A210
          by_cases c22 : t131 = true
          ·subst c22
           have H1 : ((sky_cell.f ((rd_T33 y129 x34_2).f1)).bind fun t133 => (if t133 = true then (sky_Shift.l0 k2 a1 a2 y129 (t123.length : Int) (wrap64 (x34_2 + 1))) else (some (([] : List (S33)), 16)))) = some (r1, r2) := by first | (with_reducible rfl) | (rw [if_pos rfl] at H; exact H)
           clear H
           have H := H1
           clear H1
           replace H := Option.bind_eq_some_iff.mp H
           obtain ⟨t133, A230, H⟩ := H
           replace H : (if t133 = true then (sky_Shift.l0 k2 a1 a2 y129 (t123.length : Int) (wrap64 (x34_2 + 1))) else (some (([] : List (S33)), 16))) = some (r1, r2) := H
           have A23 := Aside0.mk A230
           clear A230
           by_cases c24 : t133 = true
           ·subst c24
            have H1 : (sky_Shift.l0 k2 a1 a2 y129 (t123.length : Int) (wrap64 (x34_2 + 1))) = some (r1, r2) := by first | (with_reducible rfl) | (rw [if_pos rfl] at H; exact H)
            clear H
            have H := H1
            clear H1
            have H' := Aside0.mk H
            clear H
            have p126 : 0 ≤ (x34_2 : Int) := of_decide_eq_true (by first | (with_reducible assumption) | assumption)
            have q126 : x34_2 < (x10_2.length : Int) := of_decide_eq_true (by first | (with_reducible assumption) | assumption)
            obtain ⟨ad126, e126, hx126_0, hx126_1, hx126_2⟩ := at_T33 (Kd.R_reads' HO_10.out).2.2 x34_2 p126 q126
            cases e126
            replace p126 := eq_true p126
            replace q126 := eq_true q126
            have p19 : 0 ≤ (x34_2 : Int) := of_decide_eq_true (by first | (with_reducible assumption) | assumption)
            have q19 : (x34_2 : Int) < ((x10_2.length : Int) : Int) := of_decide_eq_true (by first | (with_reducible assumption) | assumption)
            obtain ⟨go19, co19, eo19, gb19, gl19, cl19, HG19⟩ := Kd.R_form HO_10.out (by omega)
            (first | cases eo19 | (injection eo19 with ea_ en_ ec_; (first | subst ea_ | (injection ea_ with ea_; subst ea_)); subst ec_; clear en_))
            have GB19 := Aside0.mk gb19
            have GG19 := Aside0.mk HG19
            clear gb19 gl19 HG19
            (first | simp only [add_plain] at hx126_0 | skip)
            (first | simp only [add_plain] at hx126_1 | skip)
            (first | simp only [add_plain] at hx126_2 | skip)
            obtain ⟨ce19, hcl19, hM19, hcc19, hfr19⟩ := Kd.R_elem HO_10.out z33 (x34_2 : Int) p19 q19
            obtain rfl := k33_openM hM19
            have hx19_0 : wr.cell? ⟨go19, (x34_2 : Int).toNat * 3, none⟩ = some (.int .i64 ((rd_T33 x10_2 x34_2).f0)) := hcc19 0 _ rfl
            have hx19_1 : wr.cell? ⟨go19, (x34_2 : Int).toNat * 3 + 1, none⟩ = some (.int .i64 ((rd_T33 x10_2 x34_2).f1)) := hcc19 1 _ rfl
            have hx19_2 : wr.cell? ⟨go19, (x34_2 : Int).toNat * 3 + 2, none⟩ = some (.int .i64 ((rd_T33 x10_2 x34_2).f2)) := hcc19 2 _ rfl
            have hf19_0 : wr.frozen? ⟨go19, (x34_2 : Int).toNat * 3, none⟩ = false := hfr19 0
            have hf19_1 : wr.frozen? ⟨go19, (x34_2 : Int).toNat * 3 + 1, none⟩ = false := hfr19 1
            have hf19_2 : wr.frozen? ⟨go19, (x34_2 : Int).toNat * 3 + 2, none⟩ = false := hfr19 2
            clear hcl19 hcc19 hfr19 hM19
            replace p19 := eq_true p19
            replace q19 := eq_true q19
            have HX25 := Aside0.mk (show Kd.R k33 33 wr w.heap.size (fun _ => True) (.slice (some ⟨go19, 0, none⟩) x10_2.length co15) x10_2 from (by (with_reducible repeat (first | apply Kd.R_alloc | apply Kd.R_drewN | apply Kd.R_drew)); exact HO_10.out))
            obtain ⟨ce25, hcl25, hM25, hcc25, hfr25⟩ := Kd.R_elem HX25.out z33 (x34_2 : Int) (of_decide_eq_true (by first | (with_reducible assumption) | assumption)) (by have h_ : (x34_2 : Int) < ((x10_2.length : Int) : Int) := of_decide_eq_true (by first | (with_reducible assumption) | assumption); first | exact h_ | (have e_ := (Kd.R_reads' HO_10.out).1; omega) | simpa using h_)
            obtain rfl := k33_openM hM25
            have HP25 := Kd.R_seg HX25.out (x34_2 : Int) (of_decide_eq_true (by first | (with_reducible assumption) | assumption)) (by have h_ : (x34_2 : Int) < ((x10_2.length : Int) : Int) := of_decide_eq_true (by first | (with_reducible assumption) | assumption); first | exact h_ | (have e_ := (Kd.R_reads' HO_10.out).1; omega) | simpa using h_) (seg := [.int .i64 (wrap64 (((rd_T33 x10_2 x34_2).f0) + a1))]) (j := 0) hcl25 hcc25 (show 1 ≤ 3 from by decide) (x' := (⟨wrap64 (((rd_T33 x10_2 x34_2).f0) + a1), (rd_T33 x10_2 x34_2).f1, (rd_T33 x10_2 x34_2).f2⟩ : S33)) (k33_mkM _ _ _ (⟨wrap64 (((rd_T33 x10_2 x34_2).f0) + a1), (rd_T33 x10_2 x34_2).f1, (rd_T33 x10_2 x34_2).f2⟩ : S33) ) (fun _ hk => hk)
            have hx25_0 := hcc25 0 _ rfl
            (try simp only [show (k33).sz = 3 from rfl, Nat.mul_one, Nat.add_zero] at hx25_0)
            have hf25_0 := hfr25 0
            (try simp only [show (k33).sz = 3 from rfl, Nat.mul_one, Nat.add_zero] at hf25_0)
            clear hcl25 hcc25 hfr25 hM25
            go_wp2_with (first | ((with_reducible refine gate_store (t := 3) (p := 45) rfl ?_); refine store_event (t := 3) (p := 45) (v := ?vo_w26) (w1 := (wr.setCell ⟨go19, (x34_2 : Int).toNat * 3, none⟩ (.int .i64 (wrap64 (((rd_T33 x10_2 x34_2).f0) + a1))))) ?hg ?ho ?hn ?hr ?_; (case ho => rfl); (case hg => rfl); (case hn => rfl); (case hr => first | (go_simp; done) | (go_simp; rfl)); intro w26 hw; have hg : wr.grownBy w26 (some go19) := (by rw [hw]; exact HP25.2); have hp_ : Kd.R k33 33 w26 w.heap.size (fun _ => True) (.slice (some ⟨go19, 0, none⟩) x10_2.length co15) y127 := (by rw [hw, Ny127.out]; exact HP25.1); clear HP25; have n0_ := Aside0.mk (hp_); have n1_ := Aside0.mk ((by rw [hw]; exact below_set (HB.out) GB19.out : Below w.heap.size w w26)); clear HO_10; clear HB; have HO_10 := n0_; have HB := n1_; clear n0_ n1_; clear hg hw hp_; have p128 : 0 ≤ (x34_2 : Int) := of_decide_eq_true (by first | (with_reducible assumption) | assumption); have q128 : x34_2 < (y127.length : Int) := (by have h_ : (x34_2 : Int) < ((x10_2.length : Int) : Int) := of_decide_eq_true (by first | (with_reducible assumption) | assumption); first | (have e_ := (Kd.R_reads' HO_10.out).1; omega) | simpa only [Ny127.out, List.length_set] using h_); have ql128 : ((x34_2 : Int) < ((x10_2.length : Int) : Int)) = True := eq_true (of_decide_eq_true (by first | (with_reducible assumption) | assumption)); obtain ⟨ad128, e128, hx128_0, hx128_1, hx128_2⟩ := at_T33 (Kd.R_reads' HO_10.out).2.2 x34_2 p128 q128; obtain rfl : (⟨go19, 0, none⟩ : Addr) = ad128 := (by injection e128); (first | simp only [add_plain] at hx128_0 | simp only [add_at] at hx128_0 | simp only [Addr.add, Nat.zero_add] at hx128_0 | skip); (first | simp only [add_plain] at hx128_1 | simp only [add_at] at hx128_1 | simp only [Addr.add, Nat.zero_add] at hx128_1 | skip); (first | simp only [add_plain] at hx128_2 | simp only [add_at] at hx128_2 | simp only [Addr.add, Nat.zero_add] at hx128_2 | skip); replace p128 := eq_true p128; replace q128 := eq_true q128; have p20 : 0 ≤ (x34_2 : Int) := of_decide_eq_true (by first | (with_reducible assumption) | assumption); have q20 : (x34_2 : Int) < ((x10_2.length : Int) : Int) := of_decide_eq_true (by first | (with_reducible assumption) | assumption); obtain ⟨ce20, hcl20, hM20, hcc20, hfr20⟩ := Kd.R_elem HO_10.out z33 (x34_2 : Int) p20 q20; obtain rfl := k33_openM hM20; have hx20_0 : w26.cell? ⟨go19, (x34_2 : Int).toNat * 3, none⟩ = some (.int .i64 ((rd_T33 y127 x34_2).f0)) := hcc20 0 _ rfl; have hx20_1 : w26.cell? ⟨go19, (x34_2 : Int).toNat * 3 + 1, none⟩ = some (.int .i64 ((rd_T33 y127 x34_2).f1)) := hcc20 1 _ rfl; have hx20_2 : w26.cell? ⟨go19, (x34_2 : Int).toNat * 3 + 2, none⟩ = some (.int .i64 ((rd_T33 y127 x34_2).f2)) := hcc20 2 _ rfl; have hf20_0 : w26.frozen? ⟨go19, (x34_2 : Int).toNat * 3, none⟩ = false := hfr20 0; have hf20_1 : w26.frozen? ⟨go19, (x34_2 : Int).toNat * 3 + 1, none⟩ = false := hfr20 1; have hf20_2 : w26.frozen? ⟨go19, (x34_2 : Int).toNat * 3 + 2, none⟩ = false := hfr20 2; clear hcl20 hcc20 hfr20 hM20; replace p20 := eq_true p20; replace q20 := eq_true q20; have HX27 := Aside0.mk (show Kd.R k33 33 w26 w.heap.size (fun _ => True) (.slice (some ⟨go19, 0, none⟩) x10_2.length co15) y127 from (by (with_reducible repeat (first | apply Kd.R_alloc | apply Kd.R_drewN | apply Kd.R_drew)); exact HO_10.out)); obtain ⟨ce27, hcl27, hM27, hcc27, hfr27⟩ := Kd.R_elem HX27.out z33 (x34_2 : Int) (of_decide_eq_true (by first | (with_reducible assumption) | assumption)) (by have h_ : (x34_2 : Int) < ((x10_2.length : Int) : Int) := of_decide_eq_true (by first | (with_reducible assumption) | assumption); first | exact h_ | (have e_ := (Kd.R_reads' HO_10.out).1; omega) | simpa using h_); obtain rfl := k33_openM hM27; have HP27 := Kd.R_seg HX27.out (x34_2 : Int) (of_decide_eq_true (by first | (with_reducible assumption) | assumption)) (by have h_ : (x34_2 : Int) < ((x10_2.length : Int) : Int) := of_decide_eq_true (by first | (with_reducible assumption) | assumption); first | exact h_ | (have e_ := (Kd.R_reads' HO_10.out).1; omega) | simpa using h_) (seg := [.int .i64 (wrap64 (((rd_T33 y127 x34_2).f1) + a2))]) (j := 1) hcl27 hcc27 (show 2 ≤ 3 from by decide) (x' := (⟨(rd_T33 y127 x34_2).f0, wrap64 (((rd_T33 y127 x34_2).f1) + a2), (rd_T33 y127 x34_2).f2⟩ : S33)) (k33_mkM _ _ _ (⟨(rd_T33 y127 x34_2).f0, wrap64 (((rd_T33 y127 x34_2).f1) + a2), (rd_T33 y127 x34_2).f2⟩ : S33) ) (fun _ hk => hk); have hx27_1 := hcc27 1 _ rfl; (try simp only [show (k33).sz = 3 from rfl, Nat.mul_one, Nat.add_zero] at hx27_1); have hf27_1 := hfr27 1; (try simp only [show (k33).sz = 3 from rfl, Nat.mul_one, Nat.add_zero] at hf27_1); clear hcl27 hcc27 hfr27 hM27) | ((with_reducible refine gate_store (t := 3) (p := 54) rfl ?_); refine store_event (t := 3) (p := 54) (v := ?vo_w28) (w1 := (w26.setCell ⟨go19, (x34_2 : Int).toNat * 3 + 1, none⟩ (.int .i64 (wrap64 (((rd_T33 y127 x34_2).f1) + a2))))) ?hg ?ho ?hn ?hr ?_; (case ho => rfl); (case hg => rfl); (case hn => rfl); (case hr => first | (go_simp; done) | (go_simp; rfl)); intro w28 hw; have hg : w26.grownBy w28 (some go19) := (by rw [hw]; exact HP27.2); have hp_ : Kd.R k33 33 w28 w.heap.size (fun _ => True) (.slice (some ⟨go19, 0, none⟩) x10_2.length co15) y129 := (by rw [hw, Ny129.out]; exact HP27.1); clear HP27; have n0_ := Aside0.mk (hp_); have n1_ := Aside0.mk ((by rw [hw]; exact below_set (HB.out) GB19.out : Below w.heap.size w w28)); clear HO_10; clear HB; have HO_10 := n0_; have HB := n1_; clear n0_ n1_; clear hg hw hp_; have p130 : 0 ≤ (x34_2 : Int) := of_decide_eq_true (by first | (with_reducible assumption) | assumption); have q130 : x34_2 < (y129.length : Int) := (by have h_ : (x34_2 : Int) < ((x10_2.length : Int) : Int) := of_decide_eq_true (by first | (with_reducible assumption) | assumption); first | (have e_ := (Kd.R_reads' HO_10.out).1; omega) | simpa only [Ny127.out, Ny129.out, List.length_set] using h_); have ql130 : ((x34_2 : Int) < ((x10_2.length : Int) : Int)) = True := eq_true (of_decide_eq_true (by first | (with_reducible assumption) | assumption)); obtain ⟨ad130, e130, hx130_0, hx130_1, hx130_2⟩ := at_T33 (Kd.R_reads' HO_10.out).2.2 x34_2 p130 q130; obtain rfl : (⟨go19, 0, none⟩ : Addr) = ad130 := (by injection e130); (first | simp only [add_plain] at hx130_0 | simp only [add_at] at hx130_0 | simp only [Addr.add, Nat.zero_add] at hx130_0 | skip); (first | simp only [add_plain] at hx130_1 | simp only [add_at] at hx130_1 | simp only [Addr.add, Nat.zero_add] at hx130_1 | skip); (first | simp only [add_plain] at hx130_2 | simp only [add_at] at hx130_2 | simp only [Addr.add, Nat.zero_add] at hx130_2 | skip); replace p130 := eq_true p130; replace q130 := eq_true q130) | ((with_reducible refine gate_callee (f := 37) rfl ?_); refine goesL_ (some 60) rfl rfl Try.func37 (by kernel_rfl) rfl #[.int .i64 ((rd_T33 y129 x34_2).f0)] rfl (by (try simp only [List.map_toArray, List.map_cons, List.map_nil]); first | done | rfl | (simp only [List.length_drop, List.length_take]; rfl)) ?_; (with_reducible refine (sky_cell.calls ((rd_T33 y129 x34_2).f0) true _ A21.out).mono ?_); rintro e w' ⟨rfl, ⟨nd, rfl⟩⟩; refine ⟨_, rfl, ?_⟩; have p132 : 0 ≤ (x34_2 : Int) := of_decide_eq_true (by first | (with_reducible assumption) | assumption); have q132 : x34_2 < (y129.length : Int) := (by have h_ : (x34_2 : Int) < ((x10_2.length : Int) : Int) := of_decide_eq_true (by first | (with_reducible assumption) | assumption); first | (have e_ := (Kd.R_reads' HO_10.out).1; omega) | simpa only [Ny127.out, Ny129.out, List.length_set] using h_); have ql132 : ((x34_2 : Int) < ((x10_2.length : Int) : Int)) = True := eq_true (of_decide_eq_true (by first | (with_reducible assumption) | assumption)); obtain ⟨ad132, e132, hx132_0, hx132_1, hx132_2⟩ := at_T33 (Kd.R_reads' HO_10.out).2.2 x34_2 p132 q132; obtain rfl : (⟨go19, 0, none⟩ : Addr) = ad132 := (by injection e132); (first | simp only [add_plain] at hx132_0 | simp only [add_at] at hx132_0 | simp only [Addr.add, Nat.zero_add] at hx132_0 | skip); (first | simp only [add_plain] at hx132_1 | simp only [add_at] at hx132_1 | simp only [Addr.add, Nat.zero_add] at hx132_1 | skip); (first | simp only [add_plain] at hx132_2 | simp only [add_at] at hx132_2 | simp only [Addr.add, Nat.zero_add] at hx132_2 | skip); replace p132 := eq_true p132; replace q132 := eq_true q132) | (go_at_call 37; (with_reducible refine (sky_cell.calls ((rd_T33 y129 x34_2).f1) true _ A23.out).mono ?_); rintro e w' ⟨rfl, ⟨nd, rfl⟩⟩))
            (try simp only [← hl10_2])
            go_roundg k2
            case measure => have := HJ5.out; have := HK2.out; omega
            case rel => exact ⟨(y129), (wrap64 (x34_2 + 1)), (by first | rfl | (simp; done) | (simp [*]; done)), H', ⟨by have := HJ5.out; have := HK2.out; omega⟩, ⟨by (try simp only [hl10_2]); (with_reducible repeat (first | apply Kd.R_alloc | apply Kd.R_drewN | apply Kd.R_drew)); exact HO_10.out⟩, ⟨by repeat (first | (with_reducible first | exact HB.out | apply below_alloc | apply pw_below_drewN | apply below_drew1) | exact HB.out)⟩⟩
           ·replace c24 := Bool.eq_false_iff.mpr c24
            subst c24
            have H1 : (some (([] : List (S33)), 16)) = some (r1, r2) := by first | (with_reducible rfl) | (rw [if_neg (show ¬ (false = true) by decide)] at H; exact H)
            clear H
            have H := H1
            clear H1
            simp only [Option.some.injEq, Prod.mk.injEq] at H
            obtain ⟨rfl, rfl⟩ := H
            have p126 : 0 ≤ (x34_2 : Int) := of_decide_eq_true (by first | (with_reducible assumption) | assumption)
            have q126 : x34_2 < (x10_2.length : Int) := of_decide_eq_true (by first | (with_reducible assumption) | assumption)
            obtain ⟨ad126, e126, hx126_0, hx126_1, hx126_2⟩ := at_T33 (Kd.R_reads' HO_10.out).2.2 x34_2 p126 q126
            cases e126
            replace p126 := eq_true p126
            replace q126 := eq_true q126
            have p19 : 0 ≤ (x34_2 : Int) := of_decide_eq_true (by first | (with_reducible assumption) | assumption)
            have q19 : (x34_2 : Int) < ((x10_2.length : Int) : Int) := of_decide_eq_true (by first | (with_reducible assumption) | assumption)
            obtain ⟨go19, co19, eo19, gb19, gl19, cl19, HG19⟩ := Kd.R_form HO_10.out (by omega)
            (first | cases eo19 | (injection eo19 with ea_ en_ ec_; (first | subst ea_ | (injection ea_ with ea_; subst ea_)); subst ec_; clear en_))
            have GB19 := Aside0.mk gb19
            have GG19 := Aside0.mk HG19
            clear gb19 gl19 HG19
            (first | simp only [add_plain] at hx126_0 | skip)
            (first | simp only [add_plain] at hx126_1 | skip)
            (first | simp only [add_plain] at hx126_2 | skip)
            obtain ⟨ce19, hcl19, hM19, hcc19, hfr19⟩ := Kd.R_elem HO_10.out z33 (x34_2 : Int) p19 q19
            obtain rfl := k33_openM hM19
            have hx19_0 : wr.cell? ⟨go19, (x34_2 : Int).toNat * 3, none⟩ = some (.int .i64 ((rd_T33 x10_2 x34_2).f0)) := hcc19 0 _ rfl
            have hx19_1 : wr.cell? ⟨go19, (x34_2 : Int).toNat * 3 + 1, none⟩ = some (.int .i64 ((rd_T33 x10_2 x34_2).f1)) := hcc19 1 _ rfl
            have hx19_2 : wr.cell? ⟨go19, (x34_2 : Int).toNat * 3 + 2, none⟩ = some (.int .i64 ((rd_T33 x10_2 x34_2).f2)) := hcc19 2 _ rfl
            have hf19_0 : wr.frozen? ⟨go19, (x34_2 : Int).toNat * 3, none⟩ = false := hfr19 0
            have hf19_1 : wr.frozen? ⟨go19, (x34_2 : Int).toNat * 3 + 1, none⟩ = false := hfr19 1
            have hf19_2 : wr.frozen? ⟨go19, (x34_2 : Int).toNat * 3 + 2, none⟩ = false := hfr19 2
            clear hcl19 hcc19 hfr19 hM19
            replace p19 := eq_true p19
            replace q19 := eq_true q19
            have HX29 := Aside0.mk (show Kd.R k33 33 wr w.heap.size (fun _ => True) (.slice (some ⟨go19, 0, none⟩) x10_2.length co15) x10_2 from (by (with_reducible repeat (first | apply Kd.R_alloc | apply Kd.R_drewN | apply Kd.R_drew)); exact HO_10.out))
            obtain ⟨ce29, hcl29, hM29, hcc29, hfr29⟩ := Kd.R_elem HX29.out z33 (x34_2 : Int) (of_decide_eq_true (by first | (with_reducible assumption) | assumption)) (by have h_ : (x34_2 : Int) < ((x10_2.length : Int) : Int) := of_decide_eq_true (by first | (with_reducible assumption) | assumption); first | exact h_ | (have e_ := (Kd.R_reads' HO_10.out).1; omega) | simpa using h_)
            obtain rfl := k33_openM hM29
            have HP29 := Kd.R_seg HX29.out (x34_2 : Int) (of_decide_eq_true (by first | (with_reducible assumption) | assumption)) (by have h_ : (x34_2 : Int) < ((x10_2.length : Int) : Int) := of_decide_eq_true (by first | (with_reducible assumption) | assumption); first | exact h_ | (have e_ := (Kd.R_reads' HO_10.out).1; omega) | simpa using h_) (seg := [.int .i64 (wrap64 (((rd_T33 x10_2 x34_2).f0) + a1))]) (j := 0) hcl29 hcc29 (show 1 ≤ 3 from by decide) (x' := (⟨wrap64 (((rd_T33 x10_2 x34_2).f0) + a1), (rd_T33 x10_2 x34_2).f1, (rd_T33 x10_2 x34_2).f2⟩ : S33)) (k33_mkM _ _ _ (⟨wrap64 (((rd_T33 x10_2 x34_2).f0) + a1), (rd_T33 x10_2 x34_2).f1, (rd_T33 x10_2 x34_2).f2⟩ : S33) ) (fun _ hk => hk)
            have hx29_0 := hcc29 0 _ rfl
            (try simp only [show (k33).sz = 3 from rfl, Nat.mul_one, Nat.add_zero] at hx29_0)
            have hf29_0 := hfr29 0
            (try simp only [show (k33).sz = 3 from rfl, Nat.mul_one, Nat.add_zero] at hf29_0)
            clear hcl29 hcc29 hfr29 hM29
            go_wp2_with (first | ((with_reducible refine gate_store (t := 3) (p := 45) rfl ?_); refine store_event (t := 3) (p := 45) (v := ?vo_w30) (w1 := (wr.setCell ⟨go19, (x34_2 : Int).toNat * 3, none⟩ (.int .i64 (wrap64 (((rd_T33 x10_2 x34_2).f0) + a1))))) ?hg ?ho ?hn ?hr ?_; (case ho => rfl); (case hg => rfl); (case hn => rfl); (case hr => first | (go_simp; done) | (go_simp; rfl)); intro w30 hw; have hg : wr.grownBy w30 (some go19) := (by rw [hw]; exact HP29.2); have hp_ : Kd.R k33 33 w30 w.heap.size (fun _ => True) (.slice (some ⟨go19, 0, none⟩) x10_2.length co15) y127 := (by rw [hw, Ny127.out]; exact HP29.1); clear HP29; have n0_ := Aside0.mk (hp_); have n1_ := Aside0.mk ((by rw [hw]; exact below_set (HB.out) GB19.out : Below w.heap.size w w30)); clear HO_10; clear HB; have HO_10 := n0_; have HB := n1_; clear n0_ n1_; clear hg hw hp_; have p128 : 0 ≤ (x34_2 : Int) := of_decide_eq_true (by first | (with_reducible assumption) | assumption); have q128 : x34_2 < (y127.length : Int) := (by have h_ : (x34_2 : Int) < ((x10_2.length : Int) : Int) := of_decide_eq_true (by first | (with_reducible assumption) | assumption); first | (have e_ := (Kd.R_reads' HO_10.out).1; omega) | simpa only [Ny127.out, List.length_set] using h_); have ql128 : ((x34_2 : Int) < ((x10_2.length : Int) : Int)) = True := eq_true (of_decide_eq_true (by first | (with_reducible assumption) | assumption)); obtain ⟨ad128, e128, hx128_0, hx128_1, hx128_2⟩ := at_T33 (Kd.R_reads' HO_10.out).2.2 x34_2 p128 q128; obtain rfl : (⟨go19, 0, none⟩ : Addr) = ad128 := (by injection e128); (first | simp only [add_plain] at hx128_0 | simp only [add_at] at hx128_0 | simp only [Addr.add, Nat.zero_add] at hx128_0 | skip); (first | simp only [add_plain] at hx128_1 | simp only [add_at] at hx128_1 | simp only [Addr.add, Nat.zero_add] at hx128_1 | skip); (first | simp only [add_plain] at hx128_2 | simp only [add_at] at hx128_2 | simp only [Addr.add, Nat.zero_add] at hx128_2 | skip); replace p128 := eq_true p128; replace q128 := eq_true q128; have p20 : 0 ≤ (x34_2 : Int) := of_decide_eq_true (by first | (with_reducible assumption) | assumption); have q20 : (x34_2 : Int) < ((x10_2.length : Int) : Int) := of_decide_eq_true (by first | (with_reducible assumption) | assumption); obtain ⟨ce20, hcl20, hM20, hcc20, hfr20⟩ := Kd.R_elem HO_10.out z33 (x34_2 : Int) p20 q20; obtain rfl := k33_openM hM20; have hx20_0 : w30.cell? ⟨go19, (x34_2 : Int).toNat * 3, none⟩ = some (.int .i64 ((rd_T33 y127 x34_2).f0)) := hcc20 0 _ rfl; have hx20_1 : w30.cell? ⟨go19, (x34_2 : Int).toNat * 3 + 1, none⟩ = some (.int .i64 ((rd_T33 y127 x34_2).f1)) := hcc20 1 _ rfl; have hx20_2 : w30.cell? ⟨go19, (x34_2 : Int).toNat * 3 + 2, none⟩ = some (.int .i64 ((rd_T33 y127 x34_2).f2)) := hcc20 2 _ rfl; have hf20_0 : w30.frozen? ⟨go19, (x34_2 : Int).toNat * 3, none⟩ = false := hfr20 0; have hf20_1 : w30.frozen? ⟨go19, (x34_2 : Int).toNat * 3 + 1, none⟩ = false := hfr20 1; have hf20_2 : w30.frozen? ⟨go19, (x34_2 : Int).toNat * 3 + 2, none⟩ = false := hfr20 2; clear hcl20 hcc20 hfr20 hM20; replace p20 := eq_true p20; replace q20 := eq_true q20; have HX31 := Aside0.mk (show Kd.R k33 33 w30 w.heap.size (fun _ => True) (.slice (some ⟨go19, 0, none⟩) x10_2.length co15) y127 from (by (with_reducible repeat (first | apply Kd.R_alloc | apply Kd.R_drewN | apply Kd.R_drew)); exact HO_10.out)); obtain ⟨ce31, hcl31, hM31, hcc31, hfr31⟩ := Kd.R_elem HX31.out z33 (x34_2 : Int) (of_decide_eq_true (by first | (with_reducible assumption) | assumption)) (by have h_ : (x34_2 : Int) < ((x10_2.length : Int) : Int) := of_decide_eq_true (by first | (with_reducible assumption) | assumption); first | exact h_ | (have e_ := (Kd.R_reads' HO_10.out).1; omega) | simpa using h_); obtain rfl := k33_openM hM31; have HP31 := Kd.R_seg HX31.out (x34_2 : Int) (of_decide_eq_true (by first | (with_reducible assumption) | assumption)) (by have h_ : (x34_2 : Int) < ((x10_2.length : Int) : Int) := of_decide_eq_true (by first | (with_reducible assumption) | assumption); first | exact h_ | (have e_ := (Kd.R_reads' HO_10.out).1; omega) | simpa using h_) (seg := [.int .i64 (wrap64 (((rd_T33 y127 x34_2).f1) + a2))]) (j := 1) hcl31 hcc31 (show 2 ≤ 3 from by decide) (x' := (⟨(rd_T33 y127 x34_2).f0, wrap64 (((rd_T33 y127 x34_2).f1) + a2), (rd_T33 y127 x34_2).f2⟩ : S33)) (k33_mkM _ _ _ (⟨(rd_T33 y127 x34_2).f0, wrap64 (((rd_T33 y127 x34_2).f1) + a2), (rd_T33 y127 x34_2).f2⟩ : S33) ) (fun _ hk => hk); have hx31_1 := hcc31 1 _ rfl; (try simp only [show (k33).sz = 3 from rfl, Nat.mul_one, Nat.add_zero] at hx31_1); have hf31_1 := hfr31 1; (try simp only [show (k33).sz = 3 from rfl, Nat.mul_one, Nat.add_zero] at hf31_1); clear hcl31 hcc31 hfr31 hM31) | ((with_reducible refine gate_store (t := 3) (p := 54) rfl ?_); refine store_event (t := 3) (p := 54) (v := ?vo_w32) (w1 := (w30.setCell ⟨go19, (x34_2 : Int).toNat * 3 + 1, none⟩ (.int .i64 (wrap64 (((rd_T33 y127 x34_2).f1) + a2))))) ?hg ?ho ?hn ?hr ?_; (case ho => rfl); (case hg => rfl); (case hn => rfl); (case hr => first | (go_simp; done) | (go_simp; rfl)); intro w32 hw; have hg : w30.grownBy w32 (some go19) := (by rw [hw]; exact HP31.2); have hp_ : Kd.R k33 33 w32 w.heap.size (fun _ => True) (.slice (some ⟨go19, 0, none⟩) x10_2.length co15) y129 := (by rw [hw, Ny129.out]; exact HP31.1); clear HP31; have n0_ := Aside0.mk (hp_); have n1_ := Aside0.mk ((by rw [hw]; exact below_set (HB.out) GB19.out : Below w.heap.size w w32)); clear HO_10; clear HB; have HO_10 := n0_; have HB := n1_; clear n0_ n1_; clear hg hw hp_; have p130 : 0 ≤ (x34_2 : Int) := of_decide_eq_true (by first | (with_reducible assumption) | assumption); have q130 : x34_2 < (y129.length : Int) := (by have h_ : (x34_2 : Int) < ((x10_2.length : Int) : Int) := of_decide_eq_true (by first | (with_reducible assumption) | assumption); first | (have e_ := (Kd.R_reads' HO_10.out).1; omega) | simpa only [Ny127.out, Ny129.out, List.length_set] using h_); have ql130 : ((x34_2 : Int) < ((x10_2.length : Int) : Int)) = True := eq_true (of_decide_eq_true (by first | (with_reducible assumption) | assumption)); obtain ⟨ad130, e130, hx130_0, hx130_1, hx130_2⟩ := at_T33 (Kd.R_reads' HO_10.out).2.2 x34_2 p130 q130; obtain rfl : (⟨go19, 0, none⟩ : Addr) = ad130 := (by injection e130); (first | simp only [add_plain] at hx130_0 | simp only [add_at] at hx130_0 | simp only [Addr.add, Nat.zero_add] at hx130_0 | skip); (first | simp only [add_plain] at hx130_1 | simp only [add_at] at hx130_1 | simp only [Addr.add, Nat.zero_add] at hx130_1 | skip); (first | simp only [add_plain] at hx130_2 | simp only [add_at] at hx130_2 | simp only [Addr.add, Nat.zero_add] at hx130_2 | skip); replace p130 := eq_true p130; replace q130 := eq_true q130) | ((with_reducible refine gate_callee (f := 37) rfl ?_); refine goesL_ (some 60) rfl rfl Try.func37 (by kernel_rfl) rfl #[.int .i64 ((rd_T33 y129 x34_2).f0)] rfl (by (try simp only [List.map_toArray, List.map_cons, List.map_nil]); first | done | rfl | (simp only [List.length_drop, List.length_take]; rfl)) ?_; (with_reducible refine (sky_cell.calls ((rd_T33 y129 x34_2).f0) true _ A21.out).mono ?_); rintro e w' ⟨rfl, ⟨nd, rfl⟩⟩; refine ⟨_, rfl, ?_⟩; have p132 : 0 ≤ (x34_2 : Int) := of_decide_eq_true (by first | (with_reducible assumption) | assumption); have q132 : x34_2 < (y129.length : Int) := (by have h_ : (x34_2 : Int) < ((x10_2.length : Int) : Int) := of_decide_eq_true (by first | (with_reducible assumption) | assumption); first | (have e_ := (Kd.R_reads' HO_10.out).1; omega) | simpa only [Ny127.out, Ny129.out, List.length_set] using h_); have ql132 : ((x34_2 : Int) < ((x10_2.length : Int) : Int)) = True := eq_true (of_decide_eq_true (by first | (with_reducible assumption) | assumption)); obtain ⟨ad132, e132, hx132_0, hx132_1, hx132_2⟩ := at_T33 (Kd.R_reads' HO_10.out).2.2 x34_2 p132 q132; obtain rfl : (⟨go19, 0, none⟩ : Addr) = ad132 := (by injection e132); (first | simp only [add_plain] at hx132_0 | simp only [add_at] at hx132_0 | simp only [Addr.add, Nat.zero_add] at hx132_0 | skip); (first | simp only [add_plain] at hx132_1 | simp only [add_at] at hx132_1 | simp only [Addr.add, Nat.zero_add] at hx132_1 | skip); (first | simp only [add_plain] at hx132_2 | simp only [add_at] at hx132_2 | simp only [Addr.add, Nat.zero_add] at hx132_2 | skip); replace p132 := eq_true p132; replace q132 := eq_true q132) | (go_at_call 37; (with_reducible refine (sky_cell.calls ((rd_T33 y129 x34_2).f1) false _ A23.out).mono ?_); rintro e w' ⟨rfl, ⟨nd, rfl⟩⟩))
            go_ret2
            exact ⟨_, by first | rfl | (simp [errW_none, errW_some] <;> rfl) | (simp [*, errW_none, errW_some] <;> rfl), by first | exact Kd.R_nil _ _ _ _ _ | exact Kd.N_nil _ _ _ _ _ | exact Kd.V_nil _ _ _ _ _ | exact Kd.Q_nil _ _ _ _ _ | exact Kd.S_nil _ _ _ _ _, by repeat (first | (with_reducible first | exact HB.out | apply below_alloc | apply pw_below_drewN | apply below_drew1) | exact HB.out)⟩
          ·replace c22 := Bool.eq_false_iff.mpr c22
           subst c22
           have H1 : (some (([] : List (S33)), 16)) = some (r1, r2) := by first | (with_reducible rfl) | (rw [if_neg (show ¬ (false = true) by decide)] at H; exact H)
           clear H
           have H := H1
           clear H1
           simp only [Option.some.injEq, Prod.mk.injEq] at H
           obtain ⟨rfl, rfl⟩ := H
           have p126 : 0 ≤ (x34_2 : Int) := of_decide_eq_true (by first | (with_reducible assumption) | assumption)
           have q126 : x34_2 < (x10_2.length : Int) := of_decide_eq_true (by first | (with_reducible assumption) | assumption)
           obtain ⟨ad126, e126, hx126_0, hx126_1, hx126_2⟩ := at_T33 (Kd.R_reads' HO_10.out).2.2 x34_2 p126 q126
           cases e126
           replace p126 := eq_true p126
           replace q126 := eq_true q126
           have p19 : 0 ≤ (x34_2 : Int) := of_decide_eq_true (by first | (with_reducible assumption) | assumption)
           have q19 : (x34_2 : Int) < ((x10_2.length : Int) : Int) := of_decide_eq_true (by first | (with_reducible assumption) | assumption)
           obtain ⟨go19, co19, eo19, gb19, gl19, cl19, HG19⟩ := Kd.R_form HO_10.out (by omega)
           (first | cases eo19 | (injection eo19 with ea_ en_ ec_; (first | subst ea_ | (injection ea_ with ea_; subst ea_)); subst ec_; clear en_))
           have GB19 := Aside0.mk gb19
           have GG19 := Aside0.mk HG19
           clear gb19 gl19 HG19
           (first | simp only [add_plain] at hx126_0 | skip)
           (first | simp only [add_plain] at hx126_1 | skip)
           (first | simp only [add_plain] at hx126_2 | skip)
           obtain ⟨ce19, hcl19, hM19, hcc19, hfr19⟩ := Kd.R_elem HO_10.out z33 (x34_2 : Int) p19 q19
           obtain rfl := k33_openM hM19
           have hx19_0 : wr.cell? ⟨go19, (x34_2 : Int).toNat * 3, none⟩ = some (.int .i64 ((rd_T33 x10_2 x34_2).f0)) := hcc19 0 _ rfl
           have hx19_1 : wr.cell? ⟨go19, (x34_2 : Int).toNat * 3 + 1, none⟩ = some (.int .i64 ((rd_T33 x10_2 x34_2).f1)) := hcc19 1 _ rfl
           have hx19_2 : wr.cell? ⟨go19, (x34_2 : Int).toNat * 3 + 2, none⟩ = some (.int .i64 ((rd_T33 x10_2 x34_2).f2)) := hcc19 2 _ rfl
           have hf19_0 : wr.frozen? ⟨go19, (x34_2 : Int).toNat * 3, none⟩ = false := hfr19 0
           have hf19_1 : wr.frozen? ⟨go19, (x34_2 : Int).toNat * 3 + 1, none⟩ = false := hfr19 1
           have hf19_2 : wr.frozen? ⟨go19, (x34_2 : Int).toNat * 3 + 2, none⟩ = false := hfr19 2
           clear hcl19 hcc19 hfr19 hM19
           replace p19 := eq_true p19
           replace q19 := eq_true q19
           have HX33 := Aside0.mk (show Kd.R k33 33 wr w.heap.size (fun _ => True) (.slice (some ⟨go19, 0, none⟩) x10_2.length co15) x10_2 from (by (with_reducible repeat (first | apply Kd.R_alloc | apply Kd.R_drewN | apply Kd.R_drew)); exact HO_10.out))
           obtain ⟨ce33, hcl33, hM33, hcc33, hfr33⟩ := Kd.R_elem HX33.out z33 (x34_2 : Int) (of_decide_eq_true (by first | (with_reducible assumption) | assumption)) (by have h_ : (x34_2 : Int) < ((x10_2.length : Int) : Int) := of_decide_eq_true (by first | (with_reducible assumption) | assumption); first | exact h_ | (have e_ := (Kd.R_reads' HO_10.out).1; omega) | simpa using h_)
           obtain rfl := k33_openM hM33
           have HP33 := Kd.R_seg HX33.out (x34_2 : Int) (of_decide_eq_true (by first | (with_reducible assumption) | assumption)) (by have h_ : (x34_2 : Int) < ((x10_2.length : Int) : Int) := of_decide_eq_true (by first | (with_reducible assumption) | assumption); first | exact h_ | (have e_ := (Kd.R_reads' HO_10.out).1; omega) | simpa using h_) (seg := [.int .i64 (wrap64 (((rd_T33 x10_2 x34_2).f0) + a1))]) (j := 0) hcl33 hcc33 (show 1 ≤ 3 from by decide) (x' := (⟨wrap64 (((rd_T33 x10_2 x34_2).f0) + a1), (rd_T33 x10_2 x34_2).f1, (rd_T33 x10_2 x34_2).f2⟩ : S33)) (k33_mkM _ _ _ (⟨wrap64 (((rd_T33 x10_2 x34_2).f0) + a1), (rd_T33 x10_2 x34_2).f1, (rd_T33 x10_2 x34_2).f2⟩ : S33) ) (fun _ hk => hk)
           have hx33_0 := hcc33 0 _ rfl
           (try simp only [show (k33).sz = 3 from rfl, Nat.mul_one, Nat.add_zero] at hx33_0)
           have hf33_0 := hfr33 0
           (try simp only [show (k33).sz = 3 from rfl, Nat.mul_one, Nat.add_zero] at hf33_0)
           clear hcl33 hcc33 hfr33 hM33
           go_wp2_with (first | ((with_reducible refine gate_store (t := 3) (p := 45) rfl ?_); refine store_event (t := 3) (p := 45) (v := ?vo_w34) (w1 := (wr.setCell ⟨go19, (x34_2 : Int).toNat * 3, none⟩ (.int .i64 (wrap64 (((rd_T33 x10_2 x34_2).f0) + a1))))) ?hg ?ho ?hn ?hr ?_; (case ho => rfl); (case hg => rfl); (case hn => rfl); (case hr => first | (go_simp; done) | (go_simp; rfl)); intro w34 hw; have hg : wr.grownBy w34 (some go19) := (by rw [hw]; exact HP33.2); have hp_ : Kd.R k33 33 w34 w.heap.size (fun _ => True) (.slice (some ⟨go19, 0, none⟩) x10_2.length co15) y127 := (by rw [hw, Ny127.out]; exact HP33.1); clear HP33; have n0_ := Aside0.mk (hp_); have n1_ := Aside0.mk ((by rw [hw]; exact below_set (HB.out) GB19.out : Below w.heap.size w w34)); clear HO_10; clear HB; have HO_10 := n0_; have HB := n1_; clear n0_ n1_; clear hg hw hp_; have p128 : 0 ≤ (x34_2 : Int) := of_decide_eq_true (by first | (with_reducible assumption) | assumption); have q128 : x34_2 < (y127.length : Int) := (by have h_ : (x34_2 : Int) < ((x10_2.length : Int) : Int) := of_decide_eq_true (by first | (with_reducible assumption) | assumption); first | (have e_ := (Kd.R_reads' HO_10.out).1; omega) | simpa only [Ny127.out, List.length_set] using h_); have ql128 : ((x34_2 : Int) < ((x10_2.length : Int) : Int)) = True := eq_true (of_decide_eq_true (by first | (with_reducible assumption) | assumption)); obtain ⟨ad128, e128, hx128_0, hx128_1, hx128_2⟩ := at_T33 (Kd.R_reads' HO_10.out).2.2 x34_2 p128 q128; obtain rfl : (⟨go19, 0, none⟩ : Addr) = ad128 := (by injection e128); (first | simp only [add_plain] at hx128_0 | simp only [add_at] at hx128_0 | simp only [Addr.add, Nat.zero_add] at hx128_0 | skip); (first | simp only [add_plain] at hx128_1 | simp only [add_at] at hx128_1 | simp only [Addr.add, Nat.zero_add] at hx128_1 | skip); (first | simp only [add_plain] at hx128_2 | simp only [add_at] at hx128_2 | simp only [Addr.add, Nat.zero_add] at hx128_2 | skip); replace p128 := eq_true p128; replace q128 := eq_true q128; have p20 : 0 ≤ (x34_2 : Int) := of_decide_eq_true (by first | (with_reducible assumption) | assumption); have q20 : (x34_2 : Int) < ((x10_2.length : Int) : Int) := of_decide_eq_true (by first | (with_reducible assumption) | assumption); obtain ⟨ce20, hcl20, hM20, hcc20, hfr20⟩ := Kd.R_elem HO_10.out z33 (x34_2 : Int) p20 q20; obtain rfl := k33_openM hM20; have hx20_0 : w34.cell? ⟨go19, (x34_2 : Int).toNat * 3, none⟩ = some (.int .i64 ((rd_T33 y127 x34_2).f0)) := hcc20 0 _ rfl; have hx20_1 : w34.cell? ⟨go19, (x34_2 : Int).toNat * 3 + 1, none⟩ = some (.int .i64 ((rd_T33 y127 x34_2).f1)) := hcc20 1 _ rfl; have hx20_2 : w34.cell? ⟨go19, (x34_2 : Int).toNat * 3 + 2, none⟩ = some (.int .i64 ((rd_T33 y127 x34_2).f2)) := hcc20 2 _ rfl; have hf20_0 : w34.frozen? ⟨go19, (x34_2 : Int).toNat * 3, none⟩ = false := hfr20 0; have hf20_1 : w34.frozen? ⟨go19, (x34_2 : Int).toNat * 3 + 1, none⟩ = false := hfr20 1; have hf20_2 : w34.frozen? ⟨go19, (x34_2 : Int).toNat * 3 + 2, none⟩ = false := hfr20 2; clear hcl20 hcc20 hfr20 hM20; replace p20 := eq_true p20; replace q20 := eq_true q20; have HX35 := Aside0.mk (show Kd.R k33 33 w34 w.heap.size (fun _ => True) (.slice (some ⟨go19, 0, none⟩) x10_2.length co15) y127 from (by (with_reducible repeat (first | apply Kd.R_alloc | apply Kd.R_drewN | apply Kd.R_drew)); exact HO_10.out)); obtain ⟨ce35, hcl35, hM35, hcc35, hfr35⟩ := Kd.R_elem HX35.out z33 (x34_2 : Int) (of_decide_eq_true (by first | (with_reducible assumption) | assumption)) (by have h_ : (x34_2 : Int) < ((x10_2.length : Int) : Int) := of_decide_eq_true (by first | (with_reducible assumption) | assumption); first | exact h_ | (have e_ := (Kd.R_reads' HO_10.out).1; omega) | simpa using h_); obtain rfl := k33_openM hM35; have HP35 := Kd.R_seg HX35.out (x34_2 : Int) (of_decide_eq_true (by first | (with_reducible assumption) | assumption)) (by have h_ : (x34_2 : Int) < ((x10_2.length : Int) : Int) := of_decide_eq_true (by first | (with_reducible assumption) | assumption); first | exact h_ | (have e_ := (Kd.R_reads' HO_10.out).1; omega) | simpa using h_) (seg := [.int .i64 (wrap64 (((rd_T33 y127 x34_2).f1) + a2))]) (j := 1) hcl35 hcc35 (show 2 ≤ 3 from by decide) (x' := (⟨(rd_T33 y127 x34_2).f0, wrap64 (((rd_T33 y127 x34_2).f1) + a2), (rd_T33 y127 x34_2).f2⟩ : S33)) (k33_mkM _ _ _ (⟨(rd_T33 y127 x34_2).f0, wrap64 (((rd_T33 y127 x34_2).f1) + a2), (rd_T33 y127 x34_2).f2⟩ : S33) ) (fun _ hk => hk); have hx35_1 := hcc35 1 _ rfl; (try simp only [show (k33).sz = 3 from rfl, Nat.mul_one, Nat.add_zero] at hx35_1); have hf35_1 := hfr35 1; (try simp only [show (k33).sz = 3 from rfl, Nat.mul_one, Nat.add_zero] at hf35_1); clear hcl35 hcc35 hfr35 hM35) | ((with_reducible refine gate_store (t := 3) (p := 54) rfl ?_); refine store_event (t := 3) (p := 54) (v := ?vo_w36) (w1 := (w34.setCell ⟨go19, (x34_2 : Int).toNat * 3 + 1, none⟩ (.int .i64 (wrap64 (((rd_T33 y127 x34_2).f1) + a2))))) ?hg ?ho ?hn ?hr ?_; (case ho => rfl); (case hg => rfl); (case hn => rfl); (case hr => first | (go_simp; done) | (go_simp; rfl)); intro w36 hw; have hg : w34.grownBy w36 (some go19) := (by rw [hw]; exact HP35.2); have hp_ : Kd.R k33 33 w36 w.heap.size (fun _ => True) (.slice (some ⟨go19, 0, none⟩) x10_2.length co15) y129 := (by rw [hw, Ny129.out]; exact HP35.1); clear HP35; have n0_ := Aside0.mk (hp_); have n1_ := Aside0.mk ((by rw [hw]; exact below_set (HB.out) GB19.out : Below w.heap.size w w36)); clear HO_10; clear HB; have HO_10 := n0_; have HB := n1_; clear n0_ n1_; clear hg hw hp_; have p130 : 0 ≤ (x34_2 : Int) := of_decide_eq_true (by first | (with_reducible assumption) | assumption); have q130 : x34_2 < (y129.length : Int) := (by have h_ : (x34_2 : Int) < ((x10_2.length : Int) : Int) := of_decide_eq_true (by first | (with_reducible assumption) | assumption); first | (have e_ := (Kd.R_reads' HO_10.out).1; omega) | simpa only [Ny127.out, Ny129.out, List.length_set] using h_); have ql130 : ((x34_2 : Int) < ((x10_2.length : Int) : Int)) = True := eq_true (of_decide_eq_true (by first | (with_reducible assumption) | assumption)); obtain ⟨ad130, e130, hx130_0, hx130_1, hx130_2⟩ := at_T33 (Kd.R_reads' HO_10.out).2.2 x34_2 p130 q130; obtain rfl : (⟨go19, 0, none⟩ : Addr) = ad130 := (by injection e130); (first | simp only [add_plain] at hx130_0 | simp only [add_at] at hx130_0 | simp only [Addr.add, Nat.zero_add] at hx130_0 | skip); (first | simp only [add_plain] at hx130_1 | simp only [add_at] at hx130_1 | simp only [Addr.add, Nat.zero_add] at hx130_1 | skip); (first | simp only [add_plain] at hx130_2 | simp only [add_at] at hx130_2 | simp only [Addr.add, Nat.zero_add] at hx130_2 | skip); replace p130 := eq_true p130; replace q130 := eq_true q130) | ((with_reducible refine gate_callee (f := 37) rfl ?_); refine goesL_ (some 60) rfl rfl Try.func37 (by kernel_rfl) rfl #[.int .i64 ((rd_T33 y129 x34_2).f0)] rfl (by (try simp only [List.map_toArray, List.map_cons, List.map_nil]); first | done | rfl | (simp only [List.length_drop, List.length_take]; rfl)) ?_; (with_reducible refine (sky_cell.calls ((rd_T33 y129 x34_2).f0) false _ A21.out).mono ?_); rintro e w' ⟨rfl, ⟨nd, rfl⟩⟩; refine ⟨_, rfl, ?_⟩))
           go_ret2
           exact ⟨_, by first | rfl | (simp [errW_none, errW_some] <;> rfl) | (simp [*, errW_none, errW_some] <;> rfl), by first | exact Kd.R_nil _ _ _ _ _ | exact Kd.N_nil _ _ _ _ _ | exact Kd.V_nil _ _ _ _ _ | exact Kd.Q_nil _ _ _ _ _ | exact Kd.S_nil _ _ _ _ _, by repeat (first | (with_reducible first | exact HB.out | apply below_alloc | apply pw_below_drewN | apply below_drew1) | exact HB.out)⟩
         ·rw [if_neg c18] at H
          exact absurd H (by simp)
        ·rw [if_neg c17] at H
         exact absurd H (by simp)
       ·rw [if_neg c16] at H
        have c16b0 : decide (x34_2 < (t123.length : Int)) = false := decide_eq_false c16
        (try simp only [hl10_2] at c16b0)
        clear c16
        simp only [Option.some.injEq, Prod.mk.injEq] at H
        obtain ⟨rfl, rfl⟩ := H
        go_wp2
        go_ret2
        exact ⟨_, by first | rfl | (simp [errW_none, errW_some] <;> rfl) | (simp [*, errW_none, errW_some] <;> rfl), by (with_reducible repeat (first | apply Kd.R_alloc | apply Kd.R_drewN | apply Kd.R_drew)); exact HO_10.out, by repeat (first | (with_reducible first | exact HB.out | apply below_alloc | apply pw_below_drewN | apply below_drew1) | exact HB.out)⟩
 ·rw [if_neg c5] at H
  have c5b0 : (t120 == 0) = false := beq_eq_false_iff_ne.mpr c5
  have c5b1 : (t120 != 0) = true := bne_iff_ne.mpr c5
  simp only [Option.some.injEq, Prod.mk.injEq] at H
  obtain ⟨rfl, rfl⟩ := H
  go_enter Try.func13, Try.ntmps13
  go_wp2_with (first | ((with_reducible refine gate_callee (f := 27) rfl ?_); refine goesL_ (some 13) rfl rfl Try.func27 (by kernel_rfl) rfl #[.slice A0 l0.length c0] rfl (by (try simp only [List.map_toArray, List.map_cons, List.map_nil]); first | done | rfl | (simp only [List.length_drop, List.length_take]; rfl)) ?_; (with_reducible refine (sky_Check.calls k _ _ l0 t120 _ ?side1 ?side2 A4.out).mono ?_); (case side1 => repeat (first | exact HR0.out | (with_reducible refine Kd.C_alloc ?_ _) | (with_reducible refine Kd.C_drewN ?_ _) | (with_reducible refine Kd.C_drew ?_))); (case side2 => exact HC0.out); rintro e w37 ⟨rfl, hb⟩; refine ⟨_, rfl, ?_⟩; have n0_ := Aside0.mk (below_step (by repeat (first | (with_reducible first | exact HB.out | apply below_alloc | apply pw_below_drewN | apply below_drew1) | exact HB.out)) hb); clear HB; have HB := n0_; clear n0_; (try clear hb); (try clear hb2); (try clear hk); (try clear hi)))
  go_ret2
  exact ⟨_, by first | rfl | (simp [errW_none, errW_some] <;> rfl) | (simp [*, errW_none, errW_some] <;> rfl), by first | exact Kd.R_nil _ _ _ _ _ | exact Kd.N_nil _ _ _ _ _ | exact Kd.V_nil _ _ _ _ _ | exact Kd.Q_nil _ _ _ _ _ | exact Kd.S_nil _ _ _ _ _, by repeat (first | (with_reducible first | exact HB.out | apply below_alloc | apply pw_below_drewN | apply below_drew1) | exact HB.out)⟩

end Go.Proofs.Ytihmhcdcbcleeaa.Q
