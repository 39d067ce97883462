-- Written by qprint.py (a program of this session) over the program of the kit that prints contracts. Not trusted: Lean checks it.
import Derived.Test.YtelmcaenemjppaaQ0
import Derived.Test.YtelmcaenemjppaaQ4
import Derived.Test.YtelmcaenemjppaaQ8
import Derived.Test.YtelmcaenemjppaaQ17
import Derived.Test.YtelmcaenemjppaaQ18
import Derived.Test.YtelmcaenemjppaaQ22
namespace Go.Proofs.Ytelmcaenemjppaa.Q
open Go.RowKit Go.Proofs.YtelmcaenemjppaaW.PrintWords Go.Proofs.YtelmcaenemjppaaW.PrintLast Go.Proofs.YtelmcaenemjppaaW.PrintMore
attribute [local go_sem] max2_int min2_int max_two min_two max_three min_three max_four min_four   -- for this text's walks alone
set_option linter.unusedVariables false
set_option linter.unusedSimpArgs false

/-! ### fringelaw42_QueueWaits: function 7 -/
mutual
def fringelaw42_QueueWaits.j0 : Nat → Int → List Int → Bool → Bool → List (S42) → Int → Int → Option (Bool)
 | 0, _, _, _, _, _, _, _ => none
 | k + 1, x1, x2, x7, x43, x647000, x647001, x647002 => if x43 = true then (some x7) else ((queue_Bound.f k x647000 x647001 x647002 x1).bind fun bt650 => (if bt650.2 = 0 then (fringelaw42_QueueWaits.l0 k x1 x2 x7 bt650.1 0 (x647000.length : Int) 0 x647000 x647001 x647002) else (some false)))
def fringelaw42_QueueWaits.l0 : Nat → Int → List Int → Bool → Int → Int → Int → Int → List (S42) → Int → Int → Option (Bool)
 | 0, _, _, _, _, _, _, _, _, _, _ => none
 | k + 1, x1, x2, x7, x8, x10, x11, x12, x647000, x647001, x647002 => if x12 < (x2.length : Int) then (if 0 ≤ x12 then ((fringelaw42_done.f k x647000 x647001 x647002 (rd x2 x12) x1).bind fun bt653 => (if bt653.2.2.2.2 = true then ((fringeref42_Check.f k bt653.1 bt653.2.1 bt653.2.2.1).bind fun t661 => (if t661 = 0 then (fringelaw42_QueueWaits.j2 k x1 x2 x7 x8 x10 x11 x12 bt653.2.2.2.1 ((bt653.1.length : Int) != x11) x647000 x647001 x647002 bt653.1 bt653.2.1 bt653.2.2.1) else (fringelaw42_QueueWaits.j2 k x1 x2 x7 x8 x10 x11 x12 bt653.2.2.2.1 true x647000 x647001 x647002 bt653.1 bt653.2.1 bt653.2.2.1))) else (fringelaw42_QueueWaits.l0 k x1 x2 x7 x8 x10 x11 (wrap64 (x12 + 1)) x647000 x647001 x647002))) else (none)) else (some x7)
def fringelaw42_QueueWaits.j2 : Nat → Int → List Int → Bool → Int → Int → Int → Int → Int → Bool → List (S42) → Int → Int → List (S42) → Int → Int → Option (Bool)
 | 0, _, _, _, _, _, _, _, _, _, _, _, _, _, _, _ => none
 | k + 1, x1, x2, x7, x8, x10, x11, x12, x14, x84, x647000, x647001, x647002, x661000, x661001, x661002 => if x84 = true then (some false) else (if 0 ≤ x1 then (if x1 < (x647000.length : Int) then (if ((rd_T42 x647000 x1).f3) = 0 then (fringelaw42_QueueWaits.j3 k x1 x2 x7 x8 x10 x11 x12 x14 true x661000 x661001 x661002) else (fringelaw42_QueueWaits.j3 k x1 x2 x7 x8 x10 x11 x12 x14 (x14 == x1) x661000 x661001 x661002)) else (none)) else (none))
def fringelaw42_QueueWaits.j3 : Nat → Int → List Int → Bool → Int → Int → Int → Int → Int → Bool → List (S42) → Int → Int → Option (Bool)
 | 0, _, _, _, _, _, _, _, _, _, _, _, _ => none
 | k + 1, x1, x2, x7, x8, x10, x11, x12, x14, x96, x661000, x661001, x661002 => if x96 = true then (if 0 > x8 then (some false) else (fringelaw42_QueueWaits.l0 k x1 x2 x7 x8 0 x11 (wrap64 (x12 + 1)) x661000 x661001 x661002)) else (if x14 ≥ 0 then (if (wrap64 (x10 + 1)) > x8 then (some false) else (fringelaw42_QueueWaits.l0 k x1 x2 x7 x8 (wrap64 (x10 + 1)) x11 (wrap64 (x12 + 1)) x661000 x661001 x661002)) else (if x10 > x8 then (some false) else (fringelaw42_QueueWaits.l0 k x1 x2 x7 x8 x10 x11 (wrap64 (x12 + 1)) x661000 x661001 x661002)))
end
def fringelaw42_QueueWaits.f (k : Nat) (l0_0 : List (S42)) (a0_1 : Int) (a0_2 : Int) (a1 : Int) (l2 : List Int) : Option (Bool) := (fringelaw42_alive.f k).bind fun t647 => ((fringeref42_Great.f k l0_0 a0_1 a0_2).bind fun t648 => (if t648 = true then (fringelaw42_QueueWaits.j0 k a1 l2 t647 true l0_0 a0_1 a0_2) else ((fringeref42_Check.f k l0_0 a0_1 a0_2).bind fun t649 => (if t649 = 0 then (if a1 < 0 then (fringelaw42_QueueWaits.j0 k a1 l2 t647 true l0_0 a0_1 a0_2) else (if a1 ≥ (l0_0.length : Int) then (fringelaw42_QueueWaits.j0 k a1 l2 t647 true l0_0 a0_1 a0_2) else (if (l2.length : Int) > 60 then (fringelaw42_QueueWaits.j0 k a1 l2 t647 true l0_0 a0_1 a0_2) else (fringelaw42_QueueWaits.j0 k a1 l2 t647 (!t647) l0_0 a0_1 a0_2)))) else (fringelaw42_QueueWaits.j0 k a1 l2 t647 true l0_0 a0_1 a0_2)))))
theorem fringelaw42_QueueWaits.mono_l : ∀ k, (∀ y0 y1 y2 y3 y4 y5 y6, LeO (fringelaw42_QueueWaits.j0 k y0 y1 y2 y3 y4 y5 y6) (fringelaw42_QueueWaits.j0 (k + 1) y0 y1 y2 y3 y4 y5 y6)) ∧ (∀ y0 y1 y2 y3 y4 y5 y6 y7 y8 y9, LeO (fringelaw42_QueueWaits.l0 k y0 y1 y2 y3 y4 y5 y6 y7 y8 y9) (fringelaw42_QueueWaits.l0 (k + 1) y0 y1 y2 y3 y4 y5 y6 y7 y8 y9)) ∧ (∀ y0 y1 y2 y3 y4 y5 y6 y7 y8 y9 y10 y11 y12 y13 y14, LeO (fringelaw42_QueueWaits.j2 k y0 y1 y2 y3 y4 y5 y6 y7 y8 y9 y10 y11 y12 y13 y14) (fringelaw42_QueueWaits.j2 (k + 1) y0 y1 y2 y3 y4 y5 y6 y7 y8 y9 y10 y11 y12 y13 y14)) ∧ (∀ y0 y1 y2 y3 y4 y5 y6 y7 y8 y9 y10 y11, LeO (fringelaw42_QueueWaits.j3 k y0 y1 y2 y3 y4 y5 y6 y7 y8 y9 y10 y11) (fringelaw42_QueueWaits.j3 (k + 1) y0 y1 y2 y3 y4 y5 y6 y7 y8 y9 y10 y11))
 | 0 => ⟨fun _ _ _ _ _ _ _ r h => by simp [fringelaw42_QueueWaits.j0] at h, fun _ _ _ _ _ _ _ _ _ _ r h => by simp [fringelaw42_QueueWaits.l0] at h, fun _ _ _ _ _ _ _ _ _ _ _ _ _ _ _ r h => by simp [fringelaw42_QueueWaits.j2] at h, fun _ _ _ _ _ _ _ _ _ _ _ _ r h => by simp [fringelaw42_QueueWaits.j3] at h⟩
 | k + 1 => by
  obtain ⟨ih0, ih1, ih2, ih3⟩ := fringelaw42_QueueWaits.mono_l k
  refine ⟨?_, ?_, ?_, ?_⟩
  ·intro y0 y1 y2 y3 y4 y5 y6
   unfold fringelaw42_QueueWaits.j0
   repeat' first
   | (with_reducible exact ih0 _ _ _ _ _ _ _)
   | (with_reducible exact ih1 _ _ _ _ _ _ _ _ _ _)
   | (with_reducible exact ih2 _ _ _ _ _ _ _ _ _ _ _ _ _ _ _)
   | (with_reducible exact ih3 _ _ _ _ _ _ _ _ _ _ _ _)
   | (with_reducible exact fringelaw42_alive.mono _)
   | (with_reducible exact fringelaw42_done.mono _ _ _ _ _ _)
   | (with_reducible exact fringeref42_Check.mono _ _ _ _)
   | (with_reducible exact fringeref42_Great.mono _ _ _ _)
   | (with_reducible exact queue_Bound.mono _ _ _ _ _)
   | (with_reducible exact LeO.refl _)
   | (with_reducible exact LeO.none _)
   | (with_reducible refine LeO.ite ?_ ?_)
   | (with_reducible refine LeO.bind ?_ (fun _ => ?_))
   | exact ih0 _ _ _ _ _ _ _
   | exact ih1 _ _ _ _ _ _ _ _ _ _
   | exact ih2 _ _ _ _ _ _ _ _ _ _ _ _ _ _ _
   | exact ih3 _ _ _ _ _ _ _ _ _ _ _ _
   | exact fringelaw42_alive.mono _
   | exact fringelaw42_done.mono _ _ _ _ _ _
   | exact fringeref42_Check.mono _ _ _ _
   | exact fringeref42_Great.mono _ _ _ _
   | exact queue_Bound.mono _ _ _ _ _
   | exact LeO.none _
   | refine LeO.ite ?_ ?_
   | refine LeO.bind ?_ (fun _ => ?_)
  ·intro y0 y1 y2 y3 y4 y5 y6 y7 y8 y9
   unfold fringelaw42_QueueWaits.l0
   repeat' first
   | (with_reducible exact ih0 _ _ _ _ _ _ _)
   | (with_reducible exact ih1 _ _ _ _ _ _ _ _ _ _)
   | (with_reducible exact ih2 _ _ _ _ _ _ _ _ _ _ _ _ _ _ _)
   | (with_reducible exact ih3 _ _ _ _ _ _ _ _ _ _ _ _)
   | (with_reducible exact fringelaw42_alive.mono _)
   | (with_reducible exact fringelaw42_done.mono _ _ _ _ _ _)
   | (with_reducible exact fringeref42_Check.mono _ _ _ _)
   | (with_reducible exact fringeref42_Great.mono _ _ _ _)
   | (with_reducible exact queue_Bound.mono _ _ _ _ _)
   | (with_reducible exact LeO.refl _)
   | (with_reducible exact LeO.none _)
   | (with_reducible refine LeO.ite ?_ ?_)
   | (with_reducible refine LeO.bind ?_ (fun _ => ?_))
   | exact ih0 _ _ _ _ _ _ _
   | exact ih1 _ _ _ _ _ _ _ _ _ _
   | exact ih2 _ _ _ _ _ _ _ _ _ _ _ _ _ _ _
   | exact ih3 _ _ _ _ _ _ _ _ _ _ _ _
   | exact fringelaw42_alive.mono _
   | exact fringelaw42_done.mono _ _ _ _ _ _
   | exact fringeref42_Check.mono _ _ _ _
   | exact fringeref42_Great.mono _ _ _ _
   | exact queue_Bound.mono _ _ _ _ _
   | exact LeO.none _
   | refine LeO.ite ?_ ?_
   | refine LeO.bind ?_ (fun _ => ?_)
  ·intro y0 y1 y2 y3 y4 y5 y6 y7 y8 y9 y10 y11 y12 y13 y14
   unfold fringelaw42_QueueWaits.j2
   repeat' first
   | (with_reducible exact ih0 _ _ _ _ _ _ _)
   | (with_reducible exact ih1 _ _ _ _ _ _ _ _ _ _)
   | (with_reducible exact ih2 _ _ _ _ _ _ _ _ _ _ _ _ _ _ _)
   | (with_reducible exact ih3 _ _ _ _ _ _ _ _ _ _ _ _)
   | (with_reducible exact fringelaw42_alive.mono _)
   | (with_reducible exact fringelaw42_done.mono _ _ _ _ _ _)
   | (with_reducible exact fringeref42_Check.mono _ _ _ _)
   | (with_reducible exact fringeref42_Great.mono _ _ _ _)
   | (with_reducible exact queue_Bound.mono _ _ _ _ _)
   | (with_reducible exact LeO.refl _)
   | (with_reducible exact LeO.none _)
   | (with_reducible refine LeO.ite ?_ ?_)
   | (with_reducible refine LeO.bind ?_ (fun _ => ?_))
   | exact ih0 _ _ _ _ _ _ _
   | exact ih1 _ _ _ _ _ _ _ _ _ _
   | exact ih2 _ _ _ _ _ _ _ _ _ _ _ _ _ _ _
   | exact ih3 _ _ _ _ _ _ _ _ _ _ _ _
   | exact fringelaw42_alive.mono _
   | exact fringelaw42_done.mono _ _ _ _ _ _
   | exact fringeref42_Check.mono _ _ _ _
   | exact fringeref42_Great.mono _ _ _ _
   | exact queue_Bound.mono _ _ _ _ _
   | exact LeO.none _
   | refine LeO.ite ?_ ?_
   | refine LeO.bind ?_ (fun _ => ?_)
  ·intro y0 y1 y2 y3 y4 y5 y6 y7 y8 y9 y10 y11
   unfold fringelaw42_QueueWaits.j3
   repeat' first
   | (with_reducible exact ih0 _ _ _ _ _ _ _)
   | (with_reducible exact ih1 _ _ _ _ _ _ _ _ _ _)
   | (with_reducible exact ih2 _ _ _ _ _ _ _ _ _ _ _ _ _ _ _)
   | (with_reducible exact ih3 _ _ _ _ _ _ _ _ _ _ _ _)
   | (with_reducible exact fringelaw42_alive.mono _)
   | (with_reducible exact fringelaw42_done.mono _ _ _ _ _ _)
   | (with_reducible exact fringeref42_Check.mono _ _ _ _)
   | (with_reducible exact fringeref42_Great.mono _ _ _ _)
   | (with_reducible exact queue_Bound.mono _ _ _ _ _)
   | (with_reducible exact LeO.refl _)
   | (with_reducible exact LeO.none _)
   | (with_reducible refine LeO.ite ?_ ?_)
   | (with_reducible refine LeO.bind ?_ (fun _ => ?_))
   | exact ih0 _ _ _ _ _ _ _
   | exact ih1 _ _ _ _ _ _ _ _ _ _
   | exact ih2 _ _ _ _ _ _ _ _ _ _ _ _ _ _ _
   | exact ih3 _ _ _ _ _ _ _ _ _ _ _ _
   | exact fringelaw42_alive.mono _
   | exact fringelaw42_done.mono _ _ _ _ _ _
   | exact fringeref42_Check.mono _ _ _ _
   | exact fringeref42_Great.mono _ _ _ _
   | exact queue_Bound.mono _ _ _ _ _
   | exact LeO.none _
   | refine LeO.ite ?_ ?_
   | refine LeO.bind ?_ (fun _ => ?_)
theorem fringelaw42_QueueWaits.mono : ∀ a0 a1 a2 a3 a4 k, LeO (fringelaw42_QueueWaits.f k a0 a1 a2 a3 a4) (fringelaw42_QueueWaits.f (k + 1) a0 a1 a2 a3 a4) := by
 intro a0 a1 a2 a3 a4 k
 obtain ⟨ih0, ih1, ih2, ih3⟩ := fringelaw42_QueueWaits.mono_l k
 unfold fringelaw42_QueueWaits.f
 repeat' first
   | (with_reducible exact ih0 _ _ _ _ _ _ _)
   | (with_reducible exact ih1 _ _ _ _ _ _ _ _ _ _)
   | (with_reducible exact ih2 _ _ _ _ _ _ _ _ _ _ _ _ _ _ _)
   | (with_reducible exact ih3 _ _ _ _ _ _ _ _ _ _ _ _)
   | (with_reducible exact fringelaw42_alive.mono _)
   | (with_reducible exact fringelaw42_done.mono _ _ _ _ _ _)
   | (with_reducible exact fringeref42_Check.mono _ _ _ _)
   | (with_reducible exact fringeref42_Great.mono _ _ _ _)
   | (with_reducible exact queue_Bound.mono _ _ _ _ _)
   | (with_reducible exact LeO.refl _)
   | (with_reducible exact LeO.none _)
   | (with_reducible refine LeO.ite ?_ ?_)
   | (with_reducible refine LeO.bind ?_ (fun _ => ?_))
   | exact ih0 _ _ _ _ _ _ _
   | exact ih1 _ _ _ _ _ _ _ _ _ _
   | exact ih2 _ _ _ _ _ _ _ _ _ _ _ _ _ _ _
   | exact ih3 _ _ _ _ _ _ _ _ _ _ _ _
   | exact fringelaw42_alive.mono _
   | exact fringelaw42_done.mono _ _ _ _ _ _
   | exact fringeref42_Check.mono _ _ _ _
   | exact fringeref42_Great.mono _ _ _ _
   | exact queue_Bound.mono _ _ _ _ _
   | exact LeO.none _
   | refine LeO.ite ?_ ?_
   | refine LeO.bind ?_ (fun _ => ?_)
def fringelaw42_QueueWaits.T11 : Bool × List (List Nat × List Nat) := (true, [([], []), ([], []), ([], []), ([1, 2], [1, 2]), ([3], [3]), ([], []), ([0, 4, 5], [0, 4, 5]), ([6], [6]), ([7], [7]), ([7], [7]), ([7], [7]), ([], []), ([11, 8, 6, 0, 1, 2, 3, 4, 5, 6, 7, 8, 11], [8, 11]), ([9, 12, 0, 1, 2, 3, 4, 5, 6, 7, 8, 9, 11, 12], [9]), ([10, 13, 0, 1, 2, 3, 4, 5, 6, 7, 8, 9, 10, 11, 12, 13], [10])])
def fringelaw42_QueueWaits.B11 : List Nat := [0, 0, 0, 6, 14, 0, 63, 127, 255, 255, 255, 0, 2559, 7167, 16383]
theorem fringelaw42_QueueWaits.tab11 : rtab .any (opsOf Try.f7 11) = fringelaw42_QueueWaits.T11 := by kernel_rfl
theorem fringelaw42_QueueWaits.bits11 : waitsOk fringelaw42_QueueWaits.T11.2 fringelaw42_QueueWaits.B11 = true := by kernel_rfl
set_option maxHeartbeats 8000000 in
set_option maxRecDepth 100000 in
theorem fringelaw42_QueueWaits.calls (k : Nat) (P0_0_ : Nat → Prop) (A0_0 : Option Addr) (c0_0 : Nat) (l0_0 : List (S42)) (a0_1 : Int) (a0_2 : Int) (a1 : Int) (A2 : Option Addr) (c2 : Nat) (l2 : List Int) (w : World) (hs0_0 : Kd.V k42 42 w w.heap.size (fun k_ => P0_0_ k_) (.slice A0_0 l0_0.length c0_0) l0_0) (hr2 : Kd.C (Kd.int .i64) w A2 l2.length l2) (hc2 : l2.length ≤ c2) (h : fringelaw42_QueueWaits.f k l0_0 a0_1 a0_2 a1 l2 = some true) :
  Calls Try.prog 7 #[.agg #[.slice A0_0 l0_0.length c0_0, .int .i64 a0_1, .int .i64 a0_2], .int .i64 a1, .slice A2 l2.length c2] w fun e w' => e = .returned (.bool true) ∧ Below w.heap.size w w' := by
 have hu24 := Try.underlying24
 have HO0_0 := Aside0.mk (show Kd.V k42 42 w w.heap.size (fun k_ => (P0_0_ k_ ∨ w.heap.size ≤ k_)) (.slice A0_0 l0_0.length c0_0) l0_0 from Kd.V_mono hs0_0 (fun k_ hk => .inl hk))
 have HR2 := Aside0.mk hr2
 have HC2 := Aside0.mk hc2
 clear hr2 hc2
 have HB := Aside0.mk (Below.refl w.heap.size w)
 have H : ((fringelaw42_alive.f k).bind fun t647 => ((fringeref42_Great.f k l0_0 a0_1 a0_2).bind fun t648 => (if t648 = true then (fringelaw42_QueueWaits.j0 k a1 l2 t647 true l0_0 a0_1 a0_2) else ((fringeref42_Check.f k l0_0 a0_1 a0_2).bind fun t649 => (if t649 = 0 then (if a1 < 0 then (fringelaw42_QueueWaits.j0 k a1 l2 t647 true l0_0 a0_1 a0_2) else (if a1 ≥ (l0_0.length : Int) then (fringelaw42_QueueWaits.j0 k a1 l2 t647 true l0_0 a0_1 a0_2) else (if (l2.length : Int) > 60 then (fringelaw42_QueueWaits.j0 k a1 l2 t647 true l0_0 a0_1 a0_2) else (fringelaw42_QueueWaits.j0 k a1 l2 t647 (!t647) l0_0 a0_1 a0_2)))) else (fringelaw42_QueueWaits.j0 k a1 l2 t647 true l0_0 a0_1 a0_2)))))) = some true := h
 clear h
 replace H := Option.bind_eq_some_iff.mp H
 obtain ⟨t647, A40, H⟩ := H
 (try dsimp only at H)
 have A4 := Aside0.mk A40
 clear A40
 have HC5 := Aside0.mk H
 clear H
 go_enter Try.func7, Try.ntmps7
 go_upto_region 2 with (first | ((with_reducible refine gate_dst (N := 3) rfl ?_); (try (refine gate_guard (by rfl) ?_; dsimp only)); refine box_event ?hg (N := 3) ?hd (cs := #[.slice A0_0 l0_0.length c0_0, .int .i64 a0_1, .int .i64 a0_2]) (t := 24) ?hr ?_; (case hd => rfl); (case hg => rfl); (case hr => first | (go_simp; done) | (go_simp; rfl)); intro gb646 hg w6 hbox hb; have n0_ := Aside0.mk (Kd.V_below (Kd.V_elderB (by (with_reducible repeat (first | apply Kd.V_alloc | apply Kd.V_drewN | apply Kd.V_drew)); exact HO0_0.out) gb646 (Nat.le_of_eq hg.symm)) hb); have n1_ := Aside0.mk (below_step (by repeat (first | (with_reducible first | exact HB.out | apply below_alloc | apply pw_below_drewN | apply below_drew1) | exact HB.out)) hb); have n2_ := Aside0.mk (hbox); have n3_ := Aside0.mk ((by rw [hg]; exact (below_size (by repeat (first | (with_reducible first | exact HB.out | apply below_alloc | apply pw_below_drewN | apply below_drew1) | exact HB.out))) : w.heap.size ≤ gb646)); have n4_ := Aside0.mk ((by rw [hg]; exact (below_size (by repeat (first | (with_reducible first | exact HB.out | apply below_alloc | apply pw_below_drewN | apply below_drew1) | exact HB.out))) : w.heap.size ≤ gb646)); clear HO0_0; clear HB; have HO0_0 := n0_; have HB := n1_; have BK646 := n2_; have GW646 := n3_; have GE646 := n4_; clear n0_ n1_ n2_ n3_ n4_; clear hb hbox hg) | ((with_reducible refine gate_callee (f := 21) rfl ?_); refine goesL_ (some 16) rfl rfl Try.func21 (by kernel_rfl) rfl #[] rfl (by (try simp only [List.map_toArray, List.map_cons, List.map_nil]); first | done | rfl | (simp only [List.length_drop, List.length_take]; rfl)) ?_; (with_reducible refine (fringelaw42_alive.calls k  t647 _ A4.out).mono ?_); rintro e w7 ⟨rfl, hb⟩; refine ⟨_, rfl, ?_⟩; have n0_ := Aside0.mk (Kd.V_below (by (with_reducible repeat (first | apply Kd.V_alloc | apply Kd.V_drewN | apply Kd.V_drew)); exact HO0_0.out) hb); have n1_ := Aside0.mk (blk_below (g := gb646) (o := .cells #[.slice A0_0 l0_0.length c0_0, .int .i64 a0_1, .int .i64 a0_2] 24 (0, 0)) (by (with_reducible repeat (first | refine blk_drewN ?_ _ | refine blk_drew ?_ | refine blk_alloc ?_ _)); exact BK646.out) hb); have n2_ := Aside0.mk (below_step (by repeat (first | (with_reducible first | exact HB.out | apply below_alloc | apply pw_below_drewN | apply below_drew1 | refine below_set ?_ GE646.out) | exact HB.out)) hb); clear HO0_0; clear BK646; clear HB; have HO0_0 := n0_; have BK646 := n1_; have HB := n2_; clear n0_ n1_ n2_; (try clear hb); (try clear hb2); (try clear hk); (try clear hi)))
 (try simp only [Act.put, List.setIfInBounds_toArray, List.set_cons_zero, List.set_cons_succ])
 go_cut [43] (fun v43 wc => ∃ (kq : Nat) (x43_4 : Bool), v43 = .bool x43_4 ∧ Aside0 (fringelaw42_QueueWaits.j0 kq a1 l2 t647 x43_4 l0_0 a0_1 a0_2 = some true) ∧ Aside0 (kq ≤ k) ∧ Aside0 (Kd.V k42 42 wc w.heap.size (fun k_ => (P0_0_ k_ ∨ w.heap.size ≤ k_) ∧ k_ ≠ gb646) (.slice A0_0 l0_0.length c0_0) l0_0) ∧ Aside0 (wc.heap[gb646]? = some (.cells #[(.slice A0_0 l0_0.length c0_0), .int .i64 a0_1, .int .i64 a0_2] 24 (0, 0))) ∧ Aside0 (Below w.heap.size w wc))
 case first =>
  as_aux_lemma =>
  have H := HC5.out
  clear HC5
  replace H := Option.bind_eq_some_iff.mp H
  obtain ⟨t648, A80, H⟩ := H
  (try dsimp only at H)
  have A8 := Aside0.mk A80
  clear A80
  by_cases c9 : t648 = true
  ·as_aux_lemma =>
   subst c9
   rw [if_pos rfl] at H
   have H' := Aside0.mk H
   clear H
   have hcz10_0 : w7.cell? ⟨gb646, 0, none⟩ = some (.slice A0_0 l0_0.length c0_0) := (blk_cell BK646.out 0).trans rfl
   have hcz10_1 : w7.cell? ⟨gb646, 1, none⟩ = some (.int .i64 a0_1) := (blk_cell BK646.out 1).trans rfl
   have hcz10_2 : w7.cell? ⟨gb646, 2, none⟩ = some (.int .i64 a0_2) := (blk_cell BK646.out 2).trans rfl
   have hfz10_0 := blk_frozen BK646.out 0
   have hfz10_1 := blk_frozen BK646.out 1
   have hfz10_2 := blk_frozen BK646.out 2
   go_wp2_with (first | ((with_reducible refine gate_callee (f := 14) rfl ?_); refine goesL_ (some 18) rfl rfl Try.func14 (by kernel_rfl) rfl #[.agg #[.slice A0_0 l0_0.length c0_0, .int .i64 a0_1, .int .i64 a0_2]] rfl (by (try simp only [List.map_toArray, List.map_cons, List.map_nil]); first | done | rfl | (simp only [List.length_drop, List.length_take]; rfl)) ?_; (with_reducible refine (fringeref42_Great.calls k _ _ l0_0 a0_1 a0_2 true _ ?side1 ?side2 A8.out).mono ?_); (case side1 => repeat (first | exact (Kd.V_reads' HO0_0.out).2.2 | (with_reducible refine Kd.C_alloc ?_ _) | (with_reducible refine Kd.C_drewN ?_ _) | (with_reducible refine Kd.C_drew ?_))); (case side2 => exact (Kd.V_reads' HO0_0.out).2.1); rintro e w11 ⟨rfl, hb⟩; refine ⟨_, rfl, ?_⟩; have n0_ := Aside0.mk (Kd.V_below (by (with_reducible repeat (first | apply Kd.V_alloc | apply Kd.V_drewN | apply Kd.V_drew)); exact HO0_0.out) hb); have n1_ := Aside0.mk (blk_below (g := gb646) (o := .cells #[.slice A0_0 l0_0.length c0_0, .int .i64 a0_1, .int .i64 a0_2] 24 (0, 0)) (by (with_reducible repeat (first | refine blk_drewN ?_ _ | refine blk_drew ?_ | refine blk_alloc ?_ _)); exact BK646.out) hb); have n2_ := Aside0.mk (below_step (by repeat (first | (with_reducible first | exact HB.out | apply below_alloc | apply pw_below_drewN | apply below_drew1 | refine below_set ?_ GE646.out) | exact HB.out)) hb); clear HO0_0; clear BK646; clear HB; have HO0_0 := n0_; have BK646 := n1_; have HB := n2_; clear n0_ n1_ n2_; (try clear hb); (try clear hb2); (try clear hk); (try clear hi)))
   go_meet
   case rel => exact ⟨_, (true), (by first | rfl | (simp; done) | (simp [*]; done)), H', ⟨by first | omega | exact Nat.le_refl _⟩, ⟨by (with_reducible repeat (first | apply Kd.V_alloc | apply Kd.V_drewN | apply Kd.V_drew)); exact HO0_0.out⟩, ⟨by (with_reducible repeat (first | refine blk_drewN ?_ _ | refine blk_drew ?_ | refine blk_alloc ?_ _)); exact BK646.out⟩, ⟨by repeat (first | (with_reducible first | exact HB.out | apply below_alloc | apply pw_below_drewN | apply below_drew1 | refine below_set ?_ GE646.out) | exact HB.out)⟩⟩
  ·as_aux_lemma =>
   replace c9 := Bool.eq_false_iff.mpr c9
   subst c9
   rw [if_neg (show ¬ (false = true) by decide)] at H
   replace H := Option.bind_eq_some_iff.mp H
   obtain ⟨t649, A120, H⟩ := H
   (try dsimp only at H)
   have A12 := Aside0.mk A120
   clear A120
   by_cases c13 : t649 = 0
   ·as_aux_lemma =>
    rw [if_pos c13] at H
    have c13b0 : (t649 == 0) = true := beq_iff_eq.mpr c13
    have c13b1 : (t649 != 0) = false := bne_eq_false_iff_eq.mpr c13
    clear c13
    (first | rw [c13b0] | (simp only [i64_w, i32_w]; rw [c13b0]) | skip)
    by_cases c14 : a1 < 0
    ·as_aux_lemma =>
     rw [if_pos c14] at H
     have c14b0 : decide (a1 < 0) = true := decide_eq_true c14
     clear c14
     have H' := Aside0.mk H
     clear H
     have hcz15_0 : w7.cell? ⟨gb646, 0, none⟩ = some (.slice A0_0 l0_0.length c0_0) := (blk_cell BK646.out 0).trans rfl
     have hcz15_1 : w7.cell? ⟨gb646, 1, none⟩ = some (.int .i64 a0_1) := (blk_cell BK646.out 1).trans rfl
     have hcz15_2 : w7.cell? ⟨gb646, 2, none⟩ = some (.int .i64 a0_2) := (blk_cell BK646.out 2).trans rfl
     have hfz15_0 := blk_frozen BK646.out 0
     have hfz15_1 := blk_frozen BK646.out 1
     have hfz15_2 := blk_frozen BK646.out 2
     go_wp2_with (first | ((with_reducible refine gate_callee (f := 14) rfl ?_); refine goesL_ (some 18) rfl rfl Try.func14 (by kernel_rfl) rfl #[.agg #[.slice A0_0 l0_0.length c0_0, .int .i64 a0_1, .int .i64 a0_2]] rfl (by (try simp only [List.map_toArray, List.map_cons, List.map_nil]); first | done | rfl | (simp only [List.length_drop, List.length_take]; rfl)) ?_; (with_reducible refine (fringeref42_Great.calls k _ _ l0_0 a0_1 a0_2 false _ ?side1 ?side2 A8.out).mono ?_); (case side1 => repeat (first | exact (Kd.V_reads' HO0_0.out).2.2 | (with_reducible refine Kd.C_alloc ?_ _) | (with_reducible refine Kd.C_drewN ?_ _) | (with_reducible refine Kd.C_drew ?_))); (case side2 => exact (Kd.V_reads' HO0_0.out).2.1); rintro e w16 ⟨rfl, hb⟩; refine ⟨_, rfl, ?_⟩; have n0_ := Aside0.mk (Kd.V_below (by (with_reducible repeat (first | apply Kd.V_alloc | apply Kd.V_drewN | apply Kd.V_drew)); exact HO0_0.out) hb); have n1_ := Aside0.mk (blk_below (g := gb646) (o := .cells #[.slice A0_0 l0_0.length c0_0, .int .i64 a0_1, .int .i64 a0_2] 24 (0, 0)) (by (with_reducible repeat (first | refine blk_drewN ?_ _ | refine blk_drew ?_ | refine blk_alloc ?_ _)); exact BK646.out) hb); have n2_ := Aside0.mk (below_step (by repeat (first | (with_reducible first | exact HB.out | apply below_alloc | apply pw_below_drewN | apply below_drew1 | refine below_set ?_ GE646.out) | exact HB.out)) hb); clear HO0_0; clear BK646; clear HB; have HO0_0 := n0_; have BK646 := n1_; have HB := n2_; clear n0_ n1_ n2_; (try clear hb); (try clear hb2); (try clear hk); (try clear hi); have hcz17_0 : w16.cell? ⟨gb646, 0, none⟩ = some (.slice A0_0 l0_0.length c0_0) := (blk_cell BK646.out 0).trans rfl; have hcz17_1 : w16.cell? ⟨gb646, 1, none⟩ = some (.int .i64 a0_1) := (blk_cell BK646.out 1).trans rfl; have hcz17_2 : w16.cell? ⟨gb646, 2, none⟩ = some (.int .i64 a0_2) := (blk_cell BK646.out 2).trans rfl; have hfz17_0 := blk_frozen BK646.out 0; have hfz17_1 := blk_frozen BK646.out 1; have hfz17_2 := blk_frozen BK646.out 2) | (go_at_call 22; (with_reducible refine (fringeref42_Check.calls k _ _ l0_0 a0_1 a0_2 t649 _ ?side1 ?side2 A12.out).mono ?_); (case side1 => repeat (first | exact (Kd.V_reads' HO0_0.out).2.2 | (with_reducible refine Kd.C_alloc ?_ _) | (with_reducible refine Kd.C_drewN ?_ _) | (with_reducible refine Kd.C_drew ?_))); (case side2 => exact (Kd.V_reads' HO0_0.out).2.1); rintro e w18 ⟨rfl, hb⟩; have n0_ := Aside0.mk (Kd.V_below (by (with_reducible repeat (first | apply Kd.V_alloc | apply Kd.V_drewN | apply Kd.V_drew)); exact HO0_0.out) hb); have n1_ := Aside0.mk (blk_below (g := gb646) (o := .cells #[.slice A0_0 l0_0.length c0_0, .int .i64 a0_1, .int .i64 a0_2] 24 (0, 0)) (by (with_reducible repeat (first | refine blk_drewN ?_ _ | refine blk_drew ?_ | refine blk_alloc ?_ _)); exact BK646.out) hb); have n2_ := Aside0.mk (below_step (by repeat (first | (with_reducible first | exact HB.out | apply below_alloc | apply pw_below_drewN | apply below_drew1 | refine below_set ?_ GE646.out) | exact HB.out)) hb); clear HO0_0; clear BK646; clear HB; have HO0_0 := n0_; have BK646 := n1_; have HB := n2_; clear n0_ n1_ n2_; (try clear hb); (try clear hb2); (try clear hk); (try clear hi)))
     go_meet
     case rel => exact ⟨_, (true), (by first | rfl | (simp; done) | (simp [*]; done)), H', ⟨by first | omega | exact Nat.le_refl _⟩, ⟨by (with_reducible repeat (first | apply Kd.V_alloc | apply Kd.V_drewN | apply Kd.V_drew)); exact HO0_0.out⟩, ⟨by (with_reducible repeat (first | refine blk_drewN ?_ _ | refine blk_drew ?_ | refine blk_alloc ?_ _)); exact BK646.out⟩, ⟨by repeat (first | (with_reducible first | exact HB.out | apply below_alloc | apply pw_below_drewN | apply below_drew1 | refine below_set ?_ GE646.out) | exact HB.out)⟩⟩
    ·as_aux_lemma =>
     rw [if_neg c14] at H
     have c14b0 : decide (a1 < 0) = false := decide_eq_false c14
     clear c14
     by_cases c19 : a1 ≥ (l0_0.length : Int)
     ·as_aux_lemma =>
      rw [if_pos c19] at H
      have c19b0 : decide ((l0_0.length : Int) ≤ a1) = true := decide_eq_true c19
      clear c19
      have H' := Aside0.mk H
      clear H
      have hcz20_0 : w7.cell? ⟨gb646, 0, none⟩ = some (.slice A0_0 l0_0.length c0_0) := (blk_cell BK646.out 0).trans rfl
      have hcz20_1 : w7.cell? ⟨gb646, 1, none⟩ = some (.int .i64 a0_1) := (blk_cell BK646.out 1).trans rfl
      have hcz20_2 : w7.cell? ⟨gb646, 2, none⟩ = some (.int .i64 a0_2) := (blk_cell BK646.out 2).trans rfl
      have hfz20_0 := blk_frozen BK646.out 0
      have hfz20_1 := blk_frozen BK646.out 1
      have hfz20_2 := blk_frozen BK646.out 2
      go_wp2_with (first | ((with_reducible refine gate_callee (f := 14) rfl ?_); refine goesL_ (some 18) rfl rfl Try.func14 (by kernel_rfl) rfl #[.agg #[.slice A0_0 l0_0.length c0_0, .int .i64 a0_1, .int .i64 a0_2]] rfl (by (try simp only [List.map_toArray, List.map_cons, List.map_nil]); first | done | rfl | (simp only [List.length_drop, List.length_take]; rfl)) ?_; (with_reducible refine (fringeref42_Great.calls k _ _ l0_0 a0_1 a0_2 false _ ?side1 ?side2 A8.out).mono ?_); (case side1 => repeat (first | exact (Kd.V_reads' HO0_0.out).2.2 | (with_reducible refine Kd.C_alloc ?_ _) | (with_reducible refine Kd.C_drewN ?_ _) | (with_reducible refine Kd.C_drew ?_))); (case side2 => exact (Kd.V_reads' HO0_0.out).2.1); rintro e w21 ⟨rfl, hb⟩; refine ⟨_, rfl, ?_⟩; have n0_ := Aside0.mk (Kd.V_below (by (with_reducible repeat (first | apply Kd.V_alloc | apply Kd.V_drewN | apply Kd.V_drew)); exact HO0_0.out) hb); have n1_ := Aside0.mk (blk_below (g := gb646) (o := .cells #[.slice A0_0 l0_0.length c0_0, .int .i64 a0_1, .int .i64 a0_2] 24 (0, 0)) (by (with_reducible repeat (first | refine blk_drewN ?_ _ | refine blk_drew ?_ | refine blk_alloc ?_ _)); exact BK646.out) hb); have n2_ := Aside0.mk (below_step (by repeat (first | (with_reducible first | exact HB.out | apply below_alloc | apply pw_below_drewN | apply below_drew1 | refine below_set ?_ GE646.out) | exact HB.out)) hb); clear HO0_0; clear BK646; clear HB; have HO0_0 := n0_; have BK646 := n1_; have HB := n2_; clear n0_ n1_ n2_; (try clear hb); (try clear hb2); (try clear hk); (try clear hi); have hcz22_0 : w21.cell? ⟨gb646, 0, none⟩ = some (.slice A0_0 l0_0.length c0_0) := (blk_cell BK646.out 0).trans rfl; have hcz22_1 : w21.cell? ⟨gb646, 1, none⟩ = some (.int .i64 a0_1) := (blk_cell BK646.out 1).trans rfl; have hcz22_2 : w21.cell? ⟨gb646, 2, none⟩ = some (.int .i64 a0_2) := (blk_cell BK646.out 2).trans rfl; have hfz22_0 := blk_frozen BK646.out 0; have hfz22_1 := blk_frozen BK646.out 1; have hfz22_2 := blk_frozen BK646.out 2) | (go_at_call 22; (with_reducible refine (fringeref42_Check.calls k _ _ l0_0 a0_1 a0_2 t649 _ ?side1 ?side2 A12.out).mono ?_); (case side1 => repeat (first | exact (Kd.V_reads' HO0_0.out).2.2 | (with_reducible refine Kd.C_alloc ?_ _) | (with_reducible refine Kd.C_drewN ?_ _) | (with_reducible refine Kd.C_drew ?_))); (case side2 => exact (Kd.V_reads' HO0_0.out).2.1); rintro e w23 ⟨rfl, hb⟩; have n0_ := Aside0.mk (Kd.V_below (by (with_reducible repeat (first | apply Kd.V_alloc | apply Kd.V_drewN | apply Kd.V_drew)); exact HO0_0.out) hb); have n1_ := Aside0.mk (blk_below (g := gb646) (o := .cells #[.slice A0_0 l0_0.length c0_0, .int .i64 a0_1, .int .i64 a0_2] 24 (0, 0)) (by (with_reducible repeat (first | refine blk_drewN ?_ _ | refine blk_drew ?_ | refine blk_alloc ?_ _)); exact BK646.out) hb); have n2_ := Aside0.mk (below_step (by repeat (first | (with_reducible first | exact HB.out | apply below_alloc | apply pw_below_drewN | apply below_drew1 | refine below_set ?_ GE646.out) | exact HB.out)) hb); clear HO0_0; clear BK646; clear HB; have HO0_0 := n0_; have BK646 := n1_; have HB := n2_; clear n0_ n1_ n2_; (try clear hb); (try clear hb2); (try clear hk); (try clear hi); have hcz24_0 : w23.cell? ⟨gb646, 0, none⟩ = some (.slice A0_0 l0_0.length c0_0) := (blk_cell BK646.out 0).trans rfl; have hcz24_1 : w23.cell? ⟨gb646, 1, none⟩ = some (.int .i64 a0_1) := (blk_cell BK646.out 1).trans rfl; have hcz24_2 : w23.cell? ⟨gb646, 2, none⟩ = some (.int .i64 a0_2) := (blk_cell BK646.out 2).trans rfl; have hfz24_0 := blk_frozen BK646.out 0; have hfz24_1 := blk_frozen BK646.out 1; have hfz24_2 := blk_frozen BK646.out 2))
      go_meet
      case rel => exact ⟨_, (true), (by first | rfl | (simp; done) | (simp [*]; done)), H', ⟨by first | omega | exact Nat.le_refl _⟩, ⟨by (with_reducible repeat (first | apply Kd.V_alloc | apply Kd.V_drewN | apply Kd.V_drew)); exact HO0_0.out⟩, ⟨by (with_reducible repeat (first | refine blk_drewN ?_ _ | refine blk_drew ?_ | refine blk_alloc ?_ _)); exact BK646.out⟩, ⟨by repeat (first | (with_reducible first | exact HB.out | apply below_alloc | apply pw_below_drewN | apply below_drew1 | refine below_set ?_ GE646.out) | exact HB.out)⟩⟩
     ·as_aux_lemma =>
      rw [if_neg c19] at H
      have c19b0 : decide ((l0_0.length : Int) ≤ a1) = false := decide_eq_false c19
      clear c19
      by_cases c25 : (l2.length : Int) > 60
      ·as_aux_lemma =>
       rw [if_pos c25] at H
       have c25b0 : decide (60 < (l2.length : Int)) = true := decide_eq_true c25
       have c25b1 : decide (60 < l2.length) = true := decide_eq_true (by omega)
       clear c25
       have H' := Aside0.mk H
       clear H
       have hcz26_0 : w7.cell? ⟨gb646, 0, none⟩ = some (.slice A0_0 l0_0.length c0_0) := (blk_cell BK646.out 0).trans rfl
       have hcz26_1 : w7.cell? ⟨gb646, 1, none⟩ = some (.int .i64 a0_1) := (blk_cell BK646.out 1).trans rfl
       have hcz26_2 : w7.cell? ⟨gb646, 2, none⟩ = some (.int .i64 a0_2) := (blk_cell BK646.out 2).trans rfl
       have hfz26_0 := blk_frozen BK646.out 0
       have hfz26_1 := blk_frozen BK646.out 1
       have hfz26_2 := blk_frozen BK646.out 2
       go_wp2_with (first | ((with_reducible refine gate_callee (f := 14) rfl ?_); refine goesL_ (some 18) rfl rfl Try.func14 (by kernel_rfl) rfl #[.agg #[.slice A0_0 l0_0.length c0_0, .int .i64 a0_1, .int .i64 a0_2]] rfl (by (try simp only [List.map_toArray, List.map_cons, List.map_nil]); first | done | rfl | (simp only [List.length_drop, List.length_take]; rfl)) ?_; (with_reducible refine (fringeref42_Great.calls k _ _ l0_0 a0_1 a0_2 false _ ?side1 ?side2 A8.out).mono ?_); (case side1 => repeat (first | exact (Kd.V_reads' HO0_0.out).2.2 | (with_reducible refine Kd.C_alloc ?_ _) | (with_reducible refine Kd.C_drewN ?_ _) | (with_reducible refine Kd.C_drew ?_))); (case side2 => exact (Kd.V_reads' HO0_0.out).2.1); rintro e w27 ⟨rfl, hb⟩; refine ⟨_, rfl, ?_⟩; have n0_ := Aside0.mk (Kd.V_below (by (with_reducible repeat (first | apply Kd.V_alloc | apply Kd.V_drewN | apply Kd.V_drew)); exact HO0_0.out) hb); have n1_ := Aside0.mk (blk_below (g := gb646) (o := .cells #[.slice A0_0 l0_0.length c0_0, .int .i64 a0_1, .int .i64 a0_2] 24 (0, 0)) (by (with_reducible repeat (first | refine blk_drewN ?_ _ | refine blk_drew ?_ | refine blk_alloc ?_ _)); exact BK646.out) hb); have n2_ := Aside0.mk (below_step (by repeat (first | (with_reducible first | exact HB.out | apply below_alloc | apply pw_below_drewN | apply below_drew1 | refine below_set ?_ GE646.out) | exact HB.out)) hb); clear HO0_0; clear BK646; clear HB; have HO0_0 := n0_; have BK646 := n1_; have HB := n2_; clear n0_ n1_ n2_; (try clear hb); (try clear hb2); (try clear hk); (try clear hi); have hcz28_0 : w27.cell? ⟨gb646, 0, none⟩ = some (.slice A0_0 l0_0.length c0_0) := (blk_cell BK646.out 0).trans rfl; have hcz28_1 : w27.cell? ⟨gb646, 1, none⟩ = some (.int .i64 a0_1) := (blk_cell BK646.out 1).trans rfl; have hcz28_2 : w27.cell? ⟨gb646, 2, none⟩ = some (.int .i64 a0_2) := (blk_cell BK646.out 2).trans rfl; have hfz28_0 := blk_frozen BK646.out 0; have hfz28_1 := blk_frozen BK646.out 1; have hfz28_2 := blk_frozen BK646.out 2) | (go_at_call 22; (with_reducible refine (fringeref42_Check.calls k _ _ l0_0 a0_1 a0_2 t649 _ ?side1 ?side2 A12.out).mono ?_); (case side1 => repeat (first | exact (Kd.V_reads' HO0_0.out).2.2 | (with_reducible refine Kd.C_alloc ?_ _) | (with_reducible refine Kd.C_drewN ?_ _) | (with_reducible refine Kd.C_drew ?_))); (case side2 => exact (Kd.V_reads' HO0_0.out).2.1); rintro e w29 ⟨rfl, hb⟩; have n0_ := Aside0.mk (Kd.V_below (by (with_reducible repeat (first | apply Kd.V_alloc | apply Kd.V_drewN | apply Kd.V_drew)); exact HO0_0.out) hb); have n1_ := Aside0.mk (blk_below (g := gb646) (o := .cells #[.slice A0_0 l0_0.length c0_0, .int .i64 a0_1, .int .i64 a0_2] 24 (0, 0)) (by (with_reducible repeat (first | refine blk_drewN ?_ _ | refine blk_drew ?_ | refine blk_alloc ?_ _)); exact BK646.out) hb); have n2_ := Aside0.mk (below_step (by repeat (first | (with_reducible first | exact HB.out | apply below_alloc | apply pw_below_drewN | apply below_drew1 | refine below_set ?_ GE646.out) | exact HB.out)) hb); clear HO0_0; clear BK646; clear HB; have HO0_0 := n0_; have BK646 := n1_; have HB := n2_; clear n0_ n1_ n2_; (try clear hb); (try clear hb2); (try clear hk); (try clear hi); have hcz30_0 : w29.cell? ⟨gb646, 0, none⟩ = some (.slice A0_0 l0_0.length c0_0) := (blk_cell BK646.out 0).trans rfl; have hcz30_1 : w29.cell? ⟨gb646, 1, none⟩ = some (.int .i64 a0_1) := (blk_cell BK646.out 1).trans rfl; have hcz30_2 : w29.cell? ⟨gb646, 2, none⟩ = some (.int .i64 a0_2) := (blk_cell BK646.out 2).trans rfl; have hfz30_0 := blk_frozen BK646.out 0; have hfz30_1 := blk_frozen BK646.out 1; have hfz30_2 := blk_frozen BK646.out 2))
       go_meet
       case rel => exact ⟨_, (true), (by first | rfl | (simp; done) | (simp [*]; done)), H', ⟨by first | omega | exact Nat.le_refl _⟩, ⟨by (with_reducible repeat (first | apply Kd.V_alloc | apply Kd.V_drewN | apply Kd.V_drew)); exact HO0_0.out⟩, ⟨by (with_reducible repeat (first | refine blk_drewN ?_ _ | refine blk_drew ?_ | refine blk_alloc ?_ _)); exact BK646.out⟩, ⟨by repeat (first | (with_reducible first | exact HB.out | apply below_alloc | apply pw_below_drewN | apply below_drew1 | refine below_set ?_ GE646.out) | exact HB.out)⟩⟩
      ·as_aux_lemma =>
       rw [if_neg c25] at H
       have c25b0 : decide (60 < (l2.length : Int)) = false := decide_eq_false c25
       have c25b1 : decide (60 < l2.length) = false := decide_eq_false (by omega)
       clear c25
       have H' := Aside0.mk H
       clear H
       have hcz31_0 : w7.cell? ⟨gb646, 0, none⟩ = some (.slice A0_0 l0_0.length c0_0) := (blk_cell BK646.out 0).trans rfl
       have hcz31_1 : w7.cell? ⟨gb646, 1, none⟩ = some (.int .i64 a0_1) := (blk_cell BK646.out 1).trans rfl
       have hcz31_2 : w7.cell? ⟨gb646, 2, none⟩ = some (.int .i64 a0_2) := (blk_cell BK646.out 2).trans rfl
       have hfz31_0 := blk_frozen BK646.out 0
       have hfz31_1 := blk_frozen BK646.out 1
       have hfz31_2 := blk_frozen BK646.out 2
       go_wp2_with (first | ((with_reducible refine gate_callee (f := 14) rfl ?_); refine goesL_ (some 18) rfl rfl Try.func14 (by kernel_rfl) rfl #[.agg #[.slice A0_0 l0_0.length c0_0, .int .i64 a0_1, .int .i64 a0_2]] rfl (by (try simp only [List.map_toArray, List.map_cons, List.map_nil]); first | done | rfl | (simp only [List.length_drop, List.length_take]; rfl)) ?_; (with_reducible refine (fringeref42_Great.calls k _ _ l0_0 a0_1 a0_2 false _ ?side1 ?side2 A8.out).mono ?_); (case side1 => repeat (first | exact (Kd.V_reads' HO0_0.out).2.2 | (with_reducible refine Kd.C_alloc ?_ _) | (with_reducible refine Kd.C_drewN ?_ _) | (with_reducible refine Kd.C_drew ?_))); (case side2 => exact (Kd.V_reads' HO0_0.out).2.1); rintro e w32 ⟨rfl, hb⟩; refine ⟨_, rfl, ?_⟩; have n0_ := Aside0.mk (Kd.V_below (by (with_reducible repeat (first | apply Kd.V_alloc | apply Kd.V_drewN | apply Kd.V_drew)); exact HO0_0.out) hb); have n1_ := Aside0.mk (blk_below (g := gb646) (o := .cells #[.slice A0_0 l0_0.length c0_0, .int .i64 a0_1, .int .i64 a0_2] 24 (0, 0)) (by (with_reducible repeat (first | refine blk_drewN ?_ _ | refine blk_drew ?_ | refine blk_alloc ?_ _)); exact BK646.out) hb); have n2_ := Aside0.mk (below_step (by repeat (first | (with_reducible first | exact HB.out | apply below_alloc | apply pw_below_drewN | apply below_drew1 | refine below_set ?_ GE646.out) | exact HB.out)) hb); clear HO0_0; clear BK646; clear HB; have HO0_0 := n0_; have BK646 := n1_; have HB := n2_; clear n0_ n1_ n2_; (try clear hb); (try clear hb2); (try clear hk); (try clear hi); have hcz33_0 : w32.cell? ⟨gb646, 0, none⟩ = some (.slice A0_0 l0_0.length c0_0) := (blk_cell BK646.out 0).trans rfl; have hcz33_1 : w32.cell? ⟨gb646, 1, none⟩ = some (.int .i64 a0_1) := (blk_cell BK646.out 1).trans rfl; have hcz33_2 : w32.cell? ⟨gb646, 2, none⟩ = some (.int .i64 a0_2) := (blk_cell BK646.out 2).trans rfl; have hfz33_0 := blk_frozen BK646.out 0; have hfz33_1 := blk_frozen BK646.out 1; have hfz33_2 := blk_frozen BK646.out 2) | (go_at_call 22; (with_reducible refine (fringeref42_Check.calls k _ _ l0_0 a0_1 a0_2 t649 _ ?side1 ?side2 A12.out).mono ?_); (case side1 => repeat (first | exact (Kd.V_reads' HO0_0.out).2.2 | (with_reducible refine Kd.C_alloc ?_ _) | (with_reducible refine Kd.C_drewN ?_ _) | (with_reducible refine Kd.C_drew ?_))); (case side2 => exact (Kd.V_reads' HO0_0.out).2.1); rintro e w34 ⟨rfl, hb⟩; have n0_ := Aside0.mk (Kd.V_below (by (with_reducible repeat (first | apply Kd.V_alloc | apply Kd.V_drewN | apply Kd.V_drew)); exact HO0_0.out) hb); have n1_ := Aside0.mk (blk_below (g := gb646) (o := .cells #[.slice A0_0 l0_0.length c0_0, .int .i64 a0_1, .int .i64 a0_2] 24 (0, 0)) (by (with_reducible repeat (first | refine blk_drewN ?_ _ | refine blk_drew ?_ | refine blk_alloc ?_ _)); exact BK646.out) hb); have n2_ := Aside0.mk (below_step (by repeat (first | (with_reducible first | exact HB.out | apply below_alloc | apply pw_below_drewN | apply below_drew1 | refine below_set ?_ GE646.out) | exact HB.out)) hb); clear HO0_0; clear BK646; clear HB; have HO0_0 := n0_; have BK646 := n1_; have HB := n2_; clear n0_ n1_ n2_; (try clear hb); (try clear hb2); (try clear hk); (try clear hi); have hcz35_0 : w34.cell? ⟨gb646, 0, none⟩ = some (.slice A0_0 l0_0.length c0_0) := (blk_cell BK646.out 0).trans rfl; have hcz35_1 : w34.cell? ⟨gb646, 1, none⟩ = some (.int .i64 a0_1) := (blk_cell BK646.out 1).trans rfl; have hcz35_2 : w34.cell? ⟨gb646, 2, none⟩ = some (.int .i64 a0_2) := (blk_cell BK646.out 2).trans rfl; have hfz35_0 := blk_frozen BK646.out 0; have hfz35_1 := blk_frozen BK646.out 1; have hfz35_2 := blk_frozen BK646.out 2))
       go_meet
       case rel => exact ⟨_, (!t647), (by first | rfl | (simp; done) | (simp [*]; done)), H', ⟨by first | omega | exact Nat.le_refl _⟩, ⟨by (with_reducible repeat (first | apply Kd.V_alloc | apply Kd.V_drewN | apply Kd.V_drew)); exact HO0_0.out⟩, ⟨by (with_reducible repeat (first | refine blk_drewN ?_ _ | refine blk_drew ?_ | refine blk_alloc ?_ _)); exact BK646.out⟩, ⟨by repeat (first | (with_reducible first | exact HB.out | apply below_alloc | apply pw_below_drewN | apply below_drew1 | refine below_set ?_ GE646.out) | exact HB.out)⟩⟩
   ·as_aux_lemma =>
    rw [if_neg c13] at H
    have c13b0 : (t649 == 0) = false := beq_eq_false_iff_ne.mpr c13
    have c13b1 : (t649 != 0) = true := bne_iff_ne.mpr c13
    (first | rw [c13b0] | (simp only [i64_w, i32_w]; rw [c13b0]) | skip)
    have H' := Aside0.mk H
    clear H
    have hcz36_0 : w7.cell? ⟨gb646, 0, none⟩ = some (.slice A0_0 l0_0.length c0_0) := (blk_cell BK646.out 0).trans rfl
    have hcz36_1 : w7.cell? ⟨gb646, 1, none⟩ = some (.int .i64 a0_1) := (blk_cell BK646.out 1).trans rfl
    have hcz36_2 : w7.cell? ⟨gb646, 2, none⟩ = some (.int .i64 a0_2) := (blk_cell BK646.out 2).trans rfl
    have hfz36_0 := blk_frozen BK646.out 0
    have hfz36_1 := blk_frozen BK646.out 1
    have hfz36_2 := blk_frozen BK646.out 2
    go_wp2_with (first | ((with_reducible refine gate_callee (f := 14) rfl ?_); refine goesL_ (some 18) rfl rfl Try.func14 (by kernel_rfl) rfl #[.agg #[.slice A0_0 l0_0.length c0_0, .int .i64 a0_1, .int .i64 a0_2]] rfl (by (try simp only [List.map_toArray, List.map_cons, List.map_nil]); first | done | rfl | (simp only [List.length_drop, List.length_take]; rfl)) ?_; (with_reducible refine (fringeref42_Great.calls k _ _ l0_0 a0_1 a0_2 false _ ?side1 ?side2 A8.out).mono ?_); (case side1 => repeat (first | exact (Kd.V_reads' HO0_0.out).2.2 | (with_reducible refine Kd.C_alloc ?_ _) | (with_reducible refine Kd.C_drewN ?_ _) | (with_reducible refine Kd.C_drew ?_))); (case side2 => exact (Kd.V_reads' HO0_0.out).2.1); rintro e w37 ⟨rfl, hb⟩; refine ⟨_, rfl, ?_⟩; have n0_ := Aside0.mk (Kd.V_below (by (with_reducible repeat (first | apply Kd.V_alloc | apply Kd.V_drewN | apply Kd.V_drew)); exact HO0_0.out) hb); have n1_ := Aside0.mk (blk_below (g := gb646) (o := .cells #[.slice A0_0 l0_0.length c0_0, .int .i64 a0_1, .int .i64 a0_2] 24 (0, 0)) (by (with_reducible repeat (first | refine blk_drewN ?_ _ | refine blk_drew ?_ | refine blk_alloc ?_ _)); exact BK646.out) hb); have n2_ := Aside0.mk (below_step (by repeat (first | (with_reducible first | exact HB.out | apply below_alloc | apply pw_below_drewN | apply below_drew1 | refine below_set ?_ GE646.out) | exact HB.out)) hb); clear HO0_0; clear BK646; clear HB; have HO0_0 := n0_; have BK646 := n1_; have HB := n2_; clear n0_ n1_ n2_; (try clear hb); (try clear hb2); (try clear hk); (try clear hi); have hcz38_0 : w37.cell? ⟨gb646, 0, none⟩ = some (.slice A0_0 l0_0.length c0_0) := (blk_cell BK646.out 0).trans rfl; have hcz38_1 : w37.cell? ⟨gb646, 1, none⟩ = some (.int .i64 a0_1) := (blk_cell BK646.out 1).trans rfl; have hcz38_2 : w37.cell? ⟨gb646, 2, none⟩ = some (.int .i64 a0_2) := (blk_cell BK646.out 2).trans rfl; have hfz38_0 := blk_frozen BK646.out 0; have hfz38_1 := blk_frozen BK646.out 1; have hfz38_2 := blk_frozen BK646.out 2) | (go_at_call 22; (with_reducible refine (fringeref42_Check.calls k _ _ l0_0 a0_1 a0_2 t649 _ ?side1 ?side2 A12.out).mono ?_); (case side1 => repeat (first | exact (Kd.V_reads' HO0_0.out).2.2 | (with_reducible refine Kd.C_alloc ?_ _) | (with_reducible refine Kd.C_drewN ?_ _) | (with_reducible refine Kd.C_drew ?_))); (case side2 => exact (Kd.V_reads' HO0_0.out).2.1); rintro e w39 ⟨rfl, hb⟩; have n0_ := Aside0.mk (Kd.V_below (by (with_reducible repeat (first | apply Kd.V_alloc | apply Kd.V_drewN | apply Kd.V_drew)); exact HO0_0.out) hb); have n1_ := Aside0.mk (blk_below (g := gb646) (o := .cells #[.slice A0_0 l0_0.length c0_0, .int .i64 a0_1, .int .i64 a0_2] 24 (0, 0)) (by (with_reducible repeat (first | refine blk_drewN ?_ _ | refine blk_drew ?_ | refine blk_alloc ?_ _)); exact BK646.out) hb); have n2_ := Aside0.mk (below_step (by repeat (first | (with_reducible first | exact HB.out | apply below_alloc | apply pw_below_drewN | apply below_drew1 | refine below_set ?_ GE646.out) | exact HB.out)) hb); clear HO0_0; clear BK646; clear HB; have HO0_0 := n0_; have BK646 := n1_; have HB := n2_; clear n0_ n1_ n2_; (try clear hb); (try clear hb2); (try clear hk); (try clear hi)))
    go_meet
    case rel => exact ⟨_, (true), (by first | rfl | (simp; done) | (simp [*]; done)), H', ⟨by first | omega | exact Nat.le_refl _⟩, ⟨by (with_reducible repeat (first | apply Kd.V_alloc | apply Kd.V_drewN | apply Kd.V_drew)); exact HO0_0.out⟩, ⟨by (with_reducible repeat (first | refine blk_drewN ?_ _ | refine blk_drew ?_ | refine blk_alloc ?_ _)); exact BK646.out⟩, ⟨by repeat (first | (with_reducible first | exact HB.out | apply below_alloc | apply pw_below_drewN | apply below_drew1 | refine below_set ?_ GE646.out) | exact HB.out)⟩⟩
 case rest =>
  as_aux_lemma =>
  clear HC5
  try clear c1
  try clear c2
  try clear p2
  try clear c7
  try clear c9
  try clear c13
  try clear c13b0
  try clear c13b1
  try clear c14
  try clear c14b0
  try clear c19
  try clear c19b0
  try clear c21
  try clear c25
  try clear c25b0
  try clear c25b1
  try clear hcz10_0
  try clear hcz10_1
  try clear hcz10_2
  try clear hcz15_0
  try clear hcz15_1
  try clear hcz15_2
  try clear hcz17_0
  try clear hcz17_1
  try clear hcz17_2
  try clear hcz20_0
  try clear hcz20_1
  try clear hcz20_2
  try clear hcz22_0
  try clear hcz22_1
  try clear hcz22_2
  try clear hcz24_0
  try clear hcz24_1
  try clear hcz24_2
  try clear hcz26_0
  try clear hcz26_1
  try clear hcz26_2
  try clear hcz28_0
  try clear hcz28_1
  try clear hcz28_2
  try clear hcz30_0
  try clear hcz30_1
  try clear hcz30_2
  try clear hcz31_0
  try clear hcz31_1
  try clear hcz31_2
  try clear hcz33_0
  try clear hcz33_1
  try clear hcz33_2
  try clear hcz35_0
  try clear hcz35_1
  try clear hcz35_2
  try clear hcz36_0
  try clear hcz36_1
  try clear hcz36_2
  try clear hcz38_0
  try clear hcz38_1
  try clear hcz38_2
  try clear hfz10_0
  try clear hfz10_1
  try clear hfz10_2
  try clear hfz15_0
  try clear hfz15_1
  try clear hfz15_2
  try clear hfz17_0
  try clear hfz17_1
  try clear hfz17_2
  try clear hfz20_0
  try clear hfz20_1
  try clear hfz20_2
  try clear hfz22_0
  try clear hfz22_1
  try clear hfz22_2
  try clear hfz24_0
  try clear hfz24_1
  try clear hfz24_2
  try clear hfz26_0
  try clear hfz26_1
  try clear hfz26_2
  try clear hfz28_0
  try clear hfz28_1
  try clear hfz28_2
  try clear hfz30_0
  try clear hfz30_1
  try clear hfz30_2
  try clear hfz31_0
  try clear hfz31_1
  try clear hfz31_2
  try clear hfz33_0
  try clear hfz33_1
  try clear hfz33_2
  try clear hfz35_0
  try clear hfz35_1
  try clear hfz35_2
  try clear hfz36_0
  try clear hfz36_1
  try clear hfz36_2
  try clear hfz38_0
  try clear hfz38_1
  try clear hfz38_2
  obtain ⟨kq, x43_4, rfl, HA, HJ4, HO_647000, BK646, HB⟩ := hcut
  cases kq with
  | zero => exact absurd HA.out (by simp [fringelaw42_QueueWaits.j0])
  | succ kj4 =>
   have H := HA.out
   clear HA
   simp only [fringelaw42_QueueWaits.j0] at H
   by_cases c40 : x43_4 = true
   ·as_aux_lemma =>
    subst c40
    rw [if_pos rfl] at H
    have hend := Aside0.mk (Option.some.inj H)
    clear H
    go_wp2
    go_ret
    exact ⟨by first | rfl | (rw [hend.out]; done) | (simp only [hend.out]; done) | (simp [*]; first | exact hend.out | exact eq_of_beq hend.out | exact of_decide_eq_true hend.out) | (have h_ := hend.out; simp_all; done) | (simp [*, errW_none, errW_some] <;> rfl), by repeat (first | (with_reducible first | exact HB.out | apply below_alloc | apply pw_below_drewN | apply below_drew1 | refine below_set ?_ GE646.out) | exact HB.out)⟩
   ·as_aux_lemma =>
    replace c40 := Bool.eq_false_iff.mpr c40
    subst c40
    rw [if_neg (show ¬ (false = true) by decide)] at H
    replace H := Option.bind_eq_some_iff.mp H
    obtain ⟨⟨t650, t651⟩, A410, H⟩ := H
    (try dsimp only at H)
    have A41 := Aside0.mk A410
    clear A410
    by_cases c42 : t651 = 0
    ·as_aux_lemma =>
     rw [if_pos c42] at H
     have c42b0 : (t651 == 0) = true := beq_iff_eq.mpr c42
     have c42b1 : (t651 != 0) = false := bne_eq_false_iff_eq.mpr c42
     clear c42
     have H' := Aside0.mk H
     clear H
     have hcz43_0 : wc.cell? ⟨gb646, 0, none⟩ = some (.slice A0_0 l0_0.length c0_0) := (blk_cell BK646.out 0).trans rfl
     have hcz43_1 : wc.cell? ⟨gb646, 1, none⟩ = some (.int .i64 a0_1) := (blk_cell BK646.out 1).trans rfl
     have hcz43_2 : wc.cell? ⟨gb646, 2, none⟩ = some (.int .i64 a0_2) := (blk_cell BK646.out 2).trans rfl
     have hfz43_0 := blk_frozen BK646.out 0
     have hfz43_1 := blk_frozen BK646.out 1
     have hfz43_2 := blk_frozen BK646.out 2
     try go_wp2_with (first | ((with_reducible refine gate_callee (f := 28) rfl ?_); refine goesL_ (some 48) rfl rfl Try.func28 (by kernel_rfl) rfl #[.agg #[.slice A0_0 l0_0.length c0_0, .int .i64 a0_1, .int .i64 a0_2], .int .i64 a1] rfl (by (try simp only [List.map_toArray, List.map_cons, List.map_nil]); first | done | rfl | (simp only [List.length_drop, List.length_take]; rfl)) ?_; (with_reducible refine (queue_Bound.calls kj4 _ _ l0_0 a0_1 a0_2 a1 t650 t651 _ ?side1 ?side2 A41.out).mono ?_); (case side1 => repeat (first | exact (Kd.V_reads' HO_647000.out).2.2 | (with_reducible refine Kd.C_alloc ?_ _) | (with_reducible refine Kd.C_drewN ?_ _) | (with_reducible refine Kd.C_drew ?_))); (case side2 => exact (Kd.V_reads' HO_647000.out).2.1); rintro e w44 ⟨rfl, hb⟩; refine ⟨_, rfl, ?_⟩; have n0_ := Aside0.mk (Kd.V_below (by (with_reducible repeat (first | apply Kd.V_alloc | apply Kd.V_drewN | apply Kd.V_drew)); exact HO_647000.out) hb); have n1_ := Aside0.mk (blk_below (g := gb646) (o := .cells #[.slice A0_0 l0_0.length c0_0, .int .i64 a0_1, .int .i64 a0_2] 24 (0, 0)) (by (with_reducible repeat (first | refine blk_drewN ?_ _ | refine blk_drew ?_ | refine blk_alloc ?_ _)); exact BK646.out) hb); have n2_ := Aside0.mk (below_step (by repeat (first | (with_reducible first | exact HB.out | apply below_alloc | apply pw_below_drewN | apply below_drew1 | refine below_set ?_ GE646.out) | exact HB.out)) hb); clear HO_647000; clear BK646; clear HB; have HO_647000 := n0_; have BK646 := n1_; have HB := n2_; clear n0_ n1_ n2_; (try clear hb); (try clear hb2); (try clear hk); (try clear hi)))
     have n0_ := Aside0.mk (Kd.V_drew HO_647000.out)
     have n1_ := Aside0.mk (blk_drew BK646.out)
     have n2_ := Aside0.mk (below_drew1 HB.out)
     clear HO_647000
     clear BK646
     clear HB
     have HO_647000 := n0_
     have BK646 := n1_
     have HB := n2_
     clear n0_ n1_ n2_
     refine start_ (n := 5) (S := fun w' => w'.cell? ⟨gb646, 0, none⟩ = some (.slice A0_0 l0_0.length c0_0) ∧ w'.cell? ⟨gb646, 1, none⟩ = some (.int .i64 a0_1) ∧ w'.cell? ⟨gb646, 2, none⟩ = some (.int .i64 a0_2)) (ds := []) #[false, false, false, false, false] (by kernel_rfl) rfl rfl ⟨(blk_cell BK646.out 0).trans rfl, (blk_cell BK646.out 1).trans rfl, (blk_cell BK646.out 2).trans rfl⟩ (fun hHeld => ?_)
     generalize w44.drew = w45 at HO_647000 BK646 HB hHeld ⊢
     refine pure_ (i := 0) (N := some 53) (v := ?_) (a' := ?_) #[true, false, false, false, false] rfl rfl (by kernel_rfl) (fun _ _ _ h => h) (Or.inl ⟨by rfl, ?_⟩) ?_ ?_
     rotate_left
     ·as_aux_lemma =>
      intro w'
      go_simp
      with_reducible rfl
     rotate_left
     ·as_aux_lemma =>
      simp only [Act.put, List.setIfInBounds_toArray, List.set_cons_zero, List.set_cons_succ, i64_w, i32_w]
      rfl
     refine pure_ (i := 3) (N := some 10) (v := ?_) (a' := ?_) #[true, false, false, true, false] rfl rfl (by kernel_rfl) (fun _ _ _ h => h) (Or.inl ⟨by rfl, ?_⟩) ?_ ?_
     rotate_left
     ·as_aux_lemma =>
      intro w'
      go_simp
      with_reducible rfl
     rotate_left
     ·as_aux_lemma =>
      simp only [Act.put, List.setIfInBounds_toArray, List.set_cons_zero, List.set_cons_succ, i64_w, i32_w]
      rfl
     refine take_ (i := 1) (N := some 54) (v := ?_) (a' := ?_) #[true, true, false, true, false] rfl rfl (by kernel_rfl) (fun _ _ _ h => h) (Or.inl ⟨by rfl, ?_⟩) hHeld ?_ ?_
     rotate_left
     ·as_aux_lemma =>
      rintro w' ⟨s0, s1, s2⟩
      go_simp
      with_reducible rfl
     rotate_left
     ·as_aux_lemma =>
      simp only [Act.put, List.setIfInBounds_toArray, List.set_cons_zero, List.set_cons_succ, i64_w, i32_w]
      rfl
     refine pure_ (i := 2) (N := some 55) (v := ?_) (a' := ?_) #[true, true, true, true, false] rfl rfl (by kernel_rfl) (fun _ _ _ h => h) (Or.inl ⟨by rfl, ?_⟩) ?_ ?_
     rotate_left
     ·as_aux_lemma =>
      intro w'
      go_simp
      with_reducible rfl
     rotate_left
     ·as_aux_lemma =>
      simp only [Act.put, List.setIfInBounds_toArray, List.set_cons_zero, List.set_cons_succ, i64_w, i32_w]
      rfl
     refine pure_ (i := 4) (N := some 11) (v := ?_) (a' := ?_) #[true, true, true, true, true] rfl rfl (by kernel_rfl) (fun _ _ _ h => h) (Or.inl ⟨by rfl, ?_⟩) ?_ ?_
     rotate_left
     ·as_aux_lemma =>
      intro w'
      go_simp
      with_reducible rfl
     rotate_left
     ·as_aux_lemma =>
      simp only [Act.put, List.setIfInBounds_toArray, List.set_cons_zero, List.set_cons_succ, i64_w, i32_w]
      rfl
     refine done_ (by kernel_rfl) ?_
     try go_wp2
     go_loopg [10, 12] kj4 (fun kq v10 v12 w' => ∃ (x10_2 : Int) (x12_2 : Int) (x647000_2 : List (S42)) (x647001_2 : Int) (x647002_2 : Int) (u647000 : Value), v10 = .int .i64 x10_2 ∧ v12 = .int .i64 x12_2 ∧ Aside0 (fringelaw42_QueueWaits.l0 kq a1 l2 t647 t650 x10_2 (l0_0.length : Int) x12_2 x647000_2 x647001_2 x647002_2 = some true) ∧ Aside0 (kq ≤ kj4) ∧ Aside0 (Kd.V k42 42 w' w.heap.size (fun k_ => (P0_0_ k_ ∨ w.heap.size ≤ k_) ∧ k_ ≠ gb646) u647000 x647000_2) ∧ Aside0 (w'.heap[gb646]? = some (.cells #[u647000, .int .i64 x647001_2, .int .i64 x647002_2] 24 (0, 0))) ∧ Aside0 (Below w.heap.size w w'))
     case atStart => exact ⟨(0), (0), (l0_0), (a0_1), (a0_2), (.slice A0_0 l0_0.length c0_0), (by first | rfl | (simp; done) | (simp [*]; done)), (by first | rfl | (simp; done) | (simp [*]; done)), H', ⟨Nat.le_refl _⟩, ⟨by (with_reducible repeat (first | apply Kd.V_alloc | apply Kd.V_drewN | apply Kd.V_drew)); exact HO_647000.out⟩, ⟨by (with_reducible repeat (first | refine blk_drewN ?_ _ | refine blk_drew ?_ | refine blk_alloc ?_ _)); exact BK646.out⟩, ⟨by repeat (first | (with_reducible first | exact HB.out | apply below_alloc | apply pw_below_drewN | apply below_drew1 | refine below_set ?_ GE646.out) | exact HB.out)⟩⟩
     case round =>
      as_aux_lemma =>
      clear H'
      try clear c1
      try clear c2
      try clear p2
      try clear c4
      try clear c7
      try clear c9
      try clear c13
      try clear c13b0
      try clear c13b1
      try clear c14
      try clear c14b0
      try clear c19
      try clear c19b0
      try clear c21
      try clear c25
      try clear c25b0
      try clear c25b1
      try clear c28
      try clear c40
      try clear c42
      try clear c42b0
      try clear c42b1
      try clear hcz10_0
      try clear hcz10_1
      try clear hcz10_2
      try clear hcz15_0
      try clear hcz15_1
      try clear hcz15_2
      try clear hcz17_0
      try clear hcz17_1
      try clear hcz17_2
      try clear hcz20_0
      try clear hcz20_1
      try clear hcz20_2
      try clear hcz22_0
      try clear hcz22_1
      try clear hcz22_2
      try clear hcz24_0
      try clear hcz24_1
      try clear hcz24_2
      try clear hcz26_0
      try clear hcz26_1
      try clear hcz26_2
      try clear hcz28_0
      try clear hcz28_1
      try clear hcz28_2
      try clear hcz30_0
      try clear hcz30_1
      try clear hcz30_2
      try clear hcz31_0
      try clear hcz31_1
      try clear hcz31_2
      try clear hcz33_0
      try clear hcz33_1
      try clear hcz33_2
      try clear hcz35_0
      try clear hcz35_1
      try clear hcz35_2
      try clear hcz36_0
      try clear hcz36_1
      try clear hcz36_2
      try clear hcz38_0
      try clear hcz38_1
      try clear hcz38_2
      try clear hcz43_0
      try clear hcz43_1
      try clear hcz43_2
      try clear hfz10_0
      try clear hfz10_1
      try clear hfz10_2
      try clear hfz15_0
      try clear hfz15_1
      try clear hfz15_2
      try clear hfz17_0
      try clear hfz17_1
      try clear hfz17_2
      try clear hfz20_0
      try clear hfz20_1
      try clear hfz20_2
      try clear hfz22_0
      try clear hfz22_1
      try clear hfz22_2
      try clear hfz24_0
      try clear hfz24_1
      try clear hfz24_2
      try clear hfz26_0
      try clear hfz26_1
      try clear hfz26_2
      try clear hfz28_0
      try clear hfz28_1
      try clear hfz28_2
      try clear hfz30_0
      try clear hfz30_1
      try clear hfz30_2
      try clear hfz31_0
      try clear hfz31_1
      try clear hfz31_2
      try clear hfz33_0
      try clear hfz33_1
      try clear hfz33_2
      try clear hfz35_0
      try clear hfz35_1
      try clear hfz35_2
      try clear hfz36_0
      try clear hfz36_1
      try clear hfz36_2
      try clear hfz38_0
      try clear hfz38_1
      try clear hfz38_2
      try clear hfz43_0
      try clear hfz43_1
      try clear hfz43_2
      try clear p2
      obtain ⟨x10_2, x12_2, x647000_2, x647001_2, x647002_2, u647000, rfl, rfl, HA, HK2, HO_647000, BK646, HB⟩ := hrel
      cases gk with
      | zero => exact absurd HA.out (by simp [fringelaw42_QueueWaits.l0])
      | succ k2 =>
       have H := HA.out
       clear HA
       simp only [fringelaw42_QueueWaits.l0] at H
       by_cases c46 : x12_2 < (l2.length : Int)
       ·as_aux_lemma =>
        rw [if_pos c46] at H
        have c46b0 : decide (x12_2 < (l2.length : Int)) = true := decide_eq_true c46
        clear c46
        by_cases c47 : 0 ≤ x12_2
        ·as_aux_lemma =>
         rw [if_pos c47] at H
         have c47b0 : decide (0 ≤ x12_2) = true := decide_eq_true c47
         clear c47
         replace H := Option.bind_eq_some_iff.mp H
         obtain ⟨⟨t653, t656, t657, t658, t659⟩, A480, H⟩ := H
         (try dsimp only at H)
         have A48 := Aside0.mk A480
         clear A480
         by_cases c49 : t659 = true
         ·as_aux_lemma =>
          subst c49
          rw [if_pos rfl] at H
          have HC50 := Aside0.mk H
          clear H
          obtain ⟨Ao51, co51, eo51⟩ := Kd.V_slice HO_647000.out
          subst eo51
          try go_wp2
          have n0_ := Aside0.mk (Kd.V_drew HO_647000.out)
          have n1_ := Aside0.mk (blk_drew BK646.out)
          have n2_ := Aside0.mk (below_drew1 HB.out)
          clear HO_647000
          clear BK646
          clear HB
          have HO_647000 := n0_
          have BK646 := n1_
          have HB := n2_
          clear n0_ n1_ n2_
          have p652 : 0 ≤ (x12_2 : Int) := of_decide_eq_true (by first | (with_reducible assumption) | assumption)
          have q652 : x12_2 < (l2.length : Int) := of_decide_eq_true (by first | (with_reducible assumption) | assumption)
          obtain ⟨ad652, e652, hx652_0⟩ := Kd.at_int HR2.out x12_2 p652 q652
          have hw652_0 := hx652_0
          cases e652
          replace hx652_0 := (HB.out.cell (World.block_lt_of_cell? w _ hx652_0)).trans hx652_0
          replace p652 := eq_true p652
          replace q652 := eq_true q652
          refine start_ (n := 15) (S := fun w' => w'.cell? ⟨gb646, 0, none⟩ = some (.slice Ao51 x647000_2.length co51) ∧ w'.cell? ⟨gb646, 1, none⟩ = some (.int .i64 x647001_2) ∧ w'.cell? ⟨gb646, 2, none⟩ = some (.int .i64 x647002_2) ∧ w'.cell? (ad652.add (x12_2).toNat) = some (.int .i64 (rd l2 x12_2))) (ds := []) #[false, false, false, false, false, false, false, false, false, false, false, false, false, false, false] (by kernel_rfl) rfl rfl ⟨(blk_cell BK646.out 0).trans rfl, (blk_cell BK646.out 1).trans rfl, (blk_cell BK646.out 2).trans rfl, ((HB.out.cell (World.block_lt_of_cell? w _ hw652_0)).trans hw652_0)⟩ (fun hHeld => ?_); refine with_tabW fringelaw42_QueueWaits.tab11 fringelaw42_QueueWaits.bits11 (fun HT_ HW_ => ?_)
          generalize wr.drew = w52 at HO_647000 BK646 HB hx652_0 hHeld ⊢
          refine pure_ (i := 1) (N := some 64) (v := ?_) (a' := ?_) #[false, true, false, false, false, false, false, false, false, false, false, false, false, false, false] rfl rfl (any_of HT_.out (by kernel_rfl)) (fun _ _ _ h => h) (Or.inl ⟨by rfl, ?_⟩) ?_ ?_
          rotate_left
          ·as_aux_lemma =>
           intro w'
           go_simp
           with_reducible rfl
          rotate_left
          ·as_aux_lemma =>
           simp only [Act.put, List.setIfInBounds_toArray, List.set_cons_zero, List.set_cons_succ, i64_w, i32_w]
           rfl
          refine pure_ (i := 2) (N := some 65) (v := ?_) (a' := ?_) #[false, true, true, false, false, false, false, false, false, false, false, false, false, false, false] rfl rfl (any_of HT_.out (by kernel_rfl)) (fun _ _ _ h => h) (Or.inl ⟨by rfl, ?_⟩) ?_ ?_
          rotate_left
          ·as_aux_lemma =>
           intro w'
           go_simp
           with_reducible rfl
          rotate_left
          ·as_aux_lemma =>
           simp only [Act.put, List.setIfInBounds_toArray, List.set_cons_zero, List.set_cons_succ, i64_w, i32_w]
           rfl
          refine pure_ (i := 3) (N := some 66) (v := ?_) (a' := ?_) #[false, true, true, true, false, false, false, false, false, false, false, false, false, false, false] rfl rfl (any_of HT_.out (by kernel_rfl)) (fun _ _ _ h => h) (Or.inl ⟨by rfl, ?_⟩) ?_ ?_
          rotate_left
          ·as_aux_lemma =>
           intro w'
           go_simp
           with_reducible rfl
          rotate_left
          ·as_aux_lemma =>
           simp only [Act.put, List.setIfInBounds_toArray, List.set_cons_zero, List.set_cons_succ, i64_w, i32_w]
           rfl
          refine pure_ (i := 5) (N := some 68) (v := ?_) (a' := ?_) #[false, true, true, true, false, true, false, false, false, false, false, false, false, false, false] rfl rfl (any_of HT_.out (by kernel_rfl)) (fun _ _ _ h => h) (Or.inl ⟨by rfl, ?_⟩) ?_ ?_
          rotate_left
          ·as_aux_lemma =>
           intro w'
           go_simp
           with_reducible rfl
          rotate_left
          ·as_aux_lemma =>
           simp only [Act.put, List.setIfInBounds_toArray, List.set_cons_zero, List.set_cons_succ, i64_w, i32_w]
           rfl
          refine take_ (i := 0) (N := some 63) (v := ?_) (a' := ?_) #[true, true, true, true, false, true, false, false, false, false, false, false, false, false, false] rfl rfl (take_ofW HT_.out HW_.out (by kernel_rfl)) (fun _ _ _ h => h) (Or.inl ⟨by rfl, ?_⟩) hHeld ?_ ?_
          rotate_left
          ·as_aux_lemma =>
           rintro w' ⟨s0, s1, s2, s3⟩
           go_simp
           with_reducible rfl
          rotate_left
          ·as_aux_lemma =>
           simp only [Act.put, List.setIfInBounds_toArray, List.set_cons_zero, List.set_cons_succ, i64_w, i32_w]
           rfl
          refine take_ (i := 4) (N := some 67) (v := ?_) (a' := ?_) #[true, true, true, true, true, true, false, false, false, false, false, false, false, false, false] rfl rfl (take_ofW HT_.out HW_.out (by kernel_rfl)) (fun _ _ _ h => h) (Or.inl ⟨by rfl, ?_⟩) hHeld ?_ ?_
          rotate_left
          ·as_aux_lemma =>
           rintro w' ⟨s0, s1, s2, s3⟩
           go_simp
           with_reducible rfl
          rotate_left
          ·as_aux_lemma =>
           simp only [Act.put, List.setIfInBounds_toArray, List.set_cons_zero, List.set_cons_succ, i64_w, i32_w]
           rfl
          refine join_ (σ := Value × Nat) 3 #[true, true, true, true, true, true, true, true, true, true, true, true, false, false, false] (fun s_ => [(69, .tuple #[.agg #[s_.1, .int .i64 t656, .int .i64 t657], .int .i64 t658, .bool true]), (13, .pointer (some ⟨s_.2, 0, none⟩)), (62, .tuple #[.agg #[s_.1, .int .i64 t656, .int .i64 t657], .int .i64 t658, .bool true]), (70, .agg #[s_.1, .int .i64 t656, .int .i64 t657]), (71, .int .i64 t658), (72, .bool true)]) (fun s_ w' => (w'.cell? ⟨gb646, 0, none⟩ = some (.slice Ao51 x647000_2.length co51) ∧ w'.cell? ⟨gb646, 1, none⟩ = some (.int .i64 x647001_2) ∧ w'.cell? ⟨gb646, 2, none⟩ = some (.int .i64 x647002_2) ∧ w'.cell? (ad652.add (x12_2).toNat) = some (.int .i64 (rd l2 x12_2))) ∧ (Kd.R k42 42 w' w.heap.size (fun k_ => (w.heap.size ≤ k_)) s_.1 t653) ∧ (Kd.V k42 42 w' w.heap.size (fun k_ => (P0_0_ k_ ∨ w.heap.size ≤ k_) ∧ some k_ ≠ (s_.1 : Value).ownBlock ∧ k_ ≠ gb646 ∧ k_ ≠ s_.2) (.slice Ao51 x647000_2.length co51) x647000_2) ∧ (w'.heap[gb646]? = some (.cells #[.slice Ao51 x647000_2.length co51, .int .i64 x647001_2, .int .i64 x647002_2] 24 (0, 0))) ∧ (w'.heap[s_.2]? = some (.cells #[.slice none 0 0, .int .i64 0, .int .i64 0] 24 (0, 0))) ∧ (w.heap.size ≤ s_.2) ∧ (w.heap.size ≤ s_.2) ∧ (gb646 ≠ s_.2) ∧ (s_.2 ≠ gb646) ∧ (Below w.heap.size w w')) ?_ ?_
          rotate_left
          ·as_aux_lemma =>
           intro hCont
           refine two_ (i := 6) (j := 11) (Ni := some 69) (Nj := some 13) #[true, true, true, true, true, true, true, false, false, false, false, false, false, false, false] #[true, true, true, true, true, true, false, false, false, false, false, true, false, false, false] rfl rfl rfl rfl (two_of HT_.out (by kernel_rfl)) (by decide) (by decide) (fun K hK => ?_) (fun K hK => ?_)
           ·as_aux_lemma =>
            skip
            refine goes_ Try.func30 (by kernel_rfl) rfl #[.agg #[.slice Ao51 x647000_2.length co51, .int .i64 x647001_2, .int .i64 x647002_2], .int .i64 (rd l2 x12_2), .int .i64 a1] (by rfl) rfl rfl (by (try simp only [List.map_toArray, List.map_cons, List.map_nil]); first | done | rfl | (simp only [List.length_drop, List.length_take]; rfl)) ?_
            with_reducible refine (fringelaw42_done.calls k2 _ _ x647000_2 x647001_2 x647002_2 (rd l2 x12_2) a1 t653 t656 t657 t658 true _ ?side1 ?side2 A48.out).mono ?_
            (case side1 => repeat (first | exact (Kd.V_reads' HO_647000.out).2.2 | (with_reducible refine Kd.C_alloc ?_ _) | (with_reducible refine Kd.C_drewN ?_ _) | (with_reducible refine Kd.C_drew ?_)))
            (case side2 => exact (Kd.V_reads' HO_647000.out).2.1)
            rintro e w53 ⟨v654, rfl, ho0, hb⟩
            refine ⟨_, rfl, ?_⟩
            have n0_ := Aside0.mk (Kd.V_elder' (by (with_reducible repeat (first | apply Kd.V_alloc | apply Kd.V_drewN | apply Kd.V_drew)); exact HO_647000.out) (Kd.R_base ho0) hb)
            have n1_ := Aside0.mk (Kd.R_lower (Kd.R_newM (M := fun k_ => (w.heap.size ≤ k_)) ho0 (below_size (by repeat (first | (with_reducible first | exact HB.out | apply below_alloc | apply pw_below_drewN | apply below_drew1 | refine below_set ?_ GE646.out) | exact HB.out))) (fun k_ h_ => h_)) (below_size (by repeat (first | (with_reducible first | exact HB.out | apply below_alloc | apply pw_below_drewN | apply below_drew1 | refine below_set ?_ GE646.out) | exact HB.out))))
            have n2_ := Aside0.mk (blk_below (g := gb646) (o := .cells #[.slice Ao51 x647000_2.length co51, .int .i64 x647001_2, .int .i64 x647002_2] 24 (0, 0)) (by (with_reducible repeat (first | refine blk_drewN ?_ _ | refine blk_drew ?_ | refine blk_alloc ?_ _)); exact BK646.out) hb)
            have n3_ := Aside0.mk (below_step (by repeat (first | (with_reducible first | exact HB.out | apply below_alloc | apply pw_below_drewN | apply below_drew1 | refine below_set ?_ GE646.out) | exact HB.out)) hb)
            clear HO_647000
            clear BK646
            clear HB
            have HO_647000 := n0_
            have HO655 := n1_
            have BK646 := n2_
            have HB := n3_
            clear n0_ n1_ n2_ n3_
            (try clear hb)
            (try clear hb2)
            (try clear hk)
            (try clear hi)
            (try clear ho0)
            refine hK.out _ _ ⟨(blk_cell BK646.out 0).trans rfl, (blk_cell BK646.out 1).trans rfl, (blk_cell BK646.out 2).trans rfl, ((HB.out.cell (World.block_lt_of_cell? w _ hw652_0)).trans hw652_0)⟩ (fun hHeld => ?_)
            clear hK K
            refine norm_ (a' := ?_) ?_ ?_
            rotate_left
            ·as_aux_lemma =>
             show Act.put _ (some 69) _ = _
             simp only [Act.put, List.setIfInBounds_toArray, List.set_cons_zero, List.set_cons_succ, i64_w, i32_w]
             rfl
            refine pure_ (i := 7) (N := some 62) (v := ?_) (a' := ?_) #[true, true, true, true, true, true, true, true, false, false, false, false, false, false, false] rfl rfl (any_of HT_.out (by kernel_rfl)) (fun _ _ _ h => h) (Or.inl ⟨by rfl, ?_⟩) ?_ ?_
            rotate_left
            ·as_aux_lemma =>
             intro w'
             go_simp
             with_reducible rfl
            rotate_left
            ·as_aux_lemma =>
             simp only [Act.put, List.setIfInBounds_toArray, List.set_cons_zero, List.set_cons_succ, i64_w, i32_w]
             rfl
            refine pure_ (i := 8) (N := some 70) (v := ?_) (a' := ?_) #[true, true, true, true, true, true, true, true, true, false, false, false, false, false, false] rfl rfl (any_of HT_.out (by kernel_rfl)) (fun _ _ _ h => h) (Or.inl ⟨by rfl, ?_⟩) ?_ ?_
            rotate_left
            ·as_aux_lemma =>
             intro w'
             go_simp
             with_reducible rfl
            rotate_left
            ·as_aux_lemma =>
             simp only [Act.put, List.setIfInBounds_toArray, List.set_cons_zero, List.set_cons_succ, i64_w, i32_w]
             rfl
            refine pure_ (i := 9) (N := some 71) (v := ?_) (a' := ?_) #[true, true, true, true, true, true, true, true, true, true, false, false, false, false, false] rfl rfl (any_of HT_.out (by kernel_rfl)) (fun _ _ _ h => h) (Or.inl ⟨by rfl, ?_⟩) ?_ ?_
            rotate_left
            ·as_aux_lemma =>
             intro w'
             go_simp
             with_reducible rfl
            rotate_left
            ·as_aux_lemma =>
             simp only [Act.put, List.setIfInBounds_toArray, List.set_cons_zero, List.set_cons_succ, i64_w, i32_w]
             rfl
            refine pure_ (i := 10) (N := some 72) (v := ?_) (a' := ?_) #[true, true, true, true, true, true, true, true, true, true, true, false, false, false, false] rfl rfl (any_of HT_.out (by kernel_rfl)) (fun _ _ _ h => h) (Or.inl ⟨by rfl, ?_⟩) ?_ ?_
            rotate_left
            ·as_aux_lemma =>
             intro w'
             go_simp
             with_reducible rfl
            rotate_left
            ·as_aux_lemma =>
             simp only [Act.put, List.setIfInBounds_toArray, List.set_cons_zero, List.set_cons_succ, i64_w, i32_w]
             rfl
            refine one_ (i := 11) (N := some 13) #[true, true, true, true, true, true, true, true, true, true, true, true, false, false, false] rfl rfl (one_of HT_.out (by kernel_rfl)) (by decide) (fun K hK => ?_)
            refine box_step ?hg (N := 13) ?hd (cs := #[.slice none 0 0, .int .i64 0, .int .i64 0]) (t := 24) ?hr ?_; (case hd => rfl); (case hg => rfl); (case hr => first | (go_simp; done) | (go_simp; rfl))
            intro gb660 hg w54 hbox hb
            have n0_ := Aside0.mk (Kd.V_below (Kd.V_elderB (by (with_reducible repeat (first | apply Kd.V_alloc | apply Kd.V_drewN | apply Kd.V_drew)); exact HO_647000.out) gb660 (Nat.le_of_eq hg.symm)) hb)
            have n1_ := Aside0.mk (Kd.R_below (by (with_reducible repeat (first | apply Kd.R_alloc | apply Kd.R_drewN | apply Kd.R_drew)); exact HO655.out) hb)
            have n2_ := Aside0.mk (blk_below (g := gb646) (o := .cells #[.slice Ao51 x647000_2.length co51, .int .i64 x647001_2, .int .i64 x647002_2] 24 (0, 0)) (by (with_reducible repeat (first | refine blk_drewN ?_ _ | refine blk_drew ?_ | refine blk_alloc ?_ _)); exact BK646.out) hb)
            have n3_ := Aside0.mk (below_step (by repeat (first | (with_reducible first | exact HB.out | apply below_alloc | apply pw_below_drewN | apply below_drew1 | refine below_set ?_ GE646.out) | exact HB.out)) hb)
            have n4_ := Aside0.mk (hbox)
            have n5_ := Aside0.mk ((by rw [hg]; exact (below_size (by repeat (first | (with_reducible first | exact HB.out | apply below_alloc | apply pw_below_drewN | apply below_drew1 | refine below_set ?_ GE646.out) | exact HB.out))) : w.heap.size ≤ gb660))
            have n6_ := Aside0.mk ((by rw [hg]; exact (below_size (by repeat (first | (with_reducible first | exact HB.out | apply below_alloc | apply pw_below_drewN | apply below_drew1 | refine below_set ?_ GE646.out) | exact HB.out))) : w.heap.size ≤ gb660))
            have n7_ := Aside0.mk ((by rw [hg]; exact Nat.ne_of_lt (blk_lt (g := gb646) (o := .cells #[.slice Ao51 x647000_2.length co51, .int .i64 x647001_2, .int .i64 x647002_2] 24 (0, 0)) (by (with_reducible repeat (first | refine blk_drewN ?_ _ | refine blk_drew ?_ | refine blk_alloc ?_ _)); exact BK646.out)) : gb646 ≠ gb660))
            have n8_ := Aside0.mk ((by rw [hg]; exact Nat.ne_of_gt (blk_lt (g := gb646) (o := .cells #[.slice Ao51 x647000_2.length co51, .int .i64 x647001_2, .int .i64 x647002_2] 24 (0, 0)) (by (with_reducible repeat (first | refine blk_drewN ?_ _ | refine blk_drew ?_ | refine blk_alloc ?_ _)); exact BK646.out)) : gb660 ≠ gb646))
            clear HO_647000
            clear HO655
            clear BK646
            clear HB
            have HO_647000 := n0_
            have HO655 := n1_
            have BK646 := n2_
            have HB := n3_
            have BK660 := n4_
            have GW660 := n5_
            have GE660 := n6_
            have NB646_660 := n7_
            have NB660_646 := n8_
            clear n0_ n1_ n2_ n3_ n4_ n5_ n6_ n7_ n8_
            clear hb hbox hg
            refine hK.out _ _ ⟨(blk_cell BK646.out 0).trans rfl, (blk_cell BK646.out 1).trans rfl, (blk_cell BK646.out 2).trans rfl, ((HB.out.cell (World.block_lt_of_cell? w _ hw652_0)).trans hw652_0)⟩ (fun hHeld => ?_)
            clear hK K
            refine norm_ (a' := ?_) ?_ ?_
            rotate_left
            ·as_aux_lemma =>
             show Act.put _ (some 13) _ = _
             simp only [Act.put, List.setIfInBounds_toArray, List.set_cons_zero, List.set_cons_succ, i64_w, i32_w]
             rfl
            exact norm_ (by simp only [putAll, Act.put, List.setIfInBounds_toArray, List.set_cons_zero, List.set_cons_succ]) (hCont (v654, gb660) _ ⟨hHeld, (by (with_reducible repeat (first | apply Kd.R_alloc | apply Kd.R_drewN | apply Kd.R_drew)); exact Kd.R_mono HO655.out (fun _ hk => hk.1)), (by (with_reducible repeat (first | apply Kd.V_alloc | apply Kd.V_drewN | apply Kd.V_drew)); exact Kd.V_mono HO_647000.out (fun _ hk => ⟨hk.1.1.1, ⟨hk.1.2, ⟨hk.1.1.2, hk.2⟩⟩⟩)), (by (with_reducible repeat (first | refine blk_drewN ?_ _ | refine blk_drew ?_ | refine blk_alloc ?_ _)); exact BK646.out), (by (with_reducible repeat (first | refine blk_drewN ?_ _ | refine blk_drew ?_ | refine blk_alloc ?_ _)); exact BK660.out), GW660.out, GE660.out, NB646_660.out, NB660_646.out, (by repeat (first | (with_reducible first | exact HB.out | apply below_alloc | apply pw_below_drewN | apply below_drew1 | refine below_set ?_ GE646.out | refine below_set ?_ GE660.out) | exact HB.out))⟩)
           ·as_aux_lemma =>
            skip
            refine box_step ?hg (N := 13) ?hd (cs := #[.slice none 0 0, .int .i64 0, .int .i64 0]) (t := 24) ?hr ?_; (case hd => rfl); (case hg => rfl); (case hr => first | (go_simp; done) | (go_simp; rfl))
            intro gb660 hg w53 hbox hb
            have n0_ := Aside0.mk (Kd.V_below (Kd.V_elderB (by (with_reducible repeat (first | apply Kd.V_alloc | apply Kd.V_drewN | apply Kd.V_drew)); exact HO_647000.out) gb660 (Nat.le_of_eq hg.symm)) hb)
            have n1_ := Aside0.mk (blk_below (g := gb646) (o := .cells #[.slice Ao51 x647000_2.length co51, .int .i64 x647001_2, .int .i64 x647002_2] 24 (0, 0)) (by (with_reducible repeat (first | refine blk_drewN ?_ _ | refine blk_drew ?_ | refine blk_alloc ?_ _)); exact BK646.out) hb)
            have n2_ := Aside0.mk (below_step (by repeat (first | (with_reducible first | exact HB.out | apply below_alloc | apply pw_below_drewN | apply below_drew1 | refine below_set ?_ GE646.out) | exact HB.out)) hb)
            have n3_ := Aside0.mk (hbox)
            have n4_ := Aside0.mk ((by rw [hg]; exact (below_size (by repeat (first | (with_reducible first | exact HB.out | apply below_alloc | apply pw_below_drewN | apply below_drew1 | refine below_set ?_ GE646.out) | exact HB.out))) : w.heap.size ≤ gb660))
            have n5_ := Aside0.mk ((by rw [hg]; exact (below_size (by repeat (first | (with_reducible first | exact HB.out | apply below_alloc | apply pw_below_drewN | apply below_drew1 | refine below_set ?_ GE646.out) | exact HB.out))) : w.heap.size ≤ gb660))
            have n6_ := Aside0.mk ((by rw [hg]; exact Nat.ne_of_lt (blk_lt (g := gb646) (o := .cells #[.slice Ao51 x647000_2.length co51, .int .i64 x647001_2, .int .i64 x647002_2] 24 (0, 0)) (by (with_reducible repeat (first | refine blk_drewN ?_ _ | refine blk_drew ?_ | refine blk_alloc ?_ _)); exact BK646.out)) : gb646 ≠ gb660))
            have n7_ := Aside0.mk ((by rw [hg]; exact Nat.ne_of_gt (blk_lt (g := gb646) (o := .cells #[.slice Ao51 x647000_2.length co51, .int .i64 x647001_2, .int .i64 x647002_2] 24 (0, 0)) (by (with_reducible repeat (first | refine blk_drewN ?_ _ | refine blk_drew ?_ | refine blk_alloc ?_ _)); exact BK646.out)) : gb660 ≠ gb646))
            clear HO_647000
            clear BK646
            clear HB
            have HO_647000 := n0_
            have BK646 := n1_
            have HB := n2_
            have BK660 := n3_
            have GW660 := n4_
            have GE660 := n5_
            have NB646_660 := n6_
            have NB660_646 := n7_
            clear n0_ n1_ n2_ n3_ n4_ n5_ n6_ n7_
            clear hb hbox hg
            refine hK.out _ _ ⟨(blk_cell BK646.out 0).trans rfl, (blk_cell BK646.out 1).trans rfl, (blk_cell BK646.out 2).trans rfl, ((HB.out.cell (World.block_lt_of_cell? w _ hw652_0)).trans hw652_0)⟩ (fun hHeld => ?_)
            clear hK K
            refine norm_ (a' := ?_) ?_ ?_
            rotate_left
            ·as_aux_lemma =>
             show Act.put _ (some 13) _ = _
             simp only [Act.put, List.setIfInBounds_toArray, List.set_cons_zero, List.set_cons_succ, i64_w, i32_w]
             rfl
            refine one_ (i := 6) (N := some 69) #[true, true, true, true, true, true, true, false, false, false, false, true, false, false, false] rfl rfl (one_of HT_.out (by kernel_rfl)) (by decide) (fun K hK => ?_)
            refine goes_ Try.func30 (by kernel_rfl) rfl #[.agg #[.slice Ao51 x647000_2.length co51, .int .i64 x647001_2, .int .i64 x647002_2], .int .i64 (rd l2 x12_2), .int .i64 a1] (by rfl) rfl rfl (by (try simp only [List.map_toArray, List.map_cons, List.map_nil]); first | done | rfl | (simp only [List.length_drop, List.length_take]; rfl)) ?_
            with_reducible refine (fringelaw42_done.calls k2 _ _ x647000_2 x647001_2 x647002_2 (rd l2 x12_2) a1 t653 t656 t657 t658 true _ ?side1 ?side2 A48.out).mono ?_
            (case side1 => repeat (first | exact (Kd.V_reads' HO_647000.out).2.2 | (with_reducible refine Kd.C_alloc ?_ _) | (with_reducible refine Kd.C_drewN ?_ _) | (with_reducible refine Kd.C_drew ?_)))
            (case side2 => exact (Kd.V_reads' HO_647000.out).2.1)
            rintro e w54 ⟨v654, rfl, ho0, hb⟩
            refine ⟨_, rfl, ?_⟩
            have n0_ := Aside0.mk (Kd.V_elder' (by (with_reducible repeat (first | apply Kd.V_alloc | apply Kd.V_drewN | apply Kd.V_drew)); exact HO_647000.out) (Kd.R_base ho0) hb)
            have n1_ := Aside0.mk (Kd.R_lower (Kd.R_newM (M := fun k_ => (w.heap.size ≤ k_)) ho0 (below_size (by repeat (first | (with_reducible first | exact HB.out | apply below_alloc | apply pw_below_drewN | apply below_drew1 | refine below_set ?_ GE646.out | refine below_set ?_ GE660.out) | exact HB.out))) (fun k_ h_ => h_)) (below_size (by repeat (first | (with_reducible first | exact HB.out | apply below_alloc | apply pw_below_drewN | apply below_drew1 | refine below_set ?_ GE646.out | refine below_set ?_ GE660.out) | exact HB.out))))
            have n2_ := Aside0.mk (blk_below (g := gb646) (o := .cells #[.slice Ao51 x647000_2.length co51, .int .i64 x647001_2, .int .i64 x647002_2] 24 (0, 0)) (by (with_reducible repeat (first | refine blk_drewN ?_ _ | refine blk_drew ?_ | refine blk_alloc ?_ _)); exact BK646.out) hb)
            have n3_ := Aside0.mk (blk_below (g := gb660) (o := .cells #[.slice none 0 0, .int .i64 0, .int .i64 0] 24 (0, 0)) (by (with_reducible repeat (first | refine blk_drewN ?_ _ | refine blk_drew ?_ | refine blk_alloc ?_ _)); exact BK660.out) hb)
            have n4_ := Aside0.mk (below_step (by repeat (first | (with_reducible first | exact HB.out | apply below_alloc | apply pw_below_drewN | apply below_drew1 | refine below_set ?_ GE646.out | refine below_set ?_ GE660.out) | exact HB.out)) hb)
            clear HO_647000
            clear BK646
            clear BK660
            clear HB
            have HO_647000 := n0_
            have HO655 := n1_
            have BK646 := n2_
            have BK660 := n3_
            have HB := n4_
            clear n0_ n1_ n2_ n3_ n4_
            (try clear hb)
            (try clear hb2)
            (try clear hk)
            (try clear hi)
            (try clear ho0)
            refine hK.out _ _ ⟨(blk_cell BK646.out 0).trans rfl, (blk_cell BK646.out 1).trans rfl, (blk_cell BK646.out 2).trans rfl, ((HB.out.cell (World.block_lt_of_cell? w _ hw652_0)).trans hw652_0)⟩ (fun hHeld => ?_)
            clear hK K
            refine norm_ (a' := ?_) ?_ ?_
            rotate_left
            ·as_aux_lemma =>
             show Act.put _ (some 69) _ = _
             simp only [Act.put, List.setIfInBounds_toArray, List.set_cons_zero, List.set_cons_succ, i64_w, i32_w]
             rfl
            refine pure_ (i := 7) (N := some 62) (v := ?_) (a' := ?_) #[true, true, true, true, true, true, true, true, false, false, false, true, false, false, false] rfl rfl (any_of HT_.out (by kernel_rfl)) (fun _ _ _ h => h) (Or.inl ⟨by rfl, ?_⟩) ?_ ?_
            rotate_left
            ·as_aux_lemma =>
             intro w'
             go_simp
             with_reducible rfl
            rotate_left
            ·as_aux_lemma =>
             simp only [Act.put, List.setIfInBounds_toArray, List.set_cons_zero, List.set_cons_succ, i64_w, i32_w]
             rfl
            refine pure_ (i := 8) (N := some 70) (v := ?_) (a' := ?_) #[true, true, true, true, true, true, true, true, true, false, false, true, false, false, false] rfl rfl (any_of HT_.out (by kernel_rfl)) (fun _ _ _ h => h) (Or.inl ⟨by rfl, ?_⟩) ?_ ?_
            rotate_left
            ·as_aux_lemma =>
             intro w'
             go_simp
             with_reducible rfl
            rotate_left
            ·as_aux_lemma =>
             simp only [Act.put, List.setIfInBounds_toArray, List.set_cons_zero, List.set_cons_succ, i64_w, i32_w]
             rfl
            refine pure_ (i := 9) (N := some 71) (v := ?_) (a' := ?_) #[true, true, true, true, true, true, true, true, true, true, false, true, false, false, false] rfl rfl (any_of HT_.out (by kernel_rfl)) (fun _ _ _ h => h) (Or.inl ⟨by rfl, ?_⟩) ?_ ?_
            rotate_left
            ·as_aux_lemma =>
             intro w'
             go_simp
             with_reducible rfl
            rotate_left
            ·as_aux_lemma =>
             simp only [Act.put, List.setIfInBounds_toArray, List.set_cons_zero, List.set_cons_succ, i64_w, i32_w]
             rfl
            refine pure_ (i := 10) (N := some 72) (v := ?_) (a' := ?_) #[true, true, true, true, true, true, true, true, true, true, true, true, false, false, false] rfl rfl (any_of HT_.out (by kernel_rfl)) (fun _ _ _ h => h) (Or.inl ⟨by rfl, ?_⟩) ?_ ?_
            rotate_left
            ·as_aux_lemma =>
             intro w'
             go_simp
             with_reducible rfl
            rotate_left
            ·as_aux_lemma =>
             simp only [Act.put, List.setIfInBounds_toArray, List.set_cons_zero, List.set_cons_succ, i64_w, i32_w]
             rfl
            exact norm_ (by simp only [putAll, Act.put, List.setIfInBounds_toArray, List.set_cons_zero, List.set_cons_succ]) (hCont (v654, gb660) _ ⟨hHeld, (by (with_reducible repeat (first | apply Kd.R_alloc | apply Kd.R_drewN | apply Kd.R_drew)); exact Kd.R_mono HO655.out (fun _ hk => hk.1)), (by (with_reducible repeat (first | apply Kd.V_alloc | apply Kd.V_drewN | apply Kd.V_drew)); exact Kd.V_mono HO_647000.out (fun _ hk => ⟨hk.1.1.1, ⟨hk.2, ⟨hk.1.1.2, hk.1.2⟩⟩⟩)), (by (with_reducible repeat (first | refine blk_drewN ?_ _ | refine blk_drew ?_ | refine blk_alloc ?_ _)); exact BK646.out), (by (with_reducible repeat (first | refine blk_drewN ?_ _ | refine blk_drew ?_ | refine blk_alloc ?_ _)); exact BK660.out), GW660.out, GE660.out, NB646_660.out, NB660_646.out, (by repeat (first | (with_reducible first | exact HB.out | apply below_alloc | apply pw_below_drewN | apply below_drew1 | refine below_set ?_ GE646.out | refine below_set ?_ GE660.out) | exact HB.out))⟩)
          rintro ⟨v654, gb660⟩ w55 ⟨hS_, h0_, h1_, h2_, h3_, h4_, h5_, h6_, h7_, h8_⟩
          have n0_ : Aside0 (Kd.R k42 42 w55 w.heap.size (fun k_ => (w.heap.size ≤ k_)) v654 t653) := ⟨h0_⟩
          have n1_ : Aside0 (Kd.V k42 42 w55 w.heap.size (fun k_ => (P0_0_ k_ ∨ w.heap.size ≤ k_) ∧ some k_ ≠ (v654 : Value).ownBlock ∧ k_ ≠ gb646 ∧ k_ ≠ gb660) (.slice Ao51 x647000_2.length co51) x647000_2) := ⟨h1_⟩
          have n2_ : Aside0 (w55.heap[gb646]? = some (.cells #[.slice Ao51 x647000_2.length co51, .int .i64 x647001_2, .int .i64 x647002_2] 24 (0, 0))) := ⟨h2_⟩
          have n3_ : Aside0 (w55.heap[gb660]? = some (.cells #[.slice none 0 0, .int .i64 0, .int .i64 0] 24 (0, 0))) := ⟨h3_⟩
          have n4_ : Aside0 (w.heap.size ≤ gb660) := ⟨h4_⟩
          have n5_ : Aside0 (w.heap.size ≤ gb660) := ⟨h5_⟩
          have n6_ : Aside0 (gb646 ≠ gb660) := ⟨h6_⟩
          have n7_ : Aside0 (gb660 ≠ gb646) := ⟨h7_⟩
          have n8_ : Aside0 (Below w.heap.size w w55) := ⟨h8_⟩
          clear HO_647000
          clear BK646
          clear HB
          clear h0_ h1_ h2_ h3_ h4_ h5_ h6_ h7_ h8_
          have HO655 := n0_
          have HO_647000 := n1_
          have BK646 := n2_
          have BK660 := n3_
          have GW660 := n4_
          have GE660 := n5_
          have NB646_660 := n6_
          have NB660_646 := n7_
          have HB := n8_
          clear n0_ n1_ n2_ n3_ n4_ n5_ n6_ n7_ n8_
          have hHeld : w55.cell? ⟨gb646, 0, none⟩ = some (.slice Ao51 x647000_2.length co51) ∧ w55.cell? ⟨gb646, 1, none⟩ = some (.int .i64 x647001_2) ∧ w55.cell? ⟨gb646, 2, none⟩ = some (.int .i64 x647002_2) ∧ w55.cell? (ad652.add (x12_2).toNat) = some (.int .i64 (rd l2 x12_2)) := hS_
          obtain ⟨Ao56, co56, eo56⟩ := Kd.R_slice HO655.out
          (first | subst eo56 | (injection eo56 with f1_ f2_ f3_; have f4_ := f1_.symm; have f5_ := f3_.symm; clear f1_ f2_ f3_; subst f4_; subst f5_))
          refine norm_ (a' := ?_) ?_ ?_
          rotate_left
          ·as_aux_lemma =>
           simp only [putAll, Act.put, List.setIfInBounds_toArray, List.set_cons_zero, List.set_cons_succ]
           rfl
          refine one_ (i := 12) (N := none) #[true, true, true, true, true, true, true, true, true, true, true, true, true, false, false] rfl rfl (one_of HT_.out (by kernel_rfl)) (by decide) (fun K hK => ?_)
          have hs57 : w55.cell? ⟨gb660, 0, none⟩ = some (.slice none 0 0) := (blk_cell BK660.out 0).trans rfl
          have hfs57 := blk_frozen BK660.out 0
          have hns57_0 := NB646_660.out
          have hms57_0 := NB660_646.out
          have hs58 : w55.cell? ⟨gb660, 1, none⟩ = some (.int .i64 0) := (blk_cell BK660.out 1).trans rfl
          have hfs58 := blk_frozen BK660.out 1
          have hns58_0 := NB646_660.out
          have hms58_0 := NB660_646.out
          have hs59 : w55.cell? ⟨gb660, 2, none⟩ = some (.int .i64 0) := (blk_cell BK660.out 2).trans rfl
          have hfs59 := blk_frozen BK660.out 2
          have hns59_0 := NB646_660.out
          have hms59_0 := NB660_646.out
          refine skip_ (w1 := ?_) (by rfl) rfl ?_ ?_
          rotate_left
          ·as_aux_lemma =>
           go_simp
           rfl
          refine hK.out _ _ ⟨((cell_far (p := ⟨gb660, _, none⟩) NB646_660.out _).trans (((cell_far (p := ⟨gb660, _, none⟩) NB646_660.out _).trans (((cell_far (p := ⟨gb660, _, none⟩) NB646_660.out _).trans (hHeld.1)))))), ((cell_far (p := ⟨gb660, _, none⟩) NB646_660.out _).trans (((cell_far (p := ⟨gb660, _, none⟩) NB646_660.out _).trans (((cell_far (p := ⟨gb660, _, none⟩) NB646_660.out _).trans (hHeld.2.1)))))), ((cell_far (p := ⟨gb660, _, none⟩) NB646_660.out _).trans (((cell_far (p := ⟨gb660, _, none⟩) NB646_660.out _).trans (((cell_far (p := ⟨gb660, _, none⟩) NB646_660.out _).trans (hHeld.2.2.1)))))), ((cell_far (p := ⟨gb660, _, none⟩) (by first | exact Nat.ne_of_lt (Nat.lt_of_lt_of_le (by have := World.block_lt_of_cell? _ _ hw652_0; first | rwa [add_block] at this | exact this) GW660.out) | (rw [add_block]; exact Nat.ne_of_lt (Nat.lt_of_lt_of_le (by have := World.block_lt_of_cell? _ _ hw652_0; first | rwa [add_block] at this | exact this) GW660.out)) | (show (Addr.add _ _).block ≠ _; rw [add_block]; exact Nat.ne_of_lt (Nat.lt_of_lt_of_le (by have := World.block_lt_of_cell? _ _ hw652_0; first | rwa [add_block] at this | exact this) GW660.out)) | (dsimp only; exact Nat.ne_of_lt (Nat.lt_of_lt_of_le (by have := World.block_lt_of_cell? _ _ hw652_0; first | rwa [add_block] at this | exact this) GW660.out))) _).trans (((cell_far (p := ⟨gb660, _, none⟩) (by first | exact Nat.ne_of_lt (Nat.lt_of_lt_of_le (by have := World.block_lt_of_cell? _ _ hw652_0; first | rwa [add_block] at this | exact this) GW660.out) | (rw [add_block]; exact Nat.ne_of_lt (Nat.lt_of_lt_of_le (by have := World.block_lt_of_cell? _ _ hw652_0; first | rwa [add_block] at this | exact this) GW660.out)) | (show (Addr.add _ _).block ≠ _; rw [add_block]; exact Nat.ne_of_lt (Nat.lt_of_lt_of_le (by have := World.block_lt_of_cell? _ _ hw652_0; first | rwa [add_block] at this | exact this) GW660.out)) | (dsimp only; exact Nat.ne_of_lt (Nat.lt_of_lt_of_le (by have := World.block_lt_of_cell? _ _ hw652_0; first | rwa [add_block] at this | exact this) GW660.out))) _).trans (((cell_far (p := ⟨gb660, _, none⟩) (by first | exact Nat.ne_of_lt (Nat.lt_of_lt_of_le (by have := World.block_lt_of_cell? _ _ hw652_0; first | rwa [add_block] at this | exact this) GW660.out) | (rw [add_block]; exact Nat.ne_of_lt (Nat.lt_of_lt_of_le (by have := World.block_lt_of_cell? _ _ hw652_0; first | rwa [add_block] at this | exact this) GW660.out)) | (show (Addr.add _ _).block ≠ _; rw [add_block]; exact Nat.ne_of_lt (Nat.lt_of_lt_of_le (by have := World.block_lt_of_cell? _ _ hw652_0; first | rwa [add_block] at this | exact this) GW660.out)) | (dsimp only; exact Nat.ne_of_lt (Nat.lt_of_lt_of_le (by have := World.block_lt_of_cell? _ _ hw652_0; first | rwa [add_block] at this | exact this) GW660.out))) _).trans (hHeld.2.2.2))))))⟩ (fun hHeld => ?_)
          clear hK K
          refine pure_ (i := 13) (N := some 14) (v := ?_) (a' := ?_) #[true, true, true, true, true, true, true, true, true, true, true, true, true, true, false] rfl rfl (any_of HT_.out (by kernel_rfl)) (fun _ _ _ h => h) (Or.inl ⟨by rfl, ?_⟩) ?_ ?_
          rotate_left
          ·as_aux_lemma =>
           intro w'
           go_simp
           with_reducible rfl
          rotate_left
          ·as_aux_lemma =>
           simp only [Act.put, List.setIfInBounds_toArray, List.set_cons_zero, List.set_cons_succ, i64_w, i32_w]
           rfl
          refine pure_ (i := 14) (N := some 15) (v := ?_) (a' := ?_) #[true, true, true, true, true, true, true, true, true, true, true, true, true, true, true] rfl rfl (any_of HT_.out (by kernel_rfl)) (fun _ _ _ h => h) (Or.inl ⟨by rfl, ?_⟩) ?_ ?_
          rotate_left
          ·as_aux_lemma =>
           intro w'
           go_simp
           with_reducible rfl
          rotate_left
          ·as_aux_lemma =>
           simp only [Act.put, List.setIfInBounds_toArray, List.set_cons_zero, List.set_cons_succ, i64_w, i32_w]
           rfl
          refine done_ (done_of HT_.out (by kernel_rfl)) ?_
          go_upto_region 13 with (fail)
          go_cut [84] (fun v84 wc => ∃ (kq : Nat) (x84_49 : Bool), v84 = .bool x84_49 ∧ Aside0 (fringelaw42_QueueWaits.j2 kq a1 l2 t647 t650 x10_2 (l0_0.length : Int) x12_2 t658 x84_49 x647000_2 x647001_2 x647002_2 t653 t656 t657 = some true) ∧ Aside0 (kq ≤ k2) ∧ Aside0 (Kd.V k42 42 wc w.heap.size (fun k_ => (P0_0_ k_ ∨ w.heap.size ≤ k_) ∧ some k_ ≠ ((.slice Ao56 t653.length co56) : Value).ownBlock ∧ k_ ≠ gb646 ∧ k_ ≠ gb660) (.slice Ao51 x647000_2.length co51) x647000_2) ∧ Aside0 (Kd.R k42 42 wc w.heap.size (fun k_ => (w.heap.size ≤ k_)) (.slice Ao56 t653.length co56) t653) ∧ Aside0 (wc.heap[gb646]? = some (.cells #[(.slice Ao51 x647000_2.length co51), .int .i64 x647001_2, .int .i64 x647002_2] 24 (0, 0))) ∧ Aside0 (wc.heap[gb660]? = some (.cells #[(.slice Ao56 t653.length co56), .int .i64 t656, .int .i64 t657] 24 (0, 0))) ∧ Aside0 (Below w.heap.size w wc))
          case first =>
           as_aux_lemma =>
           have H := HC50.out
           clear HC50
           replace H := Option.bind_eq_some_iff.mp H
           obtain ⟨t661, A600, H⟩ := H
           (try dsimp only at H)
           have A60 := Aside0.mk A600
           clear A600
           by_cases c61 : t661 = 0
           ·as_aux_lemma =>
            rw [if_pos c61] at H
            have c61b0 : (t661 == 0) = true := beq_iff_eq.mpr c61
            have c61b1 : (t661 != 0) = false := bne_eq_false_iff_eq.mpr c61
            clear c61
            (first | rw [c61b0] | (simp only [i64_w, i32_w]; rw [c61b0]) | skip)
            have H' := Aside0.mk H
            clear H
            have hnb62 := NB660_646.out
            have hnc62 := NB646_660.out
            have hcz63_0 : w55.cell? ⟨gb660, 0, none⟩ = some (.slice none 0 0) := (blk_cell BK660.out 0).trans rfl
            have hcz63_1 : w55.cell? ⟨gb660, 1, none⟩ = some (.int .i64 0) := (blk_cell BK660.out 1).trans rfl
            have hcz63_2 : w55.cell? ⟨gb660, 2, none⟩ = some (.int .i64 0) := (blk_cell BK660.out 2).trans rfl
            have hfz63_0 := blk_frozen BK660.out 0
            have hfz63_1 := blk_frozen BK660.out 1
            have hfz63_2 := blk_frozen BK660.out 2
            go_wp2_with (first | ((with_reducible refine gate_callee (f := 22) rfl ?_); refine goesL_ (some 76) rfl rfl Try.func22 (by kernel_rfl) rfl #[.agg #[.slice Ao56 t653.length co56, .int .i64 t656, .int .i64 t657]] rfl (by (try simp only [List.map_toArray, List.map_cons, List.map_nil]); first | done | rfl | (simp only [List.length_drop, List.length_take]; rfl)) ?_; (with_reducible refine (fringeref42_Check.calls k2 _ _ t653 t656 t657 t661 _ ?side1 ?side2 A60.out).mono ?_); (case side1 => refine (Kd.R_reads' (e := 42) (base := w.heap.size) (ok := fun k_ => (w.heap.size ≤ k_)) (n := t653.length) (c := co56) ?_).2.2; exact (by (with_reducible repeat (first | apply Kd.R_alloc | apply Kd.R_drewN | apply Kd.R_drew)); exact (Kd.R_mono (Kd.R_far (p := ⟨gb660, 2, none⟩) (Kd.R_far (p := ⟨gb660, 1, none⟩) (Kd.R_far (p := ⟨gb660, 0, none⟩) (Kd.R_types HO655.out BK660.out (by decide)) (fun _ hk => hk.2) (.slice Ao56 t653.length co56)) (fun _ hk => hk.2) (.int .i64 t656)) (fun _ hk => hk.2) (.int .i64 t657)) (fun _ h_ => h_.1)))); (case side2 => exact (Kd.R_reads' HO655.out).2.1); rintro e w64 ⟨rfl, hb⟩; refine ⟨_, rfl, ?_⟩; have n0_ := Aside0.mk (Kd.V_below (by (with_reducible repeat (first | apply Kd.V_alloc | apply Kd.V_drewN | apply Kd.V_drew)); exact (Kd.V_mono (Kd.V_far (p := ⟨gb660, 2, none⟩) (Kd.V_far (p := ⟨gb660, 1, none⟩) (Kd.V_far (p := ⟨gb660, 0, none⟩) (Kd.V_mono HO_647000.out (fun k_ hk => (⟨hk, hk.2.2.2⟩ : _ ∧ k_ ≠ gb660))) (fun _ hk => hk.2) (.slice Ao56 t653.length co56)) (fun _ hk => hk.2) (.int .i64 t656)) (fun _ hk => hk.2) (.int .i64 t657)) (fun _ h_ => h_.1))) hb); have n1_ := Aside0.mk (Kd.R_below (by (with_reducible repeat (first | apply Kd.R_alloc | apply Kd.R_drewN | apply Kd.R_drew)); exact (Kd.R_mono (Kd.R_far (p := ⟨gb660, 2, none⟩) (Kd.R_far (p := ⟨gb660, 1, none⟩) (Kd.R_far (p := ⟨gb660, 0, none⟩) (Kd.R_types HO655.out BK660.out (by decide)) (fun _ hk => hk.2) (.slice Ao56 t653.length co56)) (fun _ hk => hk.2) (.int .i64 t656)) (fun _ hk => hk.2) (.int .i64 t657)) (fun _ h_ => h_.1))) hb); have n2_ := Aside0.mk (blk_below (g := gb646) (o := .cells #[.slice Ao51 x647000_2.length co51, .int .i64 x647001_2, .int .i64 x647002_2] 24 (0, 0)) (by (with_reducible repeat (first | refine blk_drewN ?_ _ | refine blk_drew ?_ | refine blk_alloc ?_ _)); refine blk_far ?_ NB646_660.out _; (with_reducible repeat (first | refine blk_drewN ?_ _ | refine blk_drew ?_ | refine blk_alloc ?_ _)); refine blk_far ?_ NB646_660.out _; (with_reducible repeat (first | refine blk_drewN ?_ _ | refine blk_drew ?_ | refine blk_alloc ?_ _)); refine blk_far ?_ NB646_660.out _; (with_reducible repeat (first | refine blk_drewN ?_ _ | refine blk_drew ?_ | refine blk_alloc ?_ _)); exact BK646.out) hb); have n3_ := Aside0.mk (blk_below (g := gb660) (o := .cells #[.slice Ao56 t653.length co56, .int .i64 t656, .int .i64 t657] 24 (0, 0)) (by (with_reducible repeat (first | refine blk_drewN ?_ _ | refine blk_drew ?_ | refine blk_alloc ?_ _)); refine blk_put (cs := #[.slice Ao56 t653.length co56, .int .i64 t656, .int .i64 0]) ?_ 2 _ rfl; (with_reducible repeat (first | refine blk_drewN ?_ _ | refine blk_drew ?_ | refine blk_alloc ?_ _)); refine blk_put (cs := #[.slice Ao56 t653.length co56, .int .i64 0, .int .i64 0]) ?_ 1 _ rfl; (with_reducible repeat (first | refine blk_drewN ?_ _ | refine blk_drew ?_ | refine blk_alloc ?_ _)); refine blk_put (cs := #[.slice none 0 0, .int .i64 0, .int .i64 0]) ?_ 0 _ rfl; (with_reducible repeat (first | refine blk_drewN ?_ _ | refine blk_drew ?_ | refine blk_alloc ?_ _)); exact BK660.out) hb); have n4_ := Aside0.mk (below_step (by repeat (first | (with_reducible first | exact HB.out | apply below_alloc | apply pw_below_drewN | apply below_drew1 | refine below_set ?_ GE646.out | refine below_set ?_ GE660.out) | exact HB.out)) hb); clear HO_647000; clear HO655; clear BK646; clear BK660; clear HB; have HO_647000 := n0_; have HO655 := n1_; have BK646 := n2_; have BK660 := n3_; have HB := n4_; clear n0_ n1_ n2_ n3_ n4_; (try clear hb); (try clear hb2); (try clear hk); (try clear hi); have hcz65_0 : w64.cell? ⟨gb660, 0, none⟩ = some (.slice Ao56 t653.length co56) := (blk_cell BK660.out 0).trans rfl; have hcz65_1 : w64.cell? ⟨gb660, 1, none⟩ = some (.int .i64 t656) := (blk_cell BK660.out 1).trans rfl; have hcz65_2 : w64.cell? ⟨gb660, 2, none⟩ = some (.int .i64 t657) := (blk_cell BK660.out 2).trans rfl; have hfz65_0 := blk_frozen BK660.out 0; have hfz65_1 := blk_frozen BK660.out 1; have hfz65_2 := blk_frozen BK660.out 2))
            go_meet
            case rel => exact ⟨_, (((t653.length : Int) != (l0_0.length : Int))), (by first | rfl | (simp; done) | (simp [*]; done)), H', ⟨by have := HJ4.out; have := HK2.out; first | omega | exact Nat.le_refl _⟩, ⟨by (with_reducible repeat (first | apply Kd.V_alloc | apply Kd.V_drewN | apply Kd.V_drew)); exact HO_647000.out⟩, ⟨by (with_reducible repeat (first | apply Kd.R_alloc | apply Kd.R_drewN | apply Kd.R_drew)); exact HO655.out⟩, ⟨by (with_reducible repeat (first | refine blk_drewN ?_ _ | refine blk_drew ?_ | refine blk_alloc ?_ _)); exact BK646.out⟩, ⟨by (with_reducible repeat (first | refine blk_drewN ?_ _ | refine blk_drew ?_ | refine blk_alloc ?_ _)); exact BK660.out⟩, ⟨by repeat (first | (with_reducible first | exact HB.out | apply below_alloc | apply pw_below_drewN | apply below_drew1 | refine below_set ?_ GE646.out | refine below_set ?_ GE660.out) | exact HB.out)⟩⟩
           ·as_aux_lemma =>
            rw [if_neg c61] at H
            have c61b0 : (t661 == 0) = false := beq_eq_false_iff_ne.mpr c61
            have c61b1 : (t661 != 0) = true := bne_iff_ne.mpr c61
            (first | rw [c61b0] | (simp only [i64_w, i32_w]; rw [c61b0]) | skip)
            have H' := Aside0.mk H
            clear H
            have hnb66 := NB660_646.out
            have hnc66 := NB646_660.out
            have hcz67_0 : w55.cell? ⟨gb660, 0, none⟩ = some (.slice none 0 0) := (blk_cell BK660.out 0).trans rfl
            have hcz67_1 : w55.cell? ⟨gb660, 1, none⟩ = some (.int .i64 0) := (blk_cell BK660.out 1).trans rfl
            have hcz67_2 : w55.cell? ⟨gb660, 2, none⟩ = some (.int .i64 0) := (blk_cell BK660.out 2).trans rfl
            have hfz67_0 := blk_frozen BK660.out 0
            have hfz67_1 := blk_frozen BK660.out 1
            have hfz67_2 := blk_frozen BK660.out 2
            go_wp2_with (first | ((with_reducible refine gate_callee (f := 22) rfl ?_); refine goesL_ (some 76) rfl rfl Try.func22 (by kernel_rfl) rfl #[.agg #[.slice Ao56 t653.length co56, .int .i64 t656, .int .i64 t657]] rfl (by (try simp only [List.map_toArray, List.map_cons, List.map_nil]); first | done | rfl | (simp only [List.length_drop, List.length_take]; rfl)) ?_; (with_reducible refine (fringeref42_Check.calls k2 _ _ t653 t656 t657 t661 _ ?side1 ?side2 A60.out).mono ?_); (case side1 => refine (Kd.R_reads' (e := 42) (base := w.heap.size) (ok := fun k_ => (w.heap.size ≤ k_)) (n := t653.length) (c := co56) ?_).2.2; exact (by (with_reducible repeat (first | apply Kd.R_alloc | apply Kd.R_drewN | apply Kd.R_drew)); exact (Kd.R_mono (Kd.R_far (p := ⟨gb660, 2, none⟩) (Kd.R_far (p := ⟨gb660, 1, none⟩) (Kd.R_far (p := ⟨gb660, 0, none⟩) (Kd.R_types HO655.out BK660.out (by decide)) (fun _ hk => hk.2) (.slice Ao56 t653.length co56)) (fun _ hk => hk.2) (.int .i64 t656)) (fun _ hk => hk.2) (.int .i64 t657)) (fun _ h_ => h_.1)))); (case side2 => exact (Kd.R_reads' HO655.out).2.1); rintro e w68 ⟨rfl, hb⟩; refine ⟨_, rfl, ?_⟩; have n0_ := Aside0.mk (Kd.V_below (by (with_reducible repeat (first | apply Kd.V_alloc | apply Kd.V_drewN | apply Kd.V_drew)); exact (Kd.V_mono (Kd.V_far (p := ⟨gb660, 2, none⟩) (Kd.V_far (p := ⟨gb660, 1, none⟩) (Kd.V_far (p := ⟨gb660, 0, none⟩) (Kd.V_mono HO_647000.out (fun k_ hk => (⟨hk, hk.2.2.2⟩ : _ ∧ k_ ≠ gb660))) (fun _ hk => hk.2) (.slice Ao56 t653.length co56)) (fun _ hk => hk.2) (.int .i64 t656)) (fun _ hk => hk.2) (.int .i64 t657)) (fun _ h_ => h_.1))) hb); have n1_ := Aside0.mk (Kd.R_below (by (with_reducible repeat (first | apply Kd.R_alloc | apply Kd.R_drewN | apply Kd.R_drew)); exact (Kd.R_mono (Kd.R_far (p := ⟨gb660, 2, none⟩) (Kd.R_far (p := ⟨gb660, 1, none⟩) (Kd.R_far (p := ⟨gb660, 0, none⟩) (Kd.R_types HO655.out BK660.out (by decide)) (fun _ hk => hk.2) (.slice Ao56 t653.length co56)) (fun _ hk => hk.2) (.int .i64 t656)) (fun _ hk => hk.2) (.int .i64 t657)) (fun _ h_ => h_.1))) hb); have n2_ := Aside0.mk (blk_below (g := gb646) (o := .cells #[.slice Ao51 x647000_2.length co51, .int .i64 x647001_2, .int .i64 x647002_2] 24 (0, 0)) (by (with_reducible repeat (first | refine blk_drewN ?_ _ | refine blk_drew ?_ | refine blk_alloc ?_ _)); refine blk_far ?_ NB646_660.out _; (with_reducible repeat (first | refine blk_drewN ?_ _ | refine blk_drew ?_ | refine blk_alloc ?_ _)); refine blk_far ?_ NB646_660.out _; (with_reducible repeat (first | refine blk_drewN ?_ _ | refine blk_drew ?_ | refine blk_alloc ?_ _)); refine blk_far ?_ NB646_660.out _; (with_reducible repeat (first | refine blk_drewN ?_ _ | refine blk_drew ?_ | refine blk_alloc ?_ _)); exact BK646.out) hb); have n3_ := Aside0.mk (blk_below (g := gb660) (o := .cells #[.slice Ao56 t653.length co56, .int .i64 t656, .int .i64 t657] 24 (0, 0)) (by (with_reducible repeat (first | refine blk_drewN ?_ _ | refine blk_drew ?_ | refine blk_alloc ?_ _)); refine blk_put (cs := #[.slice Ao56 t653.length co56, .int .i64 t656, .int .i64 0]) ?_ 2 _ rfl; (with_reducible repeat (first | refine blk_drewN ?_ _ | refine blk_drew ?_ | refine blk_alloc ?_ _)); refine blk_put (cs := #[.slice Ao56 t653.length co56, .int .i64 0, .int .i64 0]) ?_ 1 _ rfl; (with_reducible repeat (first | refine blk_drewN ?_ _ | refine blk_drew ?_ | refine blk_alloc ?_ _)); refine blk_put (cs := #[.slice none 0 0, .int .i64 0, .int .i64 0]) ?_ 0 _ rfl; (with_reducible repeat (first | refine blk_drewN ?_ _ | refine blk_drew ?_ | refine blk_alloc ?_ _)); exact BK660.out) hb); have n4_ := Aside0.mk (below_step (by repeat (first | (with_reducible first | exact HB.out | apply below_alloc | apply pw_below_drewN | apply below_drew1 | refine below_set ?_ GE646.out | refine below_set ?_ GE660.out) | exact HB.out)) hb); clear HO_647000; clear HO655; clear BK646; clear BK660; clear HB; have HO_647000 := n0_; have HO655 := n1_; have BK646 := n2_; have BK660 := n3_; have HB := n4_; clear n0_ n1_ n2_ n3_ n4_; (try clear hb); (try clear hb2); (try clear hk); (try clear hi)))
            go_meet
            case rel => exact ⟨_, (true), (by first | rfl | (simp; done) | (simp [*]; done)), H', ⟨by have := HJ4.out; have := HK2.out; first | omega | exact Nat.le_refl _⟩, ⟨by (with_reducible repeat (first | apply Kd.V_alloc | apply Kd.V_drewN | apply Kd.V_drew)); exact HO_647000.out⟩, ⟨by (with_reducible repeat (first | apply Kd.R_alloc | apply Kd.R_drewN | apply Kd.R_drew)); exact HO655.out⟩, ⟨by (with_reducible repeat (first | refine blk_drewN ?_ _ | refine blk_drew ?_ | refine blk_alloc ?_ _)); exact BK646.out⟩, ⟨by (with_reducible repeat (first | refine blk_drewN ?_ _ | refine blk_drew ?_ | refine blk_alloc ?_ _)); exact BK660.out⟩, ⟨by repeat (first | (with_reducible first | exact HB.out | apply below_alloc | apply pw_below_drewN | apply below_drew1 | refine below_set ?_ GE646.out | refine below_set ?_ GE660.out) | exact HB.out)⟩⟩
          case rest =>
           as_aux_lemma =>
           clear HC50
           try clear c1
           try clear c2
           try clear p2
           try clear c3
           try clear c4
           try clear c6
           try clear p6
           try clear q6
           try clear hx6
           try clear c7
           try clear c9
           try clear c13
           try clear c13b0
           try clear c13b1
           try clear c14
           try clear c14b0
           try clear c19
           try clear c19b0
           try clear c21
           try clear c22
           try clear c25
           try clear c25b0
           try clear c25b1
           try clear c28
           try clear c30
           try clear c40
           try clear c42
           try clear c42b0
           try clear c42b1
           try clear c46
           try clear c46b0
           try clear c47
           try clear c47b0
           try clear c49
           try clear c61
           try clear c61b0
           try clear c61b1
           try clear c62
           try clear p64
           try clear p65
           try clear q65
           try clear hx65
           try clear c66
           try clear hcz10_0
           try clear hcz10_1
           try clear hcz10_2
           try clear hcz15_0
           try clear hcz15_1
           try clear hcz15_2
           try clear hcz17_0
           try clear hcz17_1
           try clear hcz17_2
           try clear hcz20_0
           try clear hcz20_1
           try clear hcz20_2
           try clear hcz22_0
           try clear hcz22_1
           try clear hcz22_2
           try clear hcz24_0
           try clear hcz24_1
           try clear hcz24_2
           try clear hcz26_0
           try clear hcz26_1
           try clear hcz26_2
           try clear hcz28_0
           try clear hcz28_1
           try clear hcz28_2
           try clear hcz30_0
           try clear hcz30_1
           try clear hcz30_2
           try clear hcz31_0
           try clear hcz31_1
           try clear hcz31_2
           try clear hcz33_0
           try clear hcz33_1
           try clear hcz33_2
           try clear hcz35_0
           try clear hcz35_1
           try clear hcz35_2
           try clear hcz36_0
           try clear hcz36_1
           try clear hcz36_2
           try clear hcz38_0
           try clear hcz38_1
           try clear hcz38_2
           try clear hcz43_0
           try clear hcz43_1
           try clear hcz43_2
           try clear hcz63_0
           try clear hcz63_1
           try clear hcz63_2
           try clear hcz65_0
           try clear hcz65_1
           try clear hcz65_2
           try clear hcz67_0
           try clear hcz67_1
           try clear hcz67_2
           try clear hfz10_0
           try clear hfz10_1
           try clear hfz10_2
           try clear hfz15_0
           try clear hfz15_1
           try clear hfz15_2
           try clear hfz17_0
           try clear hfz17_1
           try clear hfz17_2
           try clear hfz20_0
           try clear hfz20_1
           try clear hfz20_2
           try clear hfz22_0
           try clear hfz22_1
           try clear hfz22_2
           try clear hfz24_0
           try clear hfz24_1
           try clear hfz24_2
           try clear hfz26_0
           try clear hfz26_1
           try clear hfz26_2
           try clear hfz28_0
           try clear hfz28_1
           try clear hfz28_2
           try clear hfz30_0
           try clear hfz30_1
           try clear hfz30_2
           try clear hfz31_0
           try clear hfz31_1
           try clear hfz31_2
           try clear hfz33_0
           try clear hfz33_1
           try clear hfz33_2
           try clear hfz35_0
           try clear hfz35_1
           try clear hfz35_2
           try clear hfz36_0
           try clear hfz36_1
           try clear hfz36_2
           try clear hfz38_0
           try clear hfz38_1
           try clear hfz38_2
           try clear hfz43_0
           try clear hfz43_1
           try clear hfz43_2
           try clear hfz63_0
           try clear hfz63_1
           try clear hfz63_2
           try clear hfz65_0
           try clear hfz65_1
           try clear hfz65_2
           try clear hfz67_0
           try clear hfz67_1
           try clear hfz67_2
           try clear hx652_0
           try clear p2
           try clear p652
           try clear q652
           obtain ⟨kq, x84_49, rfl, HA, HJ49, HO_647000, HO_661000, BK646, BK660, HB⟩ := hcut
           cases kq with
           | zero => exact absurd HA.out (by simp [fringelaw42_QueueWaits.j2])
           | succ kj49 =>
            have H := HA.out
            clear HA
            simp only [fringelaw42_QueueWaits.j2] at H
            by_cases c69 : x84_49 = true
            ·as_aux_lemma =>
             subst c69
             rw [if_pos rfl] at H
             exact absurd H (by simp)
            ·as_aux_lemma =>
             replace c69 := Bool.eq_false_iff.mpr c69
             subst c69
             rw [if_neg (show ¬ (false = true) by decide)] at H
             have HC70 := Aside0.mk H
             clear H
             go_upto_region 15 with (fail)
             go_cut [96] (fun v96 wc => ∃ (kq : Nat) (x96_69 : Bool), v96 = .bool x96_69 ∧ Aside0 (fringelaw42_QueueWaits.j3 kq a1 l2 t647 t650 x10_2 (l0_0.length : Int) x12_2 t658 x96_69 t653 t656 t657 = some true) ∧ Aside0 (kq ≤ kj49) ∧ Aside0 (Kd.V k42 42 wc w.heap.size (fun k_ => (P0_0_ k_ ∨ w.heap.size ≤ k_) ∧ some k_ ≠ ((.slice Ao56 t653.length co56) : Value).ownBlock ∧ k_ ≠ gb646 ∧ k_ ≠ gb660) (.slice Ao51 x647000_2.length co51) x647000_2) ∧ Aside0 (Kd.R k42 42 wc w.heap.size (fun k_ => (w.heap.size ≤ k_)) (.slice Ao56 t653.length co56) t653) ∧ Aside0 (wc.heap[gb646]? = some (.cells #[(.slice Ao51 x647000_2.length co51), .int .i64 x647001_2, .int .i64 x647002_2] 24 (0, 0))) ∧ Aside0 (wc.heap[gb660]? = some (.cells #[(.slice Ao56 t653.length co56), .int .i64 t656, .int .i64 t657] 24 (0, 0))) ∧ Aside0 (Below w.heap.size w wc))
             case first =>
              as_aux_lemma =>
              have H := HC70.out
              clear HC70
              by_cases c71 : 0 ≤ a1
              ·as_aux_lemma =>
               rw [if_pos c71] at H
               have c71b0 : decide (0 ≤ a1) = true := decide_eq_true c71
               clear c71
               (first | rw [c71b0] | (simp only [i64_w, i32_w]; rw [c71b0]) | skip)
               by_cases c72 : a1 < (x647000_2.length : Int)
               ·as_aux_lemma =>
                rw [if_pos c72] at H
                have c72b0 : decide (a1 < (x647000_2.length : Int)) = true := decide_eq_true c72
                clear c72
                by_cases c73 : ((rd_T42 x647000_2 a1).f3) = 0
                ·as_aux_lemma =>
                 rw [if_pos c73] at H
                 have c73b0 : (((rd_T42 x647000_2 a1).f3) == 0) = true := beq_iff_eq.mpr c73
                 have c73b1 : (((rd_T42 x647000_2 a1).f3) != 0) = false := bne_eq_false_iff_eq.mpr c73
                 clear c73
                 have H' := Aside0.mk H
                 clear H
                 have hnb74 := NB646_660.out
                 have hnc74 := NB660_646.out
                 have hcz75_0 : wc.cell? ⟨gb646, 0, none⟩ = some (.slice Ao51 x647000_2.length co51) := (blk_cell BK646.out 0).trans rfl
                 have hcz75_1 : wc.cell? ⟨gb646, 1, none⟩ = some (.int .i64 x647001_2) := (blk_cell BK646.out 1).trans rfl
                 have hcz75_2 : wc.cell? ⟨gb646, 2, none⟩ = some (.int .i64 x647002_2) := (blk_cell BK646.out 2).trans rfl
                 have hfz75_0 := blk_frozen BK646.out 0
                 have hfz75_1 := blk_frozen BK646.out 1
                 have hfz75_2 := blk_frozen BK646.out 2
                 have p662 : 0 ≤ (a1 : Int) := of_decide_eq_true (by first | (with_reducible assumption) | assumption)
                 have q662 : a1 < (x647000_2.length : Int) := of_decide_eq_true (by first | (with_reducible assumption) | assumption)
                 obtain ⟨ad662, e662, hx662_0, hx662_1, hx662_2, hx662_3⟩ := at_T42 (Kd.V_reads' HO_647000.out).2.2 a1 p662 q662
                 cases e662
                 replace p662 := eq_true p662
                 replace q662 := eq_true q662
                 go_wp2
                 go_meet
                 case rel => exact ⟨_, (true), (by first | rfl | (simp; done) | (simp [*]; done)), H', ⟨by have := HJ4.out; have := HK2.out; have := HJ49.out; first | omega | exact Nat.le_refl _⟩, ⟨by (with_reducible repeat (first | apply Kd.V_alloc | apply Kd.V_drewN | apply Kd.V_drew)); exact HO_647000.out⟩, ⟨by (with_reducible repeat (first | apply Kd.R_alloc | apply Kd.R_drewN | apply Kd.R_drew)); exact HO_661000.out⟩, ⟨by (with_reducible repeat (first | refine blk_drewN ?_ _ | refine blk_drew ?_ | refine blk_alloc ?_ _)); exact BK646.out⟩, ⟨by (with_reducible repeat (first | refine blk_drewN ?_ _ | refine blk_drew ?_ | refine blk_alloc ?_ _)); exact BK660.out⟩, ⟨by repeat (first | (with_reducible first | exact HB.out | apply below_alloc | apply pw_below_drewN | apply below_drew1 | refine below_set ?_ GE646.out | refine below_set ?_ GE660.out) | exact HB.out)⟩⟩
                ·as_aux_lemma =>
                 rw [if_neg c73] at H
                 have c73b0 : (((rd_T42 x647000_2 a1).f3) == 0) = false := beq_eq_false_iff_ne.mpr c73
                 have c73b1 : (((rd_T42 x647000_2 a1).f3) != 0) = true := bne_iff_ne.mpr c73
                 have H' := Aside0.mk H
                 clear H
                 have hnb76 := NB646_660.out
                 have hnc76 := NB660_646.out
                 have hcz77_0 : wc.cell? ⟨gb646, 0, none⟩ = some (.slice Ao51 x647000_2.length co51) := (blk_cell BK646.out 0).trans rfl
                 have hcz77_1 : wc.cell? ⟨gb646, 1, none⟩ = some (.int .i64 x647001_2) := (blk_cell BK646.out 1).trans rfl
                 have hcz77_2 : wc.cell? ⟨gb646, 2, none⟩ = some (.int .i64 x647002_2) := (blk_cell BK646.out 2).trans rfl
                 have hfz77_0 := blk_frozen BK646.out 0
                 have hfz77_1 := blk_frozen BK646.out 1
                 have hfz77_2 := blk_frozen BK646.out 2
                 have p662 : 0 ≤ (a1 : Int) := of_decide_eq_true (by first | (with_reducible assumption) | assumption)
                 have q662 : a1 < (x647000_2.length : Int) := of_decide_eq_true (by first | (with_reducible assumption) | assumption)
                 obtain ⟨ad662, e662, hx662_0, hx662_1, hx662_2, hx662_3⟩ := at_T42 (Kd.V_reads' HO_647000.out).2.2 a1 p662 q662
                 cases e662
                 replace p662 := eq_true p662
                 replace q662 := eq_true q662
                 go_wp2
                 go_meet
                 case rel => exact ⟨_, ((t658 == a1)), (by first | rfl | (simp; done) | (simp [*]; done)), H', ⟨by have := HJ4.out; have := HK2.out; have := HJ49.out; first | omega | exact Nat.le_refl _⟩, ⟨by (with_reducible repeat (first | apply Kd.V_alloc | apply Kd.V_drewN | apply Kd.V_drew)); exact HO_647000.out⟩, ⟨by (with_reducible repeat (first | apply Kd.R_alloc | apply Kd.R_drewN | apply Kd.R_drew)); exact HO_661000.out⟩, ⟨by (with_reducible repeat (first | refine blk_drewN ?_ _ | refine blk_drew ?_ | refine blk_alloc ?_ _)); exact BK646.out⟩, ⟨by (with_reducible repeat (first | refine blk_drewN ?_ _ | refine blk_drew ?_ | refine blk_alloc ?_ _)); exact BK660.out⟩, ⟨by repeat (first | (with_reducible first | exact HB.out | apply below_alloc | apply pw_below_drewN | apply below_drew1 | refine below_set ?_ GE646.out | refine below_set ?_ GE660.out) | exact HB.out)⟩⟩
               ·as_aux_lemma =>
                rw [if_neg c72] at H
                exact absurd H (by simp)
              ·as_aux_lemma =>
               rw [if_neg c71] at H
               exact absurd H (by simp)
             case rest =>
              as_aux_lemma =>
              clear HC70
              try clear c1
              try clear c2
              try clear p2
              try clear c3
              try clear c4
              try clear c6
              try clear p6
              try clear q6
              try clear hx6
              try clear c7
              try clear c9
              try clear c13
              try clear c13b0
              try clear c13b1
              try clear c14
              try clear c14b0
              try clear c19
              try clear c19b0
              try clear c21
              try clear c22
              try clear c25
              try clear c25b0
              try clear c25b1
              try clear c28
              try clear c30
              try clear c40
              try clear c42
              try clear c42b0
              try clear c42b1
              try clear c46
              try clear c46b0
              try clear c47
              try clear c47b0
              try clear c49
              try clear c61
              try clear c61b0
              try clear c61b1
              try clear c62
              try clear p64
              try clear p65
              try clear q65
              try clear hx65
              try clear c66
              try clear p66
              try clear q66
              try clear hx66
              try clear c69
              try clear c71
              try clear c71b0
              try clear c72
              try clear c72b0
              try clear c73
              try clear c73b0
              try clear c73b1
              try clear c74
              try clear c76
              try clear hcz10_0
              try clear hcz10_1
              try clear hcz10_2
              try clear hcz15_0
              try clear hcz15_1
              try clear hcz15_2
              try clear hcz17_0
              try clear hcz17_1
              try clear hcz17_2
              try clear hcz20_0
              try clear hcz20_1
              try clear hcz20_2
              try clear hcz22_0
              try clear hcz22_1
              try clear hcz22_2
              try clear hcz24_0
              try clear hcz24_1
              try clear hcz24_2
              try clear hcz26_0
              try clear hcz26_1
              try clear hcz26_2
              try clear hcz28_0
              try clear hcz28_1
              try clear hcz28_2
              try clear hcz30_0
              try clear hcz30_1
              try clear hcz30_2
              try clear hcz31_0
              try clear hcz31_1
              try clear hcz31_2
              try clear hcz33_0
              try clear hcz33_1
              try clear hcz33_2
              try clear hcz35_0
              try clear hcz35_1
              try clear hcz35_2
              try clear hcz36_0
              try clear hcz36_1
              try clear hcz36_2
              try clear hcz38_0
              try clear hcz38_1
              try clear hcz38_2
              try clear hcz43_0
              try clear hcz43_1
              try clear hcz43_2
              try clear hcz63_0
              try clear hcz63_1
              try clear hcz63_2
              try clear hcz65_0
              try clear hcz65_1
              try clear hcz65_2
              try clear hcz67_0
              try clear hcz67_1
              try clear hcz67_2
              try clear hcz75_0
              try clear hcz75_1
              try clear hcz75_2
              try clear hcz77_0
              try clear hcz77_1
              try clear hcz77_2
              try clear hfz10_0
              try clear hfz10_1
              try clear hfz10_2
              try clear hfz15_0
              try clear hfz15_1
              try clear hfz15_2
              try clear hfz17_0
              try clear hfz17_1
              try clear hfz17_2
              try clear hfz20_0
              try clear hfz20_1
              try clear hfz20_2
              try clear hfz22_0
              try clear hfz22_1
              try clear hfz22_2
              try clear hfz24_0
              try clear hfz24_1
              try clear hfz24_2
              try clear hfz26_0
              try clear hfz26_1
              try clear hfz26_2
              try clear hfz28_0
              try clear hfz28_1
              try clear hfz28_2
              try clear hfz30_0
              try clear hfz30_1
              try clear hfz30_2
              try clear hfz31_0
              try clear hfz31_1
              try clear hfz31_2
              try clear hfz33_0
              try clear hfz33_1
              try clear hfz33_2
              try clear hfz35_0
              try clear hfz35_1
              try clear hfz35_2
              try clear hfz36_0
              try clear hfz36_1
              try clear hfz36_2
              try clear hfz38_0
              try clear hfz38_1
              try clear hfz38_2
              try clear hfz43_0
              try clear hfz43_1
              try clear hfz43_2
              try clear hfz63_0
              try clear hfz63_1
              try clear hfz63_2
              try clear hfz65_0
              try clear hfz65_1
              try clear hfz65_2
              try clear hfz67_0
              try clear hfz67_1
              try clear hfz67_2
              try clear hfz75_0
              try clear hfz75_1
              try clear hfz75_2
              try clear hfz77_0
              try clear hfz77_1
              try clear hfz77_2
              try clear hx652_0
              try clear hx662_0
              try clear hx662_1
              try clear hx662_2
              try clear hx662_3
              try clear p2
              try clear p6
              try clear p64
              try clear p65
              try clear p652
              try clear p662
              try clear q6
              try clear q65
              try clear q652
              try clear q662
              obtain ⟨kq, x96_69, rfl, HA, HJ69, HO_647000, HO_661000, BK646, BK660, HB⟩ := hcut
              cases kq with
              | zero => exact absurd HA.out (by simp [fringelaw42_QueueWaits.j3])
              | succ kj69 =>
               have H := HA.out
               clear HA
               simp only [fringelaw42_QueueWaits.j3] at H
               by_cases c78 : x96_69 = true
               ·as_aux_lemma =>
                subst c78
                rw [if_pos rfl] at H
                by_cases c79 : 0 > t650
                ·as_aux_lemma =>
                 rw [if_pos c79] at H
                 have c79b0 : decide (t650 < 0) = true := decide_eq_true c79
                 clear c79
                 exact absurd H (by simp)
                ·as_aux_lemma =>
                 rw [if_neg c79] at H
                 have c79b0 : decide (t650 < 0) = false := decide_eq_false c79
                 clear c79
                 have H' := Aside0.mk H
                 clear H
                 have hnb80 := NB660_646.out
                 have hnc80 := NB646_660.out
                 have hcz81_0 : wc.cell? ⟨gb660, 0, none⟩ = some (.slice Ao56 t653.length co56) := (blk_cell BK660.out 0).trans rfl
                 have hcz81_1 : wc.cell? ⟨gb660, 1, none⟩ = some (.int .i64 t656) := (blk_cell BK660.out 1).trans rfl
                 have hcz81_2 : wc.cell? ⟨gb660, 2, none⟩ = some (.int .i64 t657) := (blk_cell BK660.out 2).trans rfl
                 have hfz81_0 := blk_frozen BK660.out 0
                 have hfz81_1 := blk_frozen BK660.out 1
                 have hfz81_2 := blk_frozen BK660.out 2
                 have hcz82_0 : wc.cell? ⟨gb646, 0, none⟩ = some (.slice Ao51 x647000_2.length co51) := (blk_cell BK646.out 0).trans rfl
                 have hcz82_1 : wc.cell? ⟨gb646, 1, none⟩ = some (.int .i64 x647001_2) := (blk_cell BK646.out 1).trans rfl
                 have hcz82_2 : wc.cell? ⟨gb646, 2, none⟩ = some (.int .i64 x647002_2) := (blk_cell BK646.out 2).trans rfl
                 have hfz82_0 := blk_frozen BK646.out 0
                 have hfz82_1 := blk_frozen BK646.out 1
                 have hfz82_2 := blk_frozen BK646.out 2
                 go_wp2
                 go_roundg kj69
                 case measure => have := HJ4.out; have := HK2.out; have := HJ49.out; have := HJ69.out; omega
                 case rel => exact ⟨(0), (wrap64 (x12_2 + 1)), (t653), (t656), (t657), (.slice Ao56 t653.length co56), (by first | rfl | (simp; done) | (simp [*]; done)), (by first | rfl | (simp; done) | (simp [*]; done)), H', ⟨by have := HJ4.out; have := HK2.out; have := HJ49.out; have := HJ69.out; omega⟩, ⟨Kd.V_mono (Kd.R_V (by (with_reducible repeat (first | apply Kd.R_alloc | apply Kd.R_drewN | apply Kd.R_drew)); exact Kd.R_mono (Kd.R_far (p := ⟨gb646, 2, none⟩) (Kd.R_far (p := ⟨gb646, 1, none⟩) (Kd.R_far (p := ⟨gb646, 0, none⟩) (Kd.R_types (Kd.R_types HO_661000.out BK646.out (by decide)) BK646.out (by decide)) (fun _ hk => hk.2) (.slice Ao56 t653.length co56)) (fun _ hk => hk.2) (.int .i64 t656)) (fun _ hk => hk.2) (.int .i64 t657)) (fun _ hk => And.intro hk.1.1 hk.1.2))) (fun k_ hk => by first | exact ⟨(.inr (hk.1)), hk.2⟩ | exact (.inr (hk)))⟩, ⟨by (with_reducible repeat (first | refine blk_drewN ?_ _ | refine blk_drew ?_ | refine blk_alloc ?_ _)); refine blk_put (cs := #[.slice Ao56 t653.length co56, .int .i64 t656, .int .i64 x647002_2]) ?_ 2 _ rfl; (with_reducible repeat (first | refine blk_drewN ?_ _ | refine blk_drew ?_ | refine blk_alloc ?_ _)); refine blk_put (cs := #[.slice Ao56 t653.length co56, .int .i64 x647001_2, .int .i64 x647002_2]) ?_ 1 _ rfl; (with_reducible repeat (first | refine blk_drewN ?_ _ | refine blk_drew ?_ | refine blk_alloc ?_ _)); refine blk_put (cs := #[.slice Ao51 x647000_2.length co51, .int .i64 x647001_2, .int .i64 x647002_2]) ?_ 0 _ rfl; (with_reducible repeat (first | refine blk_drewN ?_ _ | refine blk_drew ?_ | refine blk_alloc ?_ _)); exact BK646.out⟩, ⟨by repeat (first | (with_reducible first | exact HB.out | apply below_alloc | apply pw_below_drewN | apply below_drew1 | refine below_set ?_ GE646.out | refine below_set ?_ GE660.out) | exact HB.out)⟩⟩
               ·as_aux_lemma =>
                replace c78 := Bool.eq_false_iff.mpr c78
                subst c78
                rw [if_neg (show ¬ (false = true) by decide)] at H
                by_cases c83 : t658 ≥ 0
                ·as_aux_lemma =>
                 rw [if_pos c83] at H
                 have c83b0 : decide (0 ≤ t658) = true := decide_eq_true c83
                 clear c83
                 by_cases c84 : (wrap64 (x10_2 + 1)) > t650
                 ·as_aux_lemma =>
                  rw [if_pos c84] at H
                  have c84b0 : decide (t650 < (wrap64 (x10_2 + 1))) = true := decide_eq_true c84
                  clear c84
                  exact absurd H (by simp)
                 ·as_aux_lemma =>
                  rw [if_neg c84] at H
                  have c84b0 : decide (t650 < (wrap64 (x10_2 + 1))) = false := decide_eq_false c84
                  clear c84
                  have H' := Aside0.mk H
                  clear H
                  have hnb85 := NB660_646.out
                  have hnc85 := NB646_660.out
                  have hcz86_0 : wc.cell? ⟨gb660, 0, none⟩ = some (.slice Ao56 t653.length co56) := (blk_cell BK660.out 0).trans rfl
                  have hcz86_1 : wc.cell? ⟨gb660, 1, none⟩ = some (.int .i64 t656) := (blk_cell BK660.out 1).trans rfl
                  have hcz86_2 : wc.cell? ⟨gb660, 2, none⟩ = some (.int .i64 t657) := (blk_cell BK660.out 2).trans rfl
                  have hfz86_0 := blk_frozen BK660.out 0
                  have hfz86_1 := blk_frozen BK660.out 1
                  have hfz86_2 := blk_frozen BK660.out 2
                  have hcz87_0 : wc.cell? ⟨gb646, 0, none⟩ = some (.slice Ao51 x647000_2.length co51) := (blk_cell BK646.out 0).trans rfl
                  have hcz87_1 : wc.cell? ⟨gb646, 1, none⟩ = some (.int .i64 x647001_2) := (blk_cell BK646.out 1).trans rfl
                  have hcz87_2 : wc.cell? ⟨gb646, 2, none⟩ = some (.int .i64 x647002_2) := (blk_cell BK646.out 2).trans rfl
                  have hfz87_0 := blk_frozen BK646.out 0
                  have hfz87_1 := blk_frozen BK646.out 1
                  have hfz87_2 := blk_frozen BK646.out 2
                  go_wp2
                  go_roundg kj69
                  case measure => have := HJ4.out; have := HK2.out; have := HJ49.out; have := HJ69.out; omega
                  case rel => exact ⟨(wrap64 (x10_2 + 1)), (wrap64 (x12_2 + 1)), (t653), (t656), (t657), (.slice Ao56 t653.length co56), (by first | rfl | (simp; done) | (simp [*]; done)), (by first | rfl | (simp; done) | (simp [*]; done)), H', ⟨by have := HJ4.out; have := HK2.out; have := HJ49.out; have := HJ69.out; omega⟩, ⟨Kd.V_mono (Kd.R_V (by (with_reducible repeat (first | apply Kd.R_alloc | apply Kd.R_drewN | apply Kd.R_drew)); exact Kd.R_mono (Kd.R_far (p := ⟨gb646, 2, none⟩) (Kd.R_far (p := ⟨gb646, 1, none⟩) (Kd.R_far (p := ⟨gb646, 0, none⟩) (Kd.R_types (Kd.R_types HO_661000.out BK646.out (by decide)) BK646.out (by decide)) (fun _ hk => hk.2) (.slice Ao56 t653.length co56)) (fun _ hk => hk.2) (.int .i64 t656)) (fun _ hk => hk.2) (.int .i64 t657)) (fun _ hk => And.intro hk.1.1 hk.1.2))) (fun k_ hk => by first | exact ⟨(.inr (hk.1)), hk.2⟩ | exact (.inr (hk)))⟩, ⟨by (with_reducible repeat (first | refine blk_drewN ?_ _ | refine blk_drew ?_ | refine blk_alloc ?_ _)); refine blk_put (cs := #[.slice Ao56 t653.length co56, .int .i64 t656, .int .i64 x647002_2]) ?_ 2 _ rfl; (with_reducible repeat (first | refine blk_drewN ?_ _ | refine blk_drew ?_ | refine blk_alloc ?_ _)); refine blk_put (cs := #[.slice Ao56 t653.length co56, .int .i64 x647001_2, .int .i64 x647002_2]) ?_ 1 _ rfl; (with_reducible repeat (first | refine blk_drewN ?_ _ | refine blk_drew ?_ | refine blk_alloc ?_ _)); refine blk_put (cs := #[.slice Ao51 x647000_2.length co51, .int .i64 x647001_2, .int .i64 x647002_2]) ?_ 0 _ rfl; (with_reducible repeat (first | refine blk_drewN ?_ _ | refine blk_drew ?_ | refine blk_alloc ?_ _)); exact BK646.out⟩, ⟨by repeat (first | (with_reducible first | exact HB.out | apply below_alloc | apply pw_below_drewN | apply below_drew1 | refine below_set ?_ GE646.out | refine below_set ?_ GE660.out) | exact HB.out)⟩⟩
                ·as_aux_lemma =>
                 rw [if_neg c83] at H
                 have c83b0 : decide (0 ≤ t658) = false := decide_eq_false c83
                 clear c83
                 by_cases c88 : x10_2 > t650
                 ·as_aux_lemma =>
                  rw [if_pos c88] at H
                  have c88b0 : decide (t650 < x10_2) = true := decide_eq_true c88
                  clear c88
                  exact absurd H (by simp)
                 ·as_aux_lemma =>
                  rw [if_neg c88] at H
                  have c88b0 : decide (t650 < x10_2) = false := decide_eq_false c88
                  clear c88
                  have H' := Aside0.mk H
                  clear H
                  have hnb89 := NB660_646.out
                  have hnc89 := NB646_660.out
                  have hcz90_0 : wc.cell? ⟨gb660, 0, none⟩ = some (.slice Ao56 t653.length co56) := (blk_cell BK660.out 0).trans rfl
                  have hcz90_1 : wc.cell? ⟨gb660, 1, none⟩ = some (.int .i64 t656) := (blk_cell BK660.out 1).trans rfl
                  have hcz90_2 : wc.cell? ⟨gb660, 2, none⟩ = some (.int .i64 t657) := (blk_cell BK660.out 2).trans rfl
                  have hfz90_0 := blk_frozen BK660.out 0
                  have hfz90_1 := blk_frozen BK660.out 1
                  have hfz90_2 := blk_frozen BK660.out 2
                  have hcz91_0 : wc.cell? ⟨gb646, 0, none⟩ = some (.slice Ao51 x647000_2.length co51) := (blk_cell BK646.out 0).trans rfl
                  have hcz91_1 : wc.cell? ⟨gb646, 1, none⟩ = some (.int .i64 x647001_2) := (blk_cell BK646.out 1).trans rfl
                  have hcz91_2 : wc.cell? ⟨gb646, 2, none⟩ = some (.int .i64 x647002_2) := (blk_cell BK646.out 2).trans rfl
                  have hfz91_0 := blk_frozen BK646.out 0
                  have hfz91_1 := blk_frozen BK646.out 1
                  have hfz91_2 := blk_frozen BK646.out 2
                  go_wp2
                  go_roundg kj69
                  case measure => have := HJ4.out; have := HK2.out; have := HJ49.out; have := HJ69.out; omega
                  case rel => exact ⟨(x10_2), (wrap64 (x12_2 + 1)), (t653), (t656), (t657), (.slice Ao56 t653.length co56), (by first | rfl | (simp; done) | (simp [*]; done)), (by first | rfl | (simp; done) | (simp [*]; done)), H', ⟨by have := HJ4.out; have := HK2.out; have := HJ49.out; have := HJ69.out; omega⟩, ⟨Kd.V_mono (Kd.R_V (by (with_reducible repeat (first | apply Kd.R_alloc | apply Kd.R_drewN | apply Kd.R_drew)); exact Kd.R_mono (Kd.R_far (p := ⟨gb646, 2, none⟩) (Kd.R_far (p := ⟨gb646, 1, none⟩) (Kd.R_far (p := ⟨gb646, 0, none⟩) (Kd.R_types (Kd.R_types HO_661000.out BK646.out (by decide)) BK646.out (by decide)) (fun _ hk => hk.2) (.slice Ao56 t653.length co56)) (fun _ hk => hk.2) (.int .i64 t656)) (fun _ hk => hk.2) (.int .i64 t657)) (fun _ hk => And.intro hk.1.1 hk.1.2))) (fun k_ hk => by first | exact ⟨(.inr (hk.1)), hk.2⟩ | exact (.inr (hk)))⟩, ⟨by (with_reducible repeat (first | refine blk_drewN ?_ _ | refine blk_drew ?_ | refine blk_alloc ?_ _)); refine blk_put (cs := #[.slice Ao56 t653.length co56, .int .i64 t656, .int .i64 x647002_2]) ?_ 2 _ rfl; (with_reducible repeat (first | refine blk_drewN ?_ _ | refine blk_drew ?_ | refine blk_alloc ?_ _)); refine blk_put (cs := #[.slice Ao56 t653.length co56, .int .i64 x647001_2, .int .i64 x647002_2]) ?_ 1 _ rfl; (with_reducible repeat (first | refine blk_drewN ?_ _ | refine blk_drew ?_ | refine blk_alloc ?_ _)); refine blk_put (cs := #[.slice Ao51 x647000_2.length co51, .int .i64 x647001_2, .int .i64 x647002_2]) ?_ 0 _ rfl; (with_reducible repeat (first | refine blk_drewN ?_ _ | refine blk_drew ?_ | refine blk_alloc ?_ _)); exact BK646.out⟩, ⟨by repeat (first | (with_reducible first | exact HB.out | apply below_alloc | apply pw_below_drewN | apply below_drew1 | refine below_set ?_ GE646.out | refine below_set ?_ GE660.out) | exact HB.out)⟩⟩
         ·as_aux_lemma =>
          replace c49 := Bool.eq_false_iff.mpr c49
          subst c49
          rw [if_neg (show ¬ (false = true) by decide)] at H
          have H' := Aside0.mk H
          clear H
          obtain ⟨Ao92, co92, eo92⟩ := Kd.V_slice HO_647000.out
          subst eo92
          try go_wp2
          have n0_ := Aside0.mk (Kd.V_drew HO_647000.out)
          have n1_ := Aside0.mk (blk_drew BK646.out)
          have n2_ := Aside0.mk (below_drew1 HB.out)
          clear HO_647000
          clear BK646
          clear HB
          have HO_647000 := n0_
          have BK646 := n1_
          have HB := n2_
          clear n0_ n1_ n2_
          have p652 : 0 ≤ (x12_2 : Int) := of_decide_eq_true (by first | (with_reducible assumption) | assumption)
          have q652 : x12_2 < (l2.length : Int) := of_decide_eq_true (by first | (with_reducible assumption) | assumption)
          obtain ⟨ad652, e652, hx652_0⟩ := Kd.at_int HR2.out x12_2 p652 q652
          have hw652_0 := hx652_0
          cases e652
          replace hx652_0 := (HB.out.cell (World.block_lt_of_cell? w _ hx652_0)).trans hx652_0
          replace p652 := eq_true p652
          replace q652 := eq_true q652
          refine start_ (n := 15) (S := fun w' => w'.cell? ⟨gb646, 0, none⟩ = some (.slice Ao92 x647000_2.length co92) ∧ w'.cell? ⟨gb646, 1, none⟩ = some (.int .i64 x647001_2) ∧ w'.cell? ⟨gb646, 2, none⟩ = some (.int .i64 x647002_2) ∧ w'.cell? (ad652.add (x12_2).toNat) = some (.int .i64 (rd l2 x12_2))) (ds := []) #[false, false, false, false, false, false, false, false, false, false, false, false, false, false, false] (by kernel_rfl) rfl rfl ⟨(blk_cell BK646.out 0).trans rfl, (blk_cell BK646.out 1).trans rfl, (blk_cell BK646.out 2).trans rfl, ((HB.out.cell (World.block_lt_of_cell? w _ hw652_0)).trans hw652_0)⟩ (fun hHeld => ?_); refine with_tabW fringelaw42_QueueWaits.tab11 fringelaw42_QueueWaits.bits11 (fun HT_ HW_ => ?_)
          generalize wr.drew = w93 at HO_647000 BK646 HB hx652_0 hHeld ⊢
          refine pure_ (i := 1) (N := some 64) (v := ?_) (a' := ?_) #[false, true, false, false, false, false, false, false, false, false, false, false, false, false, false] rfl rfl (any_of HT_.out (by kernel_rfl)) (fun _ _ _ h => h) (Or.inl ⟨by rfl, ?_⟩) ?_ ?_
          rotate_left
          ·as_aux_lemma =>
           intro w'
           go_simp
           with_reducible rfl
          rotate_left
          ·as_aux_lemma =>
           simp only [Act.put, List.setIfInBounds_toArray, List.set_cons_zero, List.set_cons_succ, i64_w, i32_w]
           rfl
          refine pure_ (i := 2) (N := some 65) (v := ?_) (a' := ?_) #[false, true, true, false, false, false, false, false, false, false, false, false, false, false, false] rfl rfl (any_of HT_.out (by kernel_rfl)) (fun _ _ _ h => h) (Or.inl ⟨by rfl, ?_⟩) ?_ ?_
          rotate_left
          ·as_aux_lemma =>
           intro w'
           go_simp
           with_reducible rfl
          rotate_left
          ·as_aux_lemma =>
           simp only [Act.put, List.setIfInBounds_toArray, List.set_cons_zero, List.set_cons_succ, i64_w, i32_w]
           rfl
          refine pure_ (i := 3) (N := some 66) (v := ?_) (a' := ?_) #[false, true, true, true, false, false, false, false, false, false, false, false, false, false, false] rfl rfl (any_of HT_.out (by kernel_rfl)) (fun _ _ _ h => h) (Or.inl ⟨by rfl, ?_⟩) ?_ ?_
          rotate_left
          ·as_aux_lemma =>
           intro w'
           go_simp
           with_reducible rfl
          rotate_left
          ·as_aux_lemma =>
           simp only [Act.put, List.setIfInBounds_toArray, List.set_cons_zero, List.set_cons_succ, i64_w, i32_w]
           rfl
          refine pure_ (i := 5) (N := some 68) (v := ?_) (a' := ?_) #[false, true, true, true, false, true, false, false, false, false, false, false, false, false, false] rfl rfl (any_of HT_.out (by kernel_rfl)) (fun _ _ _ h => h) (Or.inl ⟨by rfl, ?_⟩) ?_ ?_
          rotate_left
          ·as_aux_lemma =>
           intro w'
           go_simp
           with_reducible rfl
          rotate_left
          ·as_aux_lemma =>
           simp only [Act.put, List.setIfInBounds_toArray, List.set_cons_zero, List.set_cons_succ, i64_w, i32_w]
           rfl
          refine take_ (i := 0) (N := some 63) (v := ?_) (a' := ?_) #[true, true, true, true, false, true, false, false, false, false, false, false, false, false, false] rfl rfl (take_ofW HT_.out HW_.out (by kernel_rfl)) (fun _ _ _ h => h) (Or.inl ⟨by rfl, ?_⟩) hHeld ?_ ?_
          rotate_left
          ·as_aux_lemma =>
           rintro w' ⟨s0, s1, s2, s3⟩
           go_simp
           with_reducible rfl
          rotate_left
          ·as_aux_lemma =>
           simp only [Act.put, List.setIfInBounds_toArray, List.set_cons_zero, List.set_cons_succ, i64_w, i32_w]
           rfl
          refine take_ (i := 4) (N := some 67) (v := ?_) (a' := ?_) #[true, true, true, true, true, true, false, false, false, false, false, false, false, false, false] rfl rfl (take_ofW HT_.out HW_.out (by kernel_rfl)) (fun _ _ _ h => h) (Or.inl ⟨by rfl, ?_⟩) hHeld ?_ ?_
          rotate_left
          ·as_aux_lemma =>
           rintro w' ⟨s0, s1, s2, s3⟩
           go_simp
           with_reducible rfl
          rotate_left
          ·as_aux_lemma =>
           simp only [Act.put, List.setIfInBounds_toArray, List.set_cons_zero, List.set_cons_succ, i64_w, i32_w]
           rfl
          refine join_ (σ := Value × Nat) 3 #[true, true, true, true, true, true, true, true, true, true, true, true, false, false, false] (fun s_ => [(69, .tuple #[.agg #[s_.1, .int .i64 t656, .int .i64 t657], .int .i64 t658, .bool false]), (13, .pointer (some ⟨s_.2, 0, none⟩)), (62, .tuple #[.agg #[s_.1, .int .i64 t656, .int .i64 t657], .int .i64 t658, .bool false]), (70, .agg #[s_.1, .int .i64 t656, .int .i64 t657]), (71, .int .i64 t658), (72, .bool false)]) (fun s_ w' => (w'.cell? ⟨gb646, 0, none⟩ = some (.slice Ao92 x647000_2.length co92) ∧ w'.cell? ⟨gb646, 1, none⟩ = some (.int .i64 x647001_2) ∧ w'.cell? ⟨gb646, 2, none⟩ = some (.int .i64 x647002_2) ∧ w'.cell? (ad652.add (x12_2).toNat) = some (.int .i64 (rd l2 x12_2))) ∧ (Kd.R k42 42 w' w.heap.size (fun k_ => (w.heap.size ≤ k_)) s_.1 t653) ∧ (Kd.V k42 42 w' w.heap.size (fun k_ => (P0_0_ k_ ∨ w.heap.size ≤ k_) ∧ some k_ ≠ (s_.1 : Value).ownBlock ∧ k_ ≠ gb646 ∧ k_ ≠ s_.2) (.slice Ao92 x647000_2.length co92) x647000_2) ∧ (w'.heap[gb646]? = some (.cells #[.slice Ao92 x647000_2.length co92, .int .i64 x647001_2, .int .i64 x647002_2] 24 (0, 0))) ∧ (w'.heap[s_.2]? = some (.cells #[.slice none 0 0, .int .i64 0, .int .i64 0] 24 (0, 0))) ∧ (w.heap.size ≤ s_.2) ∧ (w.heap.size ≤ s_.2) ∧ (gb646 ≠ s_.2) ∧ (s_.2 ≠ gb646) ∧ (Below w.heap.size w w')) ?_ ?_
          rotate_left
          ·as_aux_lemma =>
           intro hCont
           refine two_ (i := 6) (j := 11) (Ni := some 69) (Nj := some 13) #[true, true, true, true, true, true, true, false, false, false, false, false, false, false, false] #[true, true, true, true, true, true, false, false, false, false, false, true, false, false, false] rfl rfl rfl rfl (two_of HT_.out (by kernel_rfl)) (by decide) (by decide) (fun K hK => ?_) (fun K hK => ?_)
           ·as_aux_lemma =>
            skip
            refine goes_ Try.func30 (by kernel_rfl) rfl #[.agg #[.slice Ao92 x647000_2.length co92, .int .i64 x647001_2, .int .i64 x647002_2], .int .i64 (rd l2 x12_2), .int .i64 a1] (by rfl) rfl rfl (by (try simp only [List.map_toArray, List.map_cons, List.map_nil]); first | done | rfl | (simp only [List.length_drop, List.length_take]; rfl)) ?_
            with_reducible refine (fringelaw42_done.calls k2 _ _ x647000_2 x647001_2 x647002_2 (rd l2 x12_2) a1 t653 t656 t657 t658 false _ ?side1 ?side2 A48.out).mono ?_
            (case side1 => repeat (first | exact (Kd.V_reads' HO_647000.out).2.2 | (with_reducible refine Kd.C_alloc ?_ _) | (with_reducible refine Kd.C_drewN ?_ _) | (with_reducible refine Kd.C_drew ?_)))
            (case side2 => exact (Kd.V_reads' HO_647000.out).2.1)
            rintro e w94 ⟨v654, rfl, ho0, hb⟩
            refine ⟨_, rfl, ?_⟩
            have n0_ := Aside0.mk (Kd.V_elder' (by (with_reducible repeat (first | apply Kd.V_alloc | apply Kd.V_drewN | apply Kd.V_drew)); exact HO_647000.out) (Kd.R_base ho0) hb)
            have n1_ := Aside0.mk (Kd.R_lower (Kd.R_newM (M := fun k_ => (w.heap.size ≤ k_)) ho0 (below_size (by repeat (first | (with_reducible first | exact HB.out | apply below_alloc | apply pw_below_drewN | apply below_drew1 | refine below_set ?_ GE646.out) | exact HB.out))) (fun k_ h_ => h_)) (below_size (by repeat (first | (with_reducible first | exact HB.out | apply below_alloc | apply pw_below_drewN | apply below_drew1 | refine below_set ?_ GE646.out) | exact HB.out))))
            have n2_ := Aside0.mk (blk_below (g := gb646) (o := .cells #[.slice Ao92 x647000_2.length co92, .int .i64 x647001_2, .int .i64 x647002_2] 24 (0, 0)) (by (with_reducible repeat (first | refine blk_drewN ?_ _ | refine blk_drew ?_ | refine blk_alloc ?_ _)); exact BK646.out) hb)
            have n3_ := Aside0.mk (below_step (by repeat (first | (with_reducible first | exact HB.out | apply below_alloc | apply pw_below_drewN | apply below_drew1 | refine below_set ?_ GE646.out) | exact HB.out)) hb)
            clear HO_647000
            clear BK646
            clear HB
            have HO_647000 := n0_
            have HO655 := n1_
            have BK646 := n2_
            have HB := n3_
            clear n0_ n1_ n2_ n3_
            (try clear hb)
            (try clear hb2)
            (try clear hk)
            (try clear hi)
            (try clear ho0)
            refine hK.out _ _ ⟨(blk_cell BK646.out 0).trans rfl, (blk_cell BK646.out 1).trans rfl, (blk_cell BK646.out 2).trans rfl, ((HB.out.cell (World.block_lt_of_cell? w _ hw652_0)).trans hw652_0)⟩ (fun hHeld => ?_)
            clear hK K
            refine norm_ (a' := ?_) ?_ ?_
            rotate_left
            ·as_aux_lemma =>
             show Act.put _ (some 69) _ = _
             simp only [Act.put, List.setIfInBounds_toArray, List.set_cons_zero, List.set_cons_succ, i64_w, i32_w]
             rfl
            refine pure_ (i := 7) (N := some 62) (v := ?_) (a' := ?_) #[true, true, true, true, true, true, true, true, false, false, false, false, false, false, false] rfl rfl (any_of HT_.out (by kernel_rfl)) (fun _ _ _ h => h) (Or.inl ⟨by rfl, ?_⟩) ?_ ?_
            rotate_left
            ·as_aux_lemma =>
             intro w'
             go_simp
             with_reducible rfl
            rotate_left
            ·as_aux_lemma =>
             simp only [Act.put, List.setIfInBounds_toArray, List.set_cons_zero, List.set_cons_succ, i64_w, i32_w]
             rfl
            refine pure_ (i := 8) (N := some 70) (v := ?_) (a' := ?_) #[true, true, true, true, true, true, true, true, true, false, false, false, false, false, false] rfl rfl (any_of HT_.out (by kernel_rfl)) (fun _ _ _ h => h) (Or.inl ⟨by rfl, ?_⟩) ?_ ?_
            rotate_left
            ·as_aux_lemma =>
             intro w'
             go_simp
             with_reducible rfl
            rotate_left
            ·as_aux_lemma =>
             simp only [Act.put, List.setIfInBounds_toArray, List.set_cons_zero, List.set_cons_succ, i64_w, i32_w]
             rfl
            refine pure_ (i := 9) (N := some 71) (v := ?_) (a' := ?_) #[true, true, true, true, true, true, true, true, true, true, false, false, false, false, false] rfl rfl (any_of HT_.out (by kernel_rfl)) (fun _ _ _ h => h) (Or.inl ⟨by rfl, ?_⟩) ?_ ?_
            rotate_left
            ·as_aux_lemma =>
             intro w'
             go_simp
             with_reducible rfl
            rotate_left
            ·as_aux_lemma =>
             simp only [Act.put, List.setIfInBounds_toArray, List.set_cons_zero, List.set_cons_succ, i64_w, i32_w]
             rfl
            refine pure_ (i := 10) (N := some 72) (v := ?_) (a' := ?_) #[true, true, true, true, true, true, true, true, true, true, true, false, false, false, false] rfl rfl (any_of HT_.out (by kernel_rfl)) (fun _ _ _ h => h) (Or.inl ⟨by rfl, ?_⟩) ?_ ?_
            rotate_left
            ·as_aux_lemma =>
             intro w'
             go_simp
             with_reducible rfl
            rotate_left
            ·as_aux_lemma =>
             simp only [Act.put, List.setIfInBounds_toArray, List.set_cons_zero, List.set_cons_succ, i64_w, i32_w]
             rfl
            refine one_ (i := 11) (N := some 13) #[true, true, true, true, true, true, true, true, true, true, true, true, false, false, false] rfl rfl (one_of HT_.out (by kernel_rfl)) (by decide) (fun K hK => ?_)
            refine box_step ?hg (N := 13) ?hd (cs := #[.slice none 0 0, .int .i64 0, .int .i64 0]) (t := 24) ?hr ?_; (case hd => rfl); (case hg => rfl); (case hr => first | (go_simp; done) | (go_simp; rfl))
            intro gb660 hg w95 hbox hb
            have n0_ := Aside0.mk (Kd.V_below (Kd.V_elderB (by (with_reducible repeat (first | apply Kd.V_alloc | apply Kd.V_drewN | apply Kd.V_drew)); exact HO_647000.out) gb660 (Nat.le_of_eq hg.symm)) hb)
            have n1_ := Aside0.mk (Kd.R_below (by (with_reducible repeat (first | apply Kd.R_alloc | apply Kd.R_drewN | apply Kd.R_drew)); exact HO655.out) hb)
            have n2_ := Aside0.mk (blk_below (g := gb646) (o := .cells #[.slice Ao92 x647000_2.length co92, .int .i64 x647001_2, .int .i64 x647002_2] 24 (0, 0)) (by (with_reducible repeat (first | refine blk_drewN ?_ _ | refine blk_drew ?_ | refine blk_alloc ?_ _)); exact BK646.out) hb)
            have n3_ := Aside0.mk (below_step (by repeat (first | (with_reducible first | exact HB.out | apply below_alloc | apply pw_below_drewN | apply below_drew1 | refine below_set ?_ GE646.out) | exact HB.out)) hb)
            have n4_ := Aside0.mk (hbox)
            have n5_ := Aside0.mk ((by rw [hg]; exact (below_size (by repeat (first | (with_reducible first | exact HB.out | apply below_alloc | apply pw_below_drewN | apply below_drew1 | refine below_set ?_ GE646.out) | exact HB.out))) : w.heap.size ≤ gb660))
            have n6_ := Aside0.mk ((by rw [hg]; exact (below_size (by repeat (first | (with_reducible first | exact HB.out | apply below_alloc | apply pw_below_drewN | apply below_drew1 | refine below_set ?_ GE646.out) | exact HB.out))) : w.heap.size ≤ gb660))
            have n7_ := Aside0.mk ((by rw [hg]; exact Nat.ne_of_lt (blk_lt (g := gb646) (o := .cells #[.slice Ao92 x647000_2.length co92, .int .i64 x647001_2, .int .i64 x647002_2] 24 (0, 0)) (by (with_reducible repeat (first | refine blk_drewN ?_ _ | refine blk_drew ?_ | refine blk_alloc ?_ _)); exact BK646.out)) : gb646 ≠ gb660))
            have n8_ := Aside0.mk ((by rw [hg]; exact Nat.ne_of_gt (blk_lt (g := gb646) (o := .cells #[.slice Ao92 x647000_2.length co92, .int .i64 x647001_2, .int .i64 x647002_2] 24 (0, 0)) (by (with_reducible repeat (first | refine blk_drewN ?_ _ | refine blk_drew ?_ | refine blk_alloc ?_ _)); exact BK646.out)) : gb660 ≠ gb646))
            clear HO_647000
            clear HO655
            clear BK646
            clear HB
            have HO_647000 := n0_
            have HO655 := n1_
            have BK646 := n2_
            have HB := n3_
            have BK660 := n4_
            have GW660 := n5_
            have GE660 := n6_
            have NB646_660 := n7_
            have NB660_646 := n8_
            clear n0_ n1_ n2_ n3_ n4_ n5_ n6_ n7_ n8_
            clear hb hbox hg
            refine hK.out _ _ ⟨(blk_cell BK646.out 0).trans rfl, (blk_cell BK646.out 1).trans rfl, (blk_cell BK646.out 2).trans rfl, ((HB.out.cell (World.block_lt_of_cell? w _ hw652_0)).trans hw652_0)⟩ (fun hHeld => ?_)
            clear hK K
            refine norm_ (a' := ?_) ?_ ?_
            rotate_left
            ·as_aux_lemma =>
             show Act.put _ (some 13) _ = _
             simp only [Act.put, List.setIfInBounds_toArray, List.set_cons_zero, List.set_cons_succ, i64_w, i32_w]
             rfl
            exact norm_ (by simp only [putAll, Act.put, List.setIfInBounds_toArray, List.set_cons_zero, List.set_cons_succ]) (hCont (v654, gb660) _ ⟨hHeld, (by (with_reducible repeat (first | apply Kd.R_alloc | apply Kd.R_drewN | apply Kd.R_drew)); exact Kd.R_mono HO655.out (fun _ hk => hk.1)), (by (with_reducible repeat (first | apply Kd.V_alloc | apply Kd.V_drewN | apply Kd.V_drew)); exact Kd.V_mono HO_647000.out (fun _ hk => ⟨hk.1.1.1, ⟨hk.1.2, ⟨hk.1.1.2, hk.2⟩⟩⟩)), (by (with_reducible repeat (first | refine blk_drewN ?_ _ | refine blk_drew ?_ | refine blk_alloc ?_ _)); exact BK646.out), (by (with_reducible repeat (first | refine blk_drewN ?_ _ | refine blk_drew ?_ | refine blk_alloc ?_ _)); exact BK660.out), GW660.out, GE660.out, NB646_660.out, NB660_646.out, (by repeat (first | (with_reducible first | exact HB.out | apply below_alloc | apply pw_below_drewN | apply below_drew1 | refine below_set ?_ GE646.out | refine below_set ?_ GE660.out) | exact HB.out))⟩)
           ·as_aux_lemma =>
            skip
            refine box_step ?hg (N := 13) ?hd (cs := #[.slice none 0 0, .int .i64 0, .int .i64 0]) (t := 24) ?hr ?_; (case hd => rfl); (case hg => rfl); (case hr => first | (go_simp; done) | (go_simp; rfl))
            intro gb660 hg w94 hbox hb
            have n0_ := Aside0.mk (Kd.V_below (Kd.V_elderB (by (with_reducible repeat (first | apply Kd.V_alloc | apply Kd.V_drewN | apply Kd.V_drew)); exact HO_647000.out) gb660 (Nat.le_of_eq hg.symm)) hb)
            have n1_ := Aside0.mk (blk_below (g := gb646) (o := .cells #[.slice Ao92 x647000_2.length co92, .int .i64 x647001_2, .int .i64 x647002_2] 24 (0, 0)) (by (with_reducible repeat (first | refine blk_drewN ?_ _ | refine blk_drew ?_ | refine blk_alloc ?_ _)); exact BK646.out) hb)
            have n2_ := Aside0.mk (below_step (by repeat (first | (with_reducible first | exact HB.out | apply below_alloc | apply pw_below_drewN | apply below_drew1 | refine below_set ?_ GE646.out) | exact HB.out)) hb)
            have n3_ := Aside0.mk (hbox)
            have n4_ := Aside0.mk ((by rw [hg]; exact (below_size (by repeat (first | (with_reducible first | exact HB.out | apply below_alloc | apply pw_below_drewN | apply below_drew1 | refine below_set ?_ GE646.out) | exact HB.out))) : w.heap.size ≤ gb660))
            have n5_ := Aside0.mk ((by rw [hg]; exact (below_size (by repeat (first | (with_reducible first | exact HB.out | apply below_alloc | apply pw_below_drewN | apply below_drew1 | refine below_set ?_ GE646.out) | exact HB.out))) : w.heap.size ≤ gb660))
            have n6_ := Aside0.mk ((by rw [hg]; exact Nat.ne_of_lt (blk_lt (g := gb646) (o := .cells #[.slice Ao92 x647000_2.length co92, .int .i64 x647001_2, .int .i64 x647002_2] 24 (0, 0)) (by (with_reducible repeat (first | refine blk_drewN ?_ _ | refine blk_drew ?_ | refine blk_alloc ?_ _)); exact BK646.out)) : gb646 ≠ gb660))
            have n7_ := Aside0.mk ((by rw [hg]; exact Nat.ne_of_gt (blk_lt (g := gb646) (o := .cells #[.slice Ao92 x647000_2.length co92, .int .i64 x647001_2, .int .i64 x647002_2] 24 (0, 0)) (by (with_reducible repeat (first | refine blk_drewN ?_ _ | refine blk_drew ?_ | refine blk_alloc ?_ _)); exact BK646.out)) : gb660 ≠ gb646))
            clear HO_647000
            clear BK646
            clear HB
            have HO_647000 := n0_
            have BK646 := n1_
            have HB := n2_
            have BK660 := n3_
            have GW660 := n4_
            have GE660 := n5_
            have NB646_660 := n6_
            have NB660_646 := n7_
            clear n0_ n1_ n2_ n3_ n4_ n5_ n6_ n7_
            clear hb hbox hg
            refine hK.out _ _ ⟨(blk_cell BK646.out 0).trans rfl, (blk_cell BK646.out 1).trans rfl, (blk_cell BK646.out 2).trans rfl, ((HB.out.cell (World.block_lt_of_cell? w _ hw652_0)).trans hw652_0)⟩ (fun hHeld => ?_)
            clear hK K
            refine norm_ (a' := ?_) ?_ ?_
            rotate_left
            ·as_aux_lemma =>
             show Act.put _ (some 13) _ = _
             simp only [Act.put, List.setIfInBounds_toArray, List.set_cons_zero, List.set_cons_succ, i64_w, i32_w]
             rfl
            refine one_ (i := 6) (N := some 69) #[true, true, true, true, true, true, true, false, false, false, false, true, false, false, false] rfl rfl (one_of HT_.out (by kernel_rfl)) (by decide) (fun K hK => ?_)
            refine goes_ Try.func30 (by kernel_rfl) rfl #[.agg #[.slice Ao92 x647000_2.length co92, .int .i64 x647001_2, .int .i64 x647002_2], .int .i64 (rd l2 x12_2), .int .i64 a1] (by rfl) rfl rfl (by (try simp only [List.map_toArray, List.map_cons, List.map_nil]); first | done | rfl | (simp only [List.length_drop, List.length_take]; rfl)) ?_
            with_reducible refine (fringelaw42_done.calls k2 _ _ x647000_2 x647001_2 x647002_2 (rd l2 x12_2) a1 t653 t656 t657 t658 false _ ?side1 ?side2 A48.out).mono ?_
            (case side1 => repeat (first | exact (Kd.V_reads' HO_647000.out).2.2 | (with_reducible refine Kd.C_alloc ?_ _) | (with_reducible refine Kd.C_drewN ?_ _) | (with_reducible refine Kd.C_drew ?_)))
            (case side2 => exact (Kd.V_reads' HO_647000.out).2.1)
            rintro e w95 ⟨v654, rfl, ho0, hb⟩
            refine ⟨_, rfl, ?_⟩
            have n0_ := Aside0.mk (Kd.V_elder' (by (with_reducible repeat (first | apply Kd.V_alloc | apply Kd.V_drewN | apply Kd.V_drew)); exact HO_647000.out) (Kd.R_base ho0) hb)
            have n1_ := Aside0.mk (Kd.R_lower (Kd.R_newM (M := fun k_ => (w.heap.size ≤ k_)) ho0 (below_size (by repeat (first | (with_reducible first | exact HB.out | apply below_alloc | apply pw_below_drewN | apply below_drew1 | refine below_set ?_ GE646.out | refine below_set ?_ GE660.out) | exact HB.out))) (fun k_ h_ => h_)) (below_size (by repeat (first | (with_reducible first | exact HB.out | apply below_alloc | apply pw_below_drewN | apply below_drew1 | refine below_set ?_ GE646.out | refine below_set ?_ GE660.out) | exact HB.out))))
            have n2_ := Aside0.mk (blk_below (g := gb646) (o := .cells #[.slice Ao92 x647000_2.length co92, .int .i64 x647001_2, .int .i64 x647002_2] 24 (0, 0)) (by (with_reducible repeat (first | refine blk_drewN ?_ _ | refine blk_drew ?_ | refine blk_alloc ?_ _)); exact BK646.out) hb)
            have n3_ := Aside0.mk (blk_below (g := gb660) (o := .cells #[.slice none 0 0, .int .i64 0, .int .i64 0] 24 (0, 0)) (by (with_reducible repeat (first | refine blk_drewN ?_ _ | refine blk_drew ?_ | refine blk_alloc ?_ _)); exact BK660.out) hb)
            have n4_ := Aside0.mk (below_step (by repeat (first | (with_reducible first | exact HB.out | apply below_alloc | apply pw_below_drewN | apply below_drew1 | refine below_set ?_ GE646.out | refine below_set ?_ GE660.out) | exact HB.out)) hb)
            clear HO_647000
            clear BK646
            clear BK660
            clear HB
            have HO_647000 := n0_
            have HO655 := n1_
            have BK646 := n2_
            have BK660 := n3_
            have HB := n4_
            clear n0_ n1_ n2_ n3_ n4_
            (try clear hb)
            (try clear hb2)
            (try clear hk)
            (try clear hi)
            (try clear ho0)
            refine hK.out _ _ ⟨(blk_cell BK646.out 0).trans rfl, (blk_cell BK646.out 1).trans rfl, (blk_cell BK646.out 2).trans rfl, ((HB.out.cell (World.block_lt_of_cell? w _ hw652_0)).trans hw652_0)⟩ (fun hHeld => ?_)
            clear hK K
            refine norm_ (a' := ?_) ?_ ?_
            rotate_left
            ·as_aux_lemma =>
             show Act.put _ (some 69) _ = _
             simp only [Act.put, List.setIfInBounds_toArray, List.set_cons_zero, List.set_cons_succ, i64_w, i32_w]
             rfl
            refine pure_ (i := 7) (N := some 62) (v := ?_) (a' := ?_) #[true, true, true, true, true, true, true, true, false, false, false, true, false, false, false] rfl rfl (any_of HT_.out (by kernel_rfl)) (fun _ _ _ h => h) (Or.inl ⟨by rfl, ?_⟩) ?_ ?_
            rotate_left
            ·as_aux_lemma =>
             intro w'
             go_simp
             with_reducible rfl
            rotate_left
            ·as_aux_lemma =>
             simp only [Act.put, List.setIfInBounds_toArray, List.set_cons_zero, List.set_cons_succ, i64_w, i32_w]
             rfl
            refine pure_ (i := 8) (N := some 70) (v := ?_) (a' := ?_) #[true, true, true, true, true, true, true, true, true, false, false, true, false, false, false] rfl rfl (any_of HT_.out (by kernel_rfl)) (fun _ _ _ h => h) (Or.inl ⟨by rfl, ?_⟩) ?_ ?_
            rotate_left
            ·as_aux_lemma =>
             intro w'
             go_simp
             with_reducible rfl
            rotate_left
            ·as_aux_lemma =>
             simp only [Act.put, List.setIfInBounds_toArray, List.set_cons_zero, List.set_cons_succ, i64_w, i32_w]
             rfl
            refine pure_ (i := 9) (N := some 71) (v := ?_) (a' := ?_) #[true, true, true, true, true, true, true, true, true, true, false, true, false, false, false] rfl rfl (any_of HT_.out (by kernel_rfl)) (fun _ _ _ h => h) (Or.inl ⟨by rfl, ?_⟩) ?_ ?_
            rotate_left
            ·as_aux_lemma =>
             intro w'
             go_simp
             with_reducible rfl
            rotate_left
            ·as_aux_lemma =>
             simp only [Act.put, List.setIfInBounds_toArray, List.set_cons_zero, List.set_cons_succ, i64_w, i32_w]
             rfl
            refine pure_ (i := 10) (N := some 72) (v := ?_) (a' := ?_) #[true, true, true, true, true, true, true, true, true, true, true, true, false, false, false] rfl rfl (any_of HT_.out (by kernel_rfl)) (fun _ _ _ h => h) (Or.inl ⟨by rfl, ?_⟩) ?_ ?_
            rotate_left
            ·as_aux_lemma =>
             intro w'
             go_simp
             with_reducible rfl
            rotate_left
            ·as_aux_lemma =>
             simp only [Act.put, List.setIfInBounds_toArray, List.set_cons_zero, List.set_cons_succ, i64_w, i32_w]
             rfl
            exact norm_ (by simp only [putAll, Act.put, List.setIfInBounds_toArray, List.set_cons_zero, List.set_cons_succ]) (hCont (v654, gb660) _ ⟨hHeld, (by (with_reducible repeat (first | apply Kd.R_alloc | apply Kd.R_drewN | apply Kd.R_drew)); exact Kd.R_mono HO655.out (fun _ hk => hk.1)), (by (with_reducible repeat (first | apply Kd.V_alloc | apply Kd.V_drewN | apply Kd.V_drew)); exact Kd.V_mono HO_647000.out (fun _ hk => ⟨hk.1.1.1, ⟨hk.2, ⟨hk.1.1.2, hk.1.2⟩⟩⟩)), (by (with_reducible repeat (first | refine blk_drewN ?_ _ | refine blk_drew ?_ | refine blk_alloc ?_ _)); exact BK646.out), (by (with_reducible repeat (first | refine blk_drewN ?_ _ | refine blk_drew ?_ | refine blk_alloc ?_ _)); exact BK660.out), GW660.out, GE660.out, NB646_660.out, NB660_646.out, (by repeat (first | (with_reducible first | exact HB.out | apply below_alloc | apply pw_below_drewN | apply below_drew1 | refine below_set ?_ GE646.out | refine below_set ?_ GE660.out) | exact HB.out))⟩)
          rintro ⟨v654, gb660⟩ w96 ⟨hS_, h0_, h1_, h2_, h3_, h4_, h5_, h6_, h7_, h8_⟩
          have n0_ : Aside0 (Kd.R k42 42 w96 w.heap.size (fun k_ => (w.heap.size ≤ k_)) v654 t653) := ⟨h0_⟩
          have n1_ : Aside0 (Kd.V k42 42 w96 w.heap.size (fun k_ => (P0_0_ k_ ∨ w.heap.size ≤ k_) ∧ some k_ ≠ (v654 : Value).ownBlock ∧ k_ ≠ gb646 ∧ k_ ≠ gb660) (.slice Ao92 x647000_2.length co92) x647000_2) := ⟨h1_⟩
          have n2_ : Aside0 (w96.heap[gb646]? = some (.cells #[.slice Ao92 x647000_2.length co92, .int .i64 x647001_2, .int .i64 x647002_2] 24 (0, 0))) := ⟨h2_⟩
          have n3_ : Aside0 (w96.heap[gb660]? = some (.cells #[.slice none 0 0, .int .i64 0, .int .i64 0] 24 (0, 0))) := ⟨h3_⟩
          have n4_ : Aside0 (w.heap.size ≤ gb660) := ⟨h4_⟩
          have n5_ : Aside0 (w.heap.size ≤ gb660) := ⟨h5_⟩
          have n6_ : Aside0 (gb646 ≠ gb660) := ⟨h6_⟩
          have n7_ : Aside0 (gb660 ≠ gb646) := ⟨h7_⟩
          have n8_ : Aside0 (Below w.heap.size w w96) := ⟨h8_⟩
          clear HO_647000
          clear BK646
          clear HB
          clear h0_ h1_ h2_ h3_ h4_ h5_ h6_ h7_ h8_
          have HO655 := n0_
          have HO_647000 := n1_
          have BK646 := n2_
          have BK660 := n3_
          have GW660 := n4_
          have GE660 := n5_
          have NB646_660 := n6_
          have NB660_646 := n7_
          have HB := n8_
          clear n0_ n1_ n2_ n3_ n4_ n5_ n6_ n7_ n8_
          have hHeld : w96.cell? ⟨gb646, 0, none⟩ = some (.slice Ao92 x647000_2.length co92) ∧ w96.cell? ⟨gb646, 1, none⟩ = some (.int .i64 x647001_2) ∧ w96.cell? ⟨gb646, 2, none⟩ = some (.int .i64 x647002_2) ∧ w96.cell? (ad652.add (x12_2).toNat) = some (.int .i64 (rd l2 x12_2)) := hS_
          obtain ⟨Ao97, co97, eo97⟩ := Kd.R_slice HO655.out
          (first | subst eo97 | (injection eo97 with f1_ f2_ f3_; have f4_ := f1_.symm; have f5_ := f3_.symm; clear f1_ f2_ f3_; subst f4_; subst f5_))
          refine norm_ (a' := ?_) ?_ ?_
          rotate_left
          ·as_aux_lemma =>
           simp only [putAll, Act.put, List.setIfInBounds_toArray, List.set_cons_zero, List.set_cons_succ]
           rfl
          refine one_ (i := 12) (N := none) #[true, true, true, true, true, true, true, true, true, true, true, true, true, false, false] rfl rfl (one_of HT_.out (by kernel_rfl)) (by decide) (fun K hK => ?_)
          have hs98 : w96.cell? ⟨gb660, 0, none⟩ = some (.slice none 0 0) := (blk_cell BK660.out 0).trans rfl
          have hfs98 := blk_frozen BK660.out 0
          have hns98_0 := NB646_660.out
          have hms98_0 := NB660_646.out
          have hs99 : w96.cell? ⟨gb660, 1, none⟩ = some (.int .i64 0) := (blk_cell BK660.out 1).trans rfl
          have hfs99 := blk_frozen BK660.out 1
          have hns99_0 := NB646_660.out
          have hms99_0 := NB660_646.out
          have hs100 : w96.cell? ⟨gb660, 2, none⟩ = some (.int .i64 0) := (blk_cell BK660.out 2).trans rfl
          have hfs100 := blk_frozen BK660.out 2
          have hns100_0 := NB646_660.out
          have hms100_0 := NB660_646.out
          refine skip_ (w1 := ?_) (by rfl) rfl ?_ ?_
          rotate_left
          ·as_aux_lemma =>
           go_simp
           rfl
          refine hK.out _ _ ⟨((cell_far (p := ⟨gb660, _, none⟩) NB646_660.out _).trans (((cell_far (p := ⟨gb660, _, none⟩) NB646_660.out _).trans (((cell_far (p := ⟨gb660, _, none⟩) NB646_660.out _).trans (hHeld.1)))))), ((cell_far (p := ⟨gb660, _, none⟩) NB646_660.out _).trans (((cell_far (p := ⟨gb660, _, none⟩) NB646_660.out _).trans (((cell_far (p := ⟨gb660, _, none⟩) NB646_660.out _).trans (hHeld.2.1)))))), ((cell_far (p := ⟨gb660, _, none⟩) NB646_660.out _).trans (((cell_far (p := ⟨gb660, _, none⟩) NB646_660.out _).trans (((cell_far (p := ⟨gb660, _, none⟩) NB646_660.out _).trans (hHeld.2.2.1)))))), ((cell_far (p := ⟨gb660, _, none⟩) (by first | exact Nat.ne_of_lt (Nat.lt_of_lt_of_le (by have := World.block_lt_of_cell? _ _ hw652_0; first | rwa [add_block] at this | exact this) GW660.out) | (rw [add_block]; exact Nat.ne_of_lt (Nat.lt_of_lt_of_le (by have := World.block_lt_of_cell? _ _ hw652_0; first | rwa [add_block] at this | exact this) GW660.out)) | (show (Addr.add _ _).block ≠ _; rw [add_block]; exact Nat.ne_of_lt (Nat.lt_of_lt_of_le (by have := World.block_lt_of_cell? _ _ hw652_0; first | rwa [add_block] at this | exact this) GW660.out)) | (dsimp only; exact Nat.ne_of_lt (Nat.lt_of_lt_of_le (by have := World.block_lt_of_cell? _ _ hw652_0; first | rwa [add_block] at this | exact this) GW660.out))) _).trans (((cell_far (p := ⟨gb660, _, none⟩) (by first | exact Nat.ne_of_lt (Nat.lt_of_lt_of_le (by have := World.block_lt_of_cell? _ _ hw652_0; first | rwa [add_block] at this | exact this) GW660.out) | (rw [add_block]; exact Nat.ne_of_lt (Nat.lt_of_lt_of_le (by have := World.block_lt_of_cell? _ _ hw652_0; first | rwa [add_block] at this | exact this) GW660.out)) | (show (Addr.add _ _).block ≠ _; rw [add_block]; exact Nat.ne_of_lt (Nat.lt_of_lt_of_le (by have := World.block_lt_of_cell? _ _ hw652_0; first | rwa [add_block] at this | exact this) GW660.out)) | (dsimp only; exact Nat.ne_of_lt (Nat.lt_of_lt_of_le (by have := World.block_lt_of_cell? _ _ hw652_0; first | rwa [add_block] at this | exact this) GW660.out))) _).trans (((cell_far (p := ⟨gb660, _, none⟩) (by first | exact Nat.ne_of_lt (Nat.lt_of_lt_of_le (by have := World.block_lt_of_cell? _ _ hw652_0; first | rwa [add_block] at this | exact this) GW660.out) | (rw [add_block]; exact Nat.ne_of_lt (Nat.lt_of_lt_of_le (by have := World.block_lt_of_cell? _ _ hw652_0; first | rwa [add_block] at this | exact this) GW660.out)) | (show (Addr.add _ _).block ≠ _; rw [add_block]; exact Nat.ne_of_lt (Nat.lt_of_lt_of_le (by have := World.block_lt_of_cell? _ _ hw652_0; first | rwa [add_block] at this | exact this) GW660.out)) | (dsimp only; exact Nat.ne_of_lt (Nat.lt_of_lt_of_le (by have := World.block_lt_of_cell? _ _ hw652_0; first | rwa [add_block] at this | exact this) GW660.out))) _).trans (hHeld.2.2.2))))))⟩ (fun hHeld => ?_)
          clear hK K
          refine pure_ (i := 13) (N := some 14) (v := ?_) (a' := ?_) #[true, true, true, true, true, true, true, true, true, true, true, true, true, true, false] rfl rfl (any_of HT_.out (by kernel_rfl)) (fun _ _ _ h => h) (Or.inl ⟨by rfl, ?_⟩) ?_ ?_
          rotate_left
          ·as_aux_lemma =>
           intro w'
           go_simp
           with_reducible rfl
          rotate_left
          ·as_aux_lemma =>
           simp only [Act.put, List.setIfInBounds_toArray, List.set_cons_zero, List.set_cons_succ, i64_w, i32_w]
           rfl
          refine pure_ (i := 14) (N := some 15) (v := ?_) (a' := ?_) #[true, true, true, true, true, true, true, true, true, true, true, true, true, true, true] rfl rfl (any_of HT_.out (by kernel_rfl)) (fun _ _ _ h => h) (Or.inl ⟨by rfl, ?_⟩) ?_ ?_
          rotate_left
          ·as_aux_lemma =>
           intro w'
           go_simp
           with_reducible rfl
          rotate_left
          ·as_aux_lemma =>
           simp only [Act.put, List.setIfInBounds_toArray, List.set_cons_zero, List.set_cons_succ, i64_w, i32_w]
           rfl
          refine done_ (done_of HT_.out (by kernel_rfl)) ?_
          try go_wp2
          go_roundg k2
          case measure => have := HJ4.out; have := HK2.out; omega
          case rel => exact ⟨(x10_2), (wrap64 (x12_2 + 1)), (x647000_2), (x647001_2), (x647002_2), (.slice Ao92 x647000_2.length co92), (by first | rfl | (simp; done) | (simp [*]; done)), (by first | rfl | (simp; done) | (simp [*]; done)), H', ⟨by have := HJ4.out; have := HK2.out; omega⟩, ⟨by (with_reducible repeat (first | apply Kd.V_alloc | apply Kd.V_drewN | apply Kd.V_drew)); exact Kd.V_mono (Kd.V_far (p := ⟨gb660, 2, none⟩) (Kd.V_far (p := ⟨gb660, 1, none⟩) (Kd.V_far (p := ⟨gb660, 0, none⟩) (Kd.V_mono HO_647000.out (fun k_ hk => (⟨hk, hk.2.2.2⟩ : _ ∧ k_ ≠ gb660))) (fun _ hk => hk.2) (.slice Ao97 t653.length co97)) (fun _ hk => hk.2) (.int .i64 t656)) (fun _ hk => hk.2) (.int .i64 t657)) (fun _ hk => ⟨hk.1.1, hk.1.2.2.1⟩)⟩, ⟨by (with_reducible repeat (first | refine blk_drewN ?_ _ | refine blk_drew ?_ | refine blk_alloc ?_ _)); refine blk_far ?_ NB646_660.out _; (with_reducible repeat (first | refine blk_drewN ?_ _ | refine blk_drew ?_ | refine blk_alloc ?_ _)); refine blk_far ?_ NB646_660.out _; (with_reducible repeat (first | refine blk_drewN ?_ _ | refine blk_drew ?_ | refine blk_alloc ?_ _)); refine blk_far ?_ NB646_660.out _; (with_reducible repeat (first | refine blk_drewN ?_ _ | refine blk_drew ?_ | refine blk_alloc ?_ _)); exact BK646.out⟩, ⟨by repeat (first | (with_reducible first | exact HB.out | apply below_alloc | apply pw_below_drewN | apply below_drew1 | refine below_set ?_ GE646.out | refine below_set ?_ GE660.out) | exact HB.out)⟩⟩
        ·as_aux_lemma =>
         rw [if_neg c47] at H
         exact absurd H (by simp)
       ·as_aux_lemma =>
        rw [if_neg c46] at H
        have c46b0 : decide (x12_2 < (l2.length : Int)) = false := decide_eq_false c46
        clear c46
        have hend := Aside0.mk (Option.some.inj H)
        clear H
        go_wp2
        go_ret
        exact ⟨by first | rfl | (rw [hend.out]; done) | (simp only [hend.out]; done) | (simp [*]; first | exact hend.out | exact eq_of_beq hend.out | exact of_decide_eq_true hend.out) | (have h_ := hend.out; simp_all; done) | (simp [*, errW_none, errW_some] <;> rfl), by repeat (first | (with_reducible first | exact HB.out | apply below_alloc | apply pw_below_drewN | apply below_drew1 | refine below_set ?_ GE646.out) | exact HB.out)⟩
    ·as_aux_lemma =>
     rw [if_neg c42] at H
     have c42b0 : (t651 == 0) = false := beq_eq_false_iff_ne.mpr c42
     have c42b1 : (t651 != 0) = true := bne_iff_ne.mpr c42
     exact absurd H (by simp)

end Go.Proofs.Ytelmcaenemjppaa.Q
