-- Written by qprint.py (a program of this session) over the program of the kit that prints contracts. Not trusted: Lean checks it.
import Derived.Test.YtelmcaenemjppaaQ0
import Derived.Test.YtelmcaenemjppaaQ4
import Derived.Test.YtelmcaenemjppaaQ8
import Derived.Test.YtelmcaenemjppaaQ11
import Derived.Test.YtelmcaenemjppaaQ18
namespace Go.Proofs.Ytelmcaenemjppaa.Q
open Go.RowKit Go.Proofs.YtelmcaenemjppaaW.PrintWords Go.Proofs.YtelmcaenemjppaaW.PrintLast Go.Proofs.YtelmcaenemjppaaW.PrintMore
attribute [local go_sem] max2_int min2_int max_two min_two max_three min_three max_four min_four   -- for this text's walks alone
set_option linter.unusedVariables false
set_option linter.unusedSimpArgs false

/-! ### fringelaw42_QueueShares: function 4 -/
mutual
def fringelaw42_QueueShares.j0 : Nat → Int → Int → Int → Bool → Bool → List (S42) → Int → Int → Option (Bool)
 | 0, _, _, _, _, _, _, _, _ => none
 | k + 1, x1, x2, x3, x9, x60, x289000, x289001, x289002 => if x60 = true then (some x9) else ((queue_Serve.f k x289000 x289001 x289002 x3).bind fun bt292 => (if bt292.2.2.2.2 = 0 then ((fringeref42_Check.f k bt292.1 bt292.2.1 bt292.2.2.1).bind fun t302 => (if t302 = 0 then (if (bt292.1.length : Int) = (x289000.length : Int) then (fringelaw42_QueueShares.j1 k x1 x2 x9 bt292.2.2.2.1 (decide ((bt292.2.2.2.1.length : Int) > x3)) x289000 x289001 x289002 bt292.1 bt292.2.1 bt292.2.2.1) else (fringelaw42_QueueShares.j1 k x1 x2 x9 bt292.2.2.2.1 true x289000 x289001 x289002 bt292.1 bt292.2.1 bt292.2.2.1)) else (fringelaw42_QueueShares.j1 k x1 x2 x9 bt292.2.2.2.1 true x289000 x289001 x289002 bt292.1 bt292.2.1 bt292.2.2.1))) else (if x9 = true then (some (bt292.2.2.2.2 == 16)) else (some false))))
def fringelaw42_QueueShares.j1 : Nat → Int → Int → Bool → List Int → Bool → List (S42) → Int → Int → List (S42) → Int → Int → Option (Bool)
 | 0, _, _, _, _, _, _, _, _, _, _, _ => none
 | k + 1, x1, x2, x9, x11, x93, x289000, x289001, x289002, x302000, x302001, x302002 => if x93 = true then (some false) else (if 0 ≤ x1 then (if x1 < (x302000.length : Int) then (if ((rd_T42 x302000 x1).f3) = 0 then (fringelaw42_QueueShares.j2 k x1 x2 x9 x11 true x289000 x289001 x289002 x302000 x302001 x302002) else (if 0 ≤ x2 then (if x2 < (x302000.length : Int) then (fringelaw42_QueueShares.j2 k x1 x2 x9 x11 (((rd_T42 x302000 x2).f3) == 0) x289000 x289001 x289002 x302000 x302001 x302002) else (none)) else (none))) else (none)) else (none))
def fringelaw42_QueueShares.j2 : Nat → Int → Int → Bool → List Int → Bool → List (S42) → Int → Int → List (S42) → Int → Int → Option (Bool)
 | 0, _, _, _, _, _, _, _, _, _, _, _ => none
 | k + 1, x1, x2, x9, x11, x109, x289000, x289001, x289002, x302000, x302001, x302002 => if x109 = true then (some x9) else (fringelaw42_QueueShares.l0 k x1 x2 x9 x11 0 0 0 x289000 x289001 x289002 x302000 x302001 x302002)
def fringelaw42_QueueShares.l0 : Nat → Int → Int → Bool → List Int → Int → Int → Int → List (S42) → Int → Int → List (S42) → Int → Int → Option (Bool)
 | 0, _, _, _, _, _, _, _, _, _, _, _, _, _ => none
 | k + 1, x1, x2, x9, x11, x13, x14, x15, x289000, x289001, x289002, x302000, x302001, x302002 => if x15 < (x11.length : Int) then (if 0 ≤ x15 then (if (rd x11 x15) = x1 then (if (rd x11 x15) = x2 then (fringelaw42_QueueShares.l0 k x1 x2 x9 x11 (wrap64 (x13 + 1)) (wrap64 (x14 + 1)) (wrap64 (x15 + 1)) x289000 x289001 x289002 x302000 x302001 x302002) else (fringelaw42_QueueShares.l0 k x1 x2 x9 x11 (wrap64 (x13 + 1)) x14 (wrap64 (x15 + 1)) x289000 x289001 x289002 x302000 x302001 x302002)) else (if (rd x11 x15) = x2 then (fringelaw42_QueueShares.l0 k x1 x2 x9 x11 x13 (wrap64 (x14 + 1)) (wrap64 (x15 + 1)) x289000 x289001 x289002 x302000 x302001 x302002) else (fringelaw42_QueueShares.l0 k x1 x2 x9 x11 x13 x14 (wrap64 (x15 + 1)) x289000 x289001 x289002 x302000 x302001 x302002))) else (none)) else (if 0 ≤ x1 then (if x1 < (x289000.length : Int) then (if 0 ≤ x2 then (if x2 < (x289000.length : Int) then (if x9 = true then (if (mx (wrap64 ((wrap64 (x13 * ((rd_T42 x289000 x2).f1))) - (wrap64 (x14 * ((rd_T42 x289000 x1).f1))))) (wrap64 (-(wrap64 ((wrap64 (x13 * ((rd_T42 x289000 x2).f1))) - (wrap64 (x14 * ((rd_T42 x289000 x1).f1)))))))) ≤ (wrap64 (((rd_T42 x289000 x1).f1) + ((rd_T42 x289000 x2).f1))) then (if x1 < (x302000.length : Int) then (if ((rd_T42 x302000 x1).f2) = (wrap64 (((rd_T42 x289000 x1).f2) + x13)) then (some (((rd_T42 x302000 x1).f3) == (wrap64 (((rd_T42 x289000 x1).f3) - x13)))) else (some false)) else (none)) else (some false)) else (some false)) else (none)) else (none)) else (none)) else (none))
end
def fringelaw42_QueueShares.f (k : Nat) (l0_0 : List (S42)) (a0_1 : Int) (a0_2 : Int) (a1 : Int) (a2 : Int) (a3 : Int) : Option (Bool) := (fringelaw42_alive.f k).bind fun t289 => ((fringeref42_Great.f k l0_0 a0_1 a0_2).bind fun t290 => (if t290 = true then (fringelaw42_QueueShares.j0 k a1 a2 a3 t289 true l0_0 a0_1 a0_2) else ((fringeref42_Check.f k l0_0 a0_1 a0_2).bind fun t291 => (if t291 = 0 then (if a1 < 0 then (fringelaw42_QueueShares.j0 k a1 a2 a3 t289 true l0_0 a0_1 a0_2) else (if a1 ≥ (l0_0.length : Int) then (fringelaw42_QueueShares.j0 k a1 a2 a3 t289 true l0_0 a0_1 a0_2) else (if a2 < 0 then (fringelaw42_QueueShares.j0 k a1 a2 a3 t289 true l0_0 a0_1 a0_2) else (if a2 ≥ (l0_0.length : Int) then (fringelaw42_QueueShares.j0 k a1 a2 a3 t289 true l0_0 a0_1 a0_2) else (if a3 < 0 then (fringelaw42_QueueShares.j0 k a1 a2 a3 t289 true l0_0 a0_1 a0_2) else (if a3 > 200 then (fringelaw42_QueueShares.j0 k a1 a2 a3 t289 true l0_0 a0_1 a0_2) else (fringelaw42_QueueShares.j0 k a1 a2 a3 t289 (!t289) l0_0 a0_1 a0_2))))))) else (fringelaw42_QueueShares.j0 k a1 a2 a3 t289 true l0_0 a0_1 a0_2)))))
theorem fringelaw42_QueueShares.mono_l : ∀ k, (∀ y0 y1 y2 y3 y4 y5 y6 y7, LeO (fringelaw42_QueueShares.j0 k y0 y1 y2 y3 y4 y5 y6 y7) (fringelaw42_QueueShares.j0 (k + 1) y0 y1 y2 y3 y4 y5 y6 y7)) ∧ (∀ y0 y1 y2 y3 y4 y5 y6 y7 y8 y9 y10, LeO (fringelaw42_QueueShares.j1 k y0 y1 y2 y3 y4 y5 y6 y7 y8 y9 y10) (fringelaw42_QueueShares.j1 (k + 1) y0 y1 y2 y3 y4 y5 y6 y7 y8 y9 y10)) ∧ (∀ y0 y1 y2 y3 y4 y5 y6 y7 y8 y9 y10, LeO (fringelaw42_QueueShares.j2 k y0 y1 y2 y3 y4 y5 y6 y7 y8 y9 y10) (fringelaw42_QueueShares.j2 (k + 1) y0 y1 y2 y3 y4 y5 y6 y7 y8 y9 y10)) ∧ (∀ y0 y1 y2 y3 y4 y5 y6 y7 y8 y9 y10 y11 y12, LeO (fringelaw42_QueueShares.l0 k y0 y1 y2 y3 y4 y5 y6 y7 y8 y9 y10 y11 y12) (fringelaw42_QueueShares.l0 (k + 1) y0 y1 y2 y3 y4 y5 y6 y7 y8 y9 y10 y11 y12))
 | 0 => ⟨fun _ _ _ _ _ _ _ _ r h => by simp [fringelaw42_QueueShares.j0] at h, fun _ _ _ _ _ _ _ _ _ _ _ r h => by simp [fringelaw42_QueueShares.j1] at h, fun _ _ _ _ _ _ _ _ _ _ _ r h => by simp [fringelaw42_QueueShares.j2] at h, fun _ _ _ _ _ _ _ _ _ _ _ _ _ r h => by simp [fringelaw42_QueueShares.l0] at h⟩
 | k + 1 => by
  obtain ⟨ih0, ih1, ih2, ih3⟩ := fringelaw42_QueueShares.mono_l k
  refine ⟨?_, ?_, ?_, ?_⟩
  ·intro y0 y1 y2 y3 y4 y5 y6 y7
   unfold fringelaw42_QueueShares.j0
   repeat' first
   | (with_reducible exact ih0 _ _ _ _ _ _ _ _)
   | (with_reducible exact ih1 _ _ _ _ _ _ _ _ _ _ _)
   | (with_reducible exact ih2 _ _ _ _ _ _ _ _ _ _ _)
   | (with_reducible exact ih3 _ _ _ _ _ _ _ _ _ _ _ _ _)
   | (with_reducible exact fringelaw42_alive.mono _)
   | (with_reducible exact fringeref42_Check.mono _ _ _ _)
   | (with_reducible exact fringeref42_Great.mono _ _ _ _)
   | (with_reducible exact queue_Serve.mono _ _ _ _ _)
   | (with_reducible exact LeO.refl _)
   | (with_reducible exact LeO.none _)
   | (with_reducible refine LeO.ite ?_ ?_)
   | (with_reducible refine LeO.bind ?_ (fun _ => ?_))
   | exact ih0 _ _ _ _ _ _ _ _
   | exact ih1 _ _ _ _ _ _ _ _ _ _ _
   | exact ih2 _ _ _ _ _ _ _ _ _ _ _
   | exact ih3 _ _ _ _ _ _ _ _ _ _ _ _ _
   | exact fringelaw42_alive.mono _
   | exact fringeref42_Check.mono _ _ _ _
   | exact fringeref42_Great.mono _ _ _ _
   | exact queue_Serve.mono _ _ _ _ _
   | exact LeO.none _
   | refine LeO.ite ?_ ?_
   | refine LeO.bind ?_ (fun _ => ?_)
  ·intro y0 y1 y2 y3 y4 y5 y6 y7 y8 y9 y10
   unfold fringelaw42_QueueShares.j1
   repeat' first
   | (with_reducible exact ih0 _ _ _ _ _ _ _ _)
   | (with_reducible exact ih1 _ _ _ _ _ _ _ _ _ _ _)
   | (with_reducible exact ih2 _ _ _ _ _ _ _ _ _ _ _)
   | (with_reducible exact ih3 _ _ _ _ _ _ _ _ _ _ _ _ _)
   | (with_reducible exact fringelaw42_alive.mono _)
   | (with_reducible exact fringeref42_Check.mono _ _ _ _)
   | (with_reducible exact fringeref42_Great.mono _ _ _ _)
   | (with_reducible exact queue_Serve.mono _ _ _ _ _)
   | (with_reducible exact LeO.refl _)
   | (with_reducible exact LeO.none _)
   | (with_reducible refine LeO.ite ?_ ?_)
   | (with_reducible refine LeO.bind ?_ (fun _ => ?_))
   | exact ih0 _ _ _ _ _ _ _ _
   | exact ih1 _ _ _ _ _ _ _ _ _ _ _
   | exact ih2 _ _ _ _ _ _ _ _ _ _ _
   | exact ih3 _ _ _ _ _ _ _ _ _ _ _ _ _
   | exact fringelaw42_alive.mono _
   | exact fringeref42_Check.mono _ _ _ _
   | exact fringeref42_Great.mono _ _ _ _
   | exact queue_Serve.mono _ _ _ _ _
   | exact LeO.none _
   | refine LeO.ite ?_ ?_
   | refine LeO.bind ?_ (fun _ => ?_)
  ·intro y0 y1 y2 y3 y4 y5 y6 y7 y8 y9 y10
   unfold fringelaw42_QueueShares.j2
   repeat' first
   | (with_reducible exact ih0 _ _ _ _ _ _ _ _)
   | (with_reducible exact ih1 _ _ _ _ _ _ _ _ _ _ _)
   | (with_reducible exact ih2 _ _ _ _ _ _ _ _ _ _ _)
   | (with_reducible exact ih3 _ _ _ _ _ _ _ _ _ _ _ _ _)
   | (with_reducible exact fringelaw42_alive.mono _)
   | (with_reducible exact fringeref42_Check.mono _ _ _ _)
   | (with_reducible exact fringeref42_Great.mono _ _ _ _)
   | (with_reducible exact queue_Serve.mono _ _ _ _ _)
   | (with_reducible exact LeO.refl _)
   | (with_reducible exact LeO.none _)
   | (with_reducible refine LeO.ite ?_ ?_)
   | (with_reducible refine LeO.bind ?_ (fun _ => ?_))
   | exact ih0 _ _ _ _ _ _ _ _
   | exact ih1 _ _ _ _ _ _ _ _ _ _ _
   | exact ih2 _ _ _ _ _ _ _ _ _ _ _
   | exact ih3 _ _ _ _ _ _ _ _ _ _ _ _ _
   | exact fringelaw42_alive.mono _
   | exact fringeref42_Check.mono _ _ _ _
   | exact fringeref42_Great.mono _ _ _ _
   | exact queue_Serve.mono _ _ _ _ _
   | exact LeO.none _
   | refine LeO.ite ?_ ?_
   | refine LeO.bind ?_ (fun _ => ?_)
  ·intro y0 y1 y2 y3 y4 y5 y6 y7 y8 y9 y10 y11 y12
   unfold fringelaw42_QueueShares.l0
   repeat' first
   | (with_reducible exact ih0 _ _ _ _ _ _ _ _)
   | (with_reducible exact ih1 _ _ _ _ _ _ _ _ _ _ _)
   | (with_reducible exact ih2 _ _ _ _ _ _ _ _ _ _ _)
   | (with_reducible exact ih3 _ _ _ _ _ _ _ _ _ _ _ _ _)
   | (with_reducible exact fringelaw42_alive.mono _)
   | (with_reducible exact fringeref42_Check.mono _ _ _ _)
   | (with_reducible exact fringeref42_Great.mono _ _ _ _)
   | (with_reducible exact queue_Serve.mono _ _ _ _ _)
   | (with_reducible exact LeO.refl _)
   | (with_reducible exact LeO.none _)
   | (with_reducible refine LeO.ite ?_ ?_)
   | (with_reducible refine LeO.bind ?_ (fun _ => ?_))
   | exact ih0 _ _ _ _ _ _ _ _
   | exact ih1 _ _ _ _ _ _ _ _ _ _ _
   | exact ih2 _ _ _ _ _ _ _ _ _ _ _
   | exact ih3 _ _ _ _ _ _ _ _ _ _ _ _ _
   | exact fringelaw42_alive.mono _
   | exact fringeref42_Check.mono _ _ _ _
   | exact fringeref42_Great.mono _ _ _ _
   | exact queue_Serve.mono _ _ _ _ _
   | exact LeO.none _
   | refine LeO.ite ?_ ?_
   | refine LeO.bind ?_ (fun _ => ?_)
theorem fringelaw42_QueueShares.mono : ∀ a0 a1 a2 a3 a4 a5 k, LeO (fringelaw42_QueueShares.f k a0 a1 a2 a3 a4 a5) (fringelaw42_QueueShares.f (k + 1) a0 a1 a2 a3 a4 a5) := by
 intro a0 a1 a2 a3 a4 a5 k
 obtain ⟨ih0, ih1, ih2, ih3⟩ := fringelaw42_QueueShares.mono_l k
 unfold fringelaw42_QueueShares.f
 repeat' first
   | (with_reducible exact ih0 _ _ _ _ _ _ _ _)
   | (with_reducible exact ih1 _ _ _ _ _ _ _ _ _ _ _)
   | (with_reducible exact ih2 _ _ _ _ _ _ _ _ _ _ _)
   | (with_reducible exact ih3 _ _ _ _ _ _ _ _ _ _ _ _ _)
   | (with_reducible exact fringelaw42_alive.mono _)
   | (with_reducible exact fringeref42_Check.mono _ _ _ _)
   | (with_reducible exact fringeref42_Great.mono _ _ _ _)
   | (with_reducible exact queue_Serve.mono _ _ _ _ _)
   | (with_reducible exact LeO.refl _)
   | (with_reducible exact LeO.none _)
   | (with_reducible refine LeO.ite ?_ ?_)
   | (with_reducible refine LeO.bind ?_ (fun _ => ?_))
   | exact ih0 _ _ _ _ _ _ _ _
   | exact ih1 _ _ _ _ _ _ _ _ _ _ _
   | exact ih2 _ _ _ _ _ _ _ _ _ _ _
   | exact ih3 _ _ _ _ _ _ _ _ _ _ _ _ _
   | exact fringelaw42_alive.mono _
   | exact fringeref42_Check.mono _ _ _ _
   | exact fringeref42_Great.mono _ _ _ _
   | exact queue_Serve.mono _ _ _ _ _
   | exact LeO.none _
   | refine LeO.ite ?_ ?_
   | refine LeO.bind ?_ (fun _ => ?_)
set_option maxHeartbeats 8000000 in
set_option maxRecDepth 100000 in
theorem fringelaw42_QueueShares.calls (k : Nat) (A0_0 : Option Addr) (c0_0 : Nat) (l0_0 : List (S42)) (a0_1 : Int) (a0_2 : Int) (a1 : Int) (a2 : Int) (a3 : Int) (w : World) (hr0_0 : Kd.C k42 w A0_0 l0_0.length l0_0) (hc0_0 : l0_0.length ≤ c0_0) (h : fringelaw42_QueueShares.f k l0_0 a0_1 a0_2 a1 a2 a3 = some true) :
  Calls Try.prog 4 #[.agg #[.slice A0_0 l0_0.length c0_0, .int .i64 a0_1, .int .i64 a0_2], .int .i64 a1, .int .i64 a2, .int .i64 a3] w fun e w' => e = .returned (.bool true) ∧ Below w.heap.size w w' := by
 have hu24 := Try.underlying24
 have HR0_0 := Aside0.mk hr0_0
 have HC0_0 := Aside0.mk hc0_0
 clear hr0_0 hc0_0
 have HB := Aside0.mk (Below.refl w.heap.size w)
 have H : ((fringelaw42_alive.f k).bind fun t289 => ((fringeref42_Great.f k l0_0 a0_1 a0_2).bind fun t290 => (if t290 = true then (fringelaw42_QueueShares.j0 k a1 a2 a3 t289 true l0_0 a0_1 a0_2) else ((fringeref42_Check.f k l0_0 a0_1 a0_2).bind fun t291 => (if t291 = 0 then (if a1 < 0 then (fringelaw42_QueueShares.j0 k a1 a2 a3 t289 true l0_0 a0_1 a0_2) else (if a1 ≥ (l0_0.length : Int) then (fringelaw42_QueueShares.j0 k a1 a2 a3 t289 true l0_0 a0_1 a0_2) else (if a2 < 0 then (fringelaw42_QueueShares.j0 k a1 a2 a3 t289 true l0_0 a0_1 a0_2) else (if a2 ≥ (l0_0.length : Int) then (fringelaw42_QueueShares.j0 k a1 a2 a3 t289 true l0_0 a0_1 a0_2) else (if a3 < 0 then (fringelaw42_QueueShares.j0 k a1 a2 a3 t289 true l0_0 a0_1 a0_2) else (if a3 > 200 then (fringelaw42_QueueShares.j0 k a1 a2 a3 t289 true l0_0 a0_1 a0_2) else (fringelaw42_QueueShares.j0 k a1 a2 a3 t289 (!t289) l0_0 a0_1 a0_2))))))) else (fringelaw42_QueueShares.j0 k a1 a2 a3 t289 true l0_0 a0_1 a0_2)))))) = some true := h
 clear h
 replace H := Option.bind_eq_some_iff.mp H
 obtain ⟨t289, A50, H⟩ := H
 (try dsimp only at H)
 have A5 := Aside0.mk A50
 clear A50
 have HC6 := Aside0.mk H
 clear H
 go_enter Try.func4, Try.ntmps4
 go_upto_region 2 with (first | ((with_reducible refine gate_dst (N := 4) rfl ?_); (try (refine gate_guard (by rfl) ?_; dsimp only)); refine box_event ?hg (N := 4) ?hd (cs := #[.slice A0_0 l0_0.length c0_0, .int .i64 a0_1, .int .i64 a0_2]) (t := 24) ?hr ?_; (case hd => rfl); (case hg => rfl); (case hr => first | (go_simp; done) | (go_simp; rfl)); intro gb288 hg w7 hbox hb; have n0_ := Aside0.mk (below_step (by repeat (first | (with_reducible first | exact HB.out | apply below_alloc | apply pw_below_drewN | apply below_drew1) | exact HB.out)) hb); have n1_ := Aside0.mk (hbox); have n2_ := Aside0.mk ((by rw [hg]; exact (below_size (by repeat (first | (with_reducible first | exact HB.out | apply below_alloc | apply pw_below_drewN | apply below_drew1) | exact HB.out))) : w.heap.size ≤ gb288)); have n3_ := Aside0.mk ((by rw [hg]; exact (below_size (by repeat (first | (with_reducible first | exact HB.out | apply below_alloc | apply pw_below_drewN | apply below_drew1) | exact HB.out))) : w.heap.size ≤ gb288)); clear HB; have HB := n0_; have BK288 := n1_; have GW288 := n2_; have GE288 := n3_; clear n0_ n1_ n2_ n3_; clear hb hbox hg) | (go_at_call 21; (with_reducible refine (fringelaw42_alive.calls k  t289 _ A5.out).mono ?_); rintro e w8 ⟨rfl, hb⟩; have n0_ := Aside0.mk (blk_below (g := gb288) (o := .cells #[.slice A0_0 l0_0.length c0_0, .int .i64 a0_1, .int .i64 a0_2] 24 (0, 0)) (by (with_reducible repeat (first | refine blk_drewN ?_ _ | refine blk_drew ?_ | refine blk_alloc ?_ _)); exact BK288.out) hb); have n1_ := Aside0.mk (below_step (by repeat (first | (with_reducible first | exact HB.out | apply below_alloc | apply pw_below_drewN | apply below_drew1 | refine below_set ?_ GE288.out) | exact HB.out)) hb); clear BK288; clear HB; have BK288 := n0_; have HB := n1_; clear n0_ n1_; (try clear hb); (try clear hb2); (try clear hk); (try clear hi)))
 repeat (go_quiet (fail); go_upto_region 2 with (first | ((with_reducible refine gate_dst (N := 4) rfl ?_); (try (refine gate_guard (by rfl) ?_; dsimp only)); refine box_event ?hg (N := 4) ?hd (cs := #[.slice A0_0 l0_0.length c0_0, .int .i64 a0_1, .int .i64 a0_2]) (t := 24) ?hr ?_; (case hd => rfl); (case hg => rfl); (case hr => first | (go_simp; done) | (go_simp; rfl)); intro gb288 hg w7 hbox hb; have n0_ := Aside0.mk (below_step (by repeat (first | (with_reducible first | exact HB.out | apply below_alloc | apply pw_below_drewN | apply below_drew1) | exact HB.out)) hb); have n1_ := Aside0.mk (hbox); have n2_ := Aside0.mk ((by rw [hg]; exact (below_size (by repeat (first | (with_reducible first | exact HB.out | apply below_alloc | apply pw_below_drewN | apply below_drew1) | exact HB.out))) : w.heap.size ≤ gb288)); have n3_ := Aside0.mk ((by rw [hg]; exact (below_size (by repeat (first | (with_reducible first | exact HB.out | apply below_alloc | apply pw_below_drewN | apply below_drew1) | exact HB.out))) : w.heap.size ≤ gb288)); clear HB; have HB := n0_; have BK288 := n1_; have GW288 := n2_; have GE288 := n3_; clear n0_ n1_ n2_ n3_; clear hb hbox hg) | (go_at_call 21; (with_reducible refine (fringelaw42_alive.calls k  t289 _ A5.out).mono ?_); rintro e w8 ⟨rfl, hb⟩; have n0_ := Aside0.mk (blk_below (g := gb288) (o := .cells #[.slice A0_0 l0_0.length c0_0, .int .i64 a0_1, .int .i64 a0_2] 24 (0, 0)) (by (with_reducible repeat (first | refine blk_drewN ?_ _ | refine blk_drew ?_ | refine blk_alloc ?_ _)); exact BK288.out) hb); have n1_ := Aside0.mk (below_step (by repeat (first | (with_reducible first | exact HB.out | apply below_alloc | apply pw_below_drewN | apply below_drew1 | refine below_set ?_ GE288.out) | exact HB.out)) hb); clear BK288; clear HB; have BK288 := n0_; have HB := n1_; clear n0_ n1_; (try clear hb); (try clear hb2); (try clear hk); (try clear hi))))
 (try simp only [Act.put, List.setIfInBounds_toArray, List.set_cons_zero, List.set_cons_succ])
 go_cut [60] (fun v60 wc => ∃ (kq : Nat) (x60_5 : Bool), v60 = .bool x60_5 ∧ Aside0 (fringelaw42_QueueShares.j0 kq a1 a2 a3 t289 x60_5 l0_0 a0_1 a0_2 = some true) ∧ Aside0 (kq ≤ k) ∧ Aside0 (wc.heap[gb288]? = some (.cells #[(.slice A0_0 l0_0.length c0_0), .int .i64 a0_1, .int .i64 a0_2] 24 (0, 0))) ∧ Aside0 (Below w.heap.size w wc))
 case first =>
  as_aux_lemma =>
  have H := HC6.out
  clear HC6
  replace H := Option.bind_eq_some_iff.mp H
  obtain ⟨t290, A90, H⟩ := H
  (try dsimp only at H)
  have A9 := Aside0.mk A90
  clear A90
  by_cases c10 : t290 = true
  ·as_aux_lemma =>
   subst c10
   rw [if_pos rfl] at H
   have H' := Aside0.mk H
   clear H
   have hcz11_0 : w8.cell? ⟨gb288, 0, none⟩ = some (.slice A0_0 l0_0.length c0_0) := (blk_cell BK288.out 0).trans rfl
   have hcz11_1 : w8.cell? ⟨gb288, 1, none⟩ = some (.int .i64 a0_1) := (blk_cell BK288.out 1).trans rfl
   have hcz11_2 : w8.cell? ⟨gb288, 2, none⟩ = some (.int .i64 a0_2) := (blk_cell BK288.out 2).trans rfl
   have hfz11_0 := blk_frozen BK288.out 0
   have hfz11_1 := blk_frozen BK288.out 1
   have hfz11_2 := blk_frozen BK288.out 2
   go_wp2_with (first |  (go_at_call 14; (with_reducible refine (fringeref42_Great.calls k _ _ l0_0 a0_1 a0_2 true _ ?side1 ?side2 A9.out).mono ?_); (case side1 => repeat (first | exact (Kd.C_below HR0_0.out HB.out) | (with_reducible refine Kd.C_alloc ?_ _) | (with_reducible refine Kd.C_drewN ?_ _) | (with_reducible refine Kd.C_drew ?_))); (case side2 => exact HC0_0.out); rintro e w12 ⟨rfl, hb⟩; have n0_ := Aside0.mk (blk_below (g := gb288) (o := .cells #[.slice A0_0 l0_0.length c0_0, .int .i64 a0_1, .int .i64 a0_2] 24 (0, 0)) (by (with_reducible repeat (first | refine blk_drewN ?_ _ | refine blk_drew ?_ | refine blk_alloc ?_ _)); exact BK288.out) hb); have n1_ := Aside0.mk (below_step (by repeat (first | (with_reducible first | exact HB.out | apply below_alloc | apply pw_below_drewN | apply below_drew1 | refine below_set ?_ GE288.out) | exact HB.out)) hb); clear BK288; clear HB; have BK288 := n0_; have HB := n1_; clear n0_ n1_; (try clear hb); (try clear hb2); (try clear hk); (try clear hi)) | go_values | go_skip | go_guarded | go_step | go_upon | go_back | (simp only [Int.not_lt, Int.not_le] at *; go_simp) | (go_values <;> (try go_simp)) | (go_ite <;> go_prune <;> (try go_simp)) | (split <;> (first | (rename_i hx; exact (hx _ rfl).elim) | go_prune)) | go_quiet (fail))
   go_meet
   case rel => exact ⟨_, (true), (by first | rfl | (simp; done) | (simp [*]; done)), H', ⟨by first | omega | exact Nat.le_refl _⟩, ⟨by (with_reducible repeat (first | refine blk_drewN ?_ _ | refine blk_drew ?_ | refine blk_alloc ?_ _)); exact BK288.out⟩, ⟨by repeat (first | (with_reducible first | exact HB.out | apply below_alloc | apply pw_below_drewN | apply below_drew1 | refine below_set ?_ GE288.out) | exact HB.out)⟩⟩
  ·as_aux_lemma =>
   replace c10 := Bool.eq_false_iff.mpr c10
   subst c10
   rw [if_neg (show ¬ (false = true) by decide)] at H
   replace H := Option.bind_eq_some_iff.mp H
   obtain ⟨t291, A130, H⟩ := H
   (try dsimp only at H)
   have A13 := Aside0.mk A130
   clear A130
   by_cases c14 : t291 = 0
   ·as_aux_lemma =>
    rw [if_pos c14] at H
    have c14b0 : (t291 == 0) = true := beq_iff_eq.mpr c14
    have c14b1 : (t291 != 0) = false := bne_eq_false_iff_eq.mpr c14
    clear c14
    (first | rw [c14b0] | (simp only [i64_w, i32_w]; rw [c14b0]) | skip)
    by_cases c15 : a1 < 0
    ·as_aux_lemma =>
     rw [if_pos c15] at H
     have c15b0 : decide (a1 < 0) = true := decide_eq_true c15
     clear c15
     have H' := Aside0.mk H
     clear H
     have hcz16_0 : w8.cell? ⟨gb288, 0, none⟩ = some (.slice A0_0 l0_0.length c0_0) := (blk_cell BK288.out 0).trans rfl
     have hcz16_1 : w8.cell? ⟨gb288, 1, none⟩ = some (.int .i64 a0_1) := (blk_cell BK288.out 1).trans rfl
     have hcz16_2 : w8.cell? ⟨gb288, 2, none⟩ = some (.int .i64 a0_2) := (blk_cell BK288.out 2).trans rfl
     have hfz16_0 := blk_frozen BK288.out 0
     have hfz16_1 := blk_frozen BK288.out 1
     have hfz16_2 := blk_frozen BK288.out 2
     go_wp2_with (first |  (go_at_call 14; (with_reducible refine (fringeref42_Great.calls k _ _ l0_0 a0_1 a0_2 false _ ?side1 ?side2 A9.out).mono ?_); (case side1 => repeat (first | exact (Kd.C_below HR0_0.out HB.out) | (with_reducible refine Kd.C_alloc ?_ _) | (with_reducible refine Kd.C_drewN ?_ _) | (with_reducible refine Kd.C_drew ?_))); (case side2 => exact HC0_0.out); rintro e w17 ⟨rfl, hb⟩; have n0_ := Aside0.mk (blk_below (g := gb288) (o := .cells #[.slice A0_0 l0_0.length c0_0, .int .i64 a0_1, .int .i64 a0_2] 24 (0, 0)) (by (with_reducible repeat (first | refine blk_drewN ?_ _ | refine blk_drew ?_ | refine blk_alloc ?_ _)); exact BK288.out) hb); have n1_ := Aside0.mk (below_step (by repeat (first | (with_reducible first | exact HB.out | apply below_alloc | apply pw_below_drewN | apply below_drew1 | refine below_set ?_ GE288.out) | exact HB.out)) hb); clear BK288; clear HB; have BK288 := n0_; have HB := n1_; clear n0_ n1_; (try clear hb); (try clear hb2); (try clear hk); (try clear hi); have hcz18_0 : w17.cell? ⟨gb288, 0, none⟩ = some (.slice A0_0 l0_0.length c0_0) := (blk_cell BK288.out 0).trans rfl; have hcz18_1 : w17.cell? ⟨gb288, 1, none⟩ = some (.int .i64 a0_1) := (blk_cell BK288.out 1).trans rfl; have hcz18_2 : w17.cell? ⟨gb288, 2, none⟩ = some (.int .i64 a0_2) := (blk_cell BK288.out 2).trans rfl; have hfz18_0 := blk_frozen BK288.out 0; have hfz18_1 := blk_frozen BK288.out 1; have hfz18_2 := blk_frozen BK288.out 2) | (go_at_call 22; (with_reducible refine (fringeref42_Check.calls k _ _ l0_0 a0_1 a0_2 t291 _ ?side1 ?side2 A13.out).mono ?_); (case side1 => repeat (first | exact (Kd.C_below HR0_0.out HB.out) | (with_reducible refine Kd.C_alloc ?_ _) | (with_reducible refine Kd.C_drewN ?_ _) | (with_reducible refine Kd.C_drew ?_))); (case side2 => exact HC0_0.out); rintro e w19 ⟨rfl, hb⟩; have n0_ := Aside0.mk (blk_below (g := gb288) (o := .cells #[.slice A0_0 l0_0.length c0_0, .int .i64 a0_1, .int .i64 a0_2] 24 (0, 0)) (by (with_reducible repeat (first | refine blk_drewN ?_ _ | refine blk_drew ?_ | refine blk_alloc ?_ _)); exact BK288.out) hb); have n1_ := Aside0.mk (below_step (by repeat (first | (with_reducible first | exact HB.out | apply below_alloc | apply pw_below_drewN | apply below_drew1 | refine below_set ?_ GE288.out) | exact HB.out)) hb); clear BK288; clear HB; have BK288 := n0_; have HB := n1_; clear n0_ n1_; (try clear hb); (try clear hb2); (try clear hk); (try clear hi)) | go_values | go_skip | go_guarded | go_step | go_upon | go_back | (simp only [Int.not_lt, Int.not_le] at *; go_simp) | (go_values <;> (try go_simp)) | (go_ite <;> go_prune <;> (try go_simp)) | (split <;> (first | (rename_i hx; exact (hx _ rfl).elim) | go_prune)) | go_quiet (fail))
     go_meet
     case rel => exact ⟨_, (true), (by first | rfl | (simp; done) | (simp [*]; done)), H', ⟨by first | omega | exact Nat.le_refl _⟩, ⟨by (with_reducible repeat (first | refine blk_drewN ?_ _ | refine blk_drew ?_ | refine blk_alloc ?_ _)); exact BK288.out⟩, ⟨by repeat (first | (with_reducible first | exact HB.out | apply below_alloc | apply pw_below_drewN | apply below_drew1 | refine below_set ?_ GE288.out) | exact HB.out)⟩⟩
    ·as_aux_lemma =>
     rw [if_neg c15] at H
     have c15b0 : decide (a1 < 0) = false := decide_eq_false c15
     clear c15
     by_cases c20 : a1 ≥ (l0_0.length : Int)
     ·as_aux_lemma =>
      rw [if_pos c20] at H
      have c20b0 : decide ((l0_0.length : Int) ≤ a1) = true := decide_eq_true c20
      clear c20
      have H' := Aside0.mk H
      clear H
      have hcz21_0 : w8.cell? ⟨gb288, 0, none⟩ = some (.slice A0_0 l0_0.length c0_0) := (blk_cell BK288.out 0).trans rfl
      have hcz21_1 : w8.cell? ⟨gb288, 1, none⟩ = some (.int .i64 a0_1) := (blk_cell BK288.out 1).trans rfl
      have hcz21_2 : w8.cell? ⟨gb288, 2, none⟩ = some (.int .i64 a0_2) := (blk_cell BK288.out 2).trans rfl
      have hfz21_0 := blk_frozen BK288.out 0
      have hfz21_1 := blk_frozen BK288.out 1
      have hfz21_2 := blk_frozen BK288.out 2
      go_wp2_with (first |  (go_at_call 14; (with_reducible refine (fringeref42_Great.calls k _ _ l0_0 a0_1 a0_2 false _ ?side1 ?side2 A9.out).mono ?_); (case side1 => repeat (first | exact (Kd.C_below HR0_0.out HB.out) | (with_reducible refine Kd.C_alloc ?_ _) | (with_reducible refine Kd.C_drewN ?_ _) | (with_reducible refine Kd.C_drew ?_))); (case side2 => exact HC0_0.out); rintro e w22 ⟨rfl, hb⟩; have n0_ := Aside0.mk (blk_below (g := gb288) (o := .cells #[.slice A0_0 l0_0.length c0_0, .int .i64 a0_1, .int .i64 a0_2] 24 (0, 0)) (by (with_reducible repeat (first | refine blk_drewN ?_ _ | refine blk_drew ?_ | refine blk_alloc ?_ _)); exact BK288.out) hb); have n1_ := Aside0.mk (below_step (by repeat (first | (with_reducible first | exact HB.out | apply below_alloc | apply pw_below_drewN | apply below_drew1 | refine below_set ?_ GE288.out) | exact HB.out)) hb); clear BK288; clear HB; have BK288 := n0_; have HB := n1_; clear n0_ n1_; (try clear hb); (try clear hb2); (try clear hk); (try clear hi); have hcz23_0 : w22.cell? ⟨gb288, 0, none⟩ = some (.slice A0_0 l0_0.length c0_0) := (blk_cell BK288.out 0).trans rfl; have hcz23_1 : w22.cell? ⟨gb288, 1, none⟩ = some (.int .i64 a0_1) := (blk_cell BK288.out 1).trans rfl; have hcz23_2 : w22.cell? ⟨gb288, 2, none⟩ = some (.int .i64 a0_2) := (blk_cell BK288.out 2).trans rfl; have hfz23_0 := blk_frozen BK288.out 0; have hfz23_1 := blk_frozen BK288.out 1; have hfz23_2 := blk_frozen BK288.out 2) | (go_at_call 22; (with_reducible refine (fringeref42_Check.calls k _ _ l0_0 a0_1 a0_2 t291 _ ?side1 ?side2 A13.out).mono ?_); (case side1 => repeat (first | exact (Kd.C_below HR0_0.out HB.out) | (with_reducible refine Kd.C_alloc ?_ _) | (with_reducible refine Kd.C_drewN ?_ _) | (with_reducible refine Kd.C_drew ?_))); (case side2 => exact HC0_0.out); rintro e w24 ⟨rfl, hb⟩; have n0_ := Aside0.mk (blk_below (g := gb288) (o := .cells #[.slice A0_0 l0_0.length c0_0, .int .i64 a0_1, .int .i64 a0_2] 24 (0, 0)) (by (with_reducible repeat (first | refine blk_drewN ?_ _ | refine blk_drew ?_ | refine blk_alloc ?_ _)); exact BK288.out) hb); have n1_ := Aside0.mk (below_step (by repeat (first | (with_reducible first | exact HB.out | apply below_alloc | apply pw_below_drewN | apply below_drew1 | refine below_set ?_ GE288.out) | exact HB.out)) hb); clear BK288; clear HB; have BK288 := n0_; have HB := n1_; clear n0_ n1_; (try clear hb); (try clear hb2); (try clear hk); (try clear hi); have hcz25_0 : w24.cell? ⟨gb288, 0, none⟩ = some (.slice A0_0 l0_0.length c0_0) := (blk_cell BK288.out 0).trans rfl; have hcz25_1 : w24.cell? ⟨gb288, 1, none⟩ = some (.int .i64 a0_1) := (blk_cell BK288.out 1).trans rfl; have hcz25_2 : w24.cell? ⟨gb288, 2, none⟩ = some (.int .i64 a0_2) := (blk_cell BK288.out 2).trans rfl; have hfz25_0 := blk_frozen BK288.out 0; have hfz25_1 := blk_frozen BK288.out 1; have hfz25_2 := blk_frozen BK288.out 2) | go_values | go_skip | go_guarded | go_step | go_upon | go_back | (simp only [Int.not_lt, Int.not_le] at *; go_simp) | (go_values <;> (try go_simp)) | (go_ite <;> go_prune <;> (try go_simp)) | (split <;> (first | (rename_i hx; exact (hx _ rfl).elim) | go_prune)) | go_quiet (fail))
      go_meet
      case rel => exact ⟨_, (true), (by first | rfl | (simp; done) | (simp [*]; done)), H', ⟨by first | omega | exact Nat.le_refl _⟩, ⟨by (with_reducible repeat (first | refine blk_drewN ?_ _ | refine blk_drew ?_ | refine blk_alloc ?_ _)); exact BK288.out⟩, ⟨by repeat (first | (with_reducible first | exact HB.out | apply below_alloc | apply pw_below_drewN | apply below_drew1 | refine below_set ?_ GE288.out) | exact HB.out)⟩⟩
     ·as_aux_lemma =>
      rw [if_neg c20] at H
      have c20b0 : decide ((l0_0.length : Int) ≤ a1) = false := decide_eq_false c20
      clear c20
      by_cases c26 : a2 < 0
      ·as_aux_lemma =>
       rw [if_pos c26] at H
       have c26b0 : decide (a2 < 0) = true := decide_eq_true c26
       clear c26
       have H' := Aside0.mk H
       clear H
       have hcz27_0 : w8.cell? ⟨gb288, 0, none⟩ = some (.slice A0_0 l0_0.length c0_0) := (blk_cell BK288.out 0).trans rfl
       have hcz27_1 : w8.cell? ⟨gb288, 1, none⟩ = some (.int .i64 a0_1) := (blk_cell BK288.out 1).trans rfl
       have hcz27_2 : w8.cell? ⟨gb288, 2, none⟩ = some (.int .i64 a0_2) := (blk_cell BK288.out 2).trans rfl
       have hfz27_0 := blk_frozen BK288.out 0
       have hfz27_1 := blk_frozen BK288.out 1
       have hfz27_2 := blk_frozen BK288.out 2
       go_wp2_with (first |  (go_at_call 14; (with_reducible refine (fringeref42_Great.calls k _ _ l0_0 a0_1 a0_2 false _ ?side1 ?side2 A9.out).mono ?_); (case side1 => repeat (first | exact (Kd.C_below HR0_0.out HB.out) | (with_reducible refine Kd.C_alloc ?_ _) | (with_reducible refine Kd.C_drewN ?_ _) | (with_reducible refine Kd.C_drew ?_))); (case side2 => exact HC0_0.out); rintro e w28 ⟨rfl, hb⟩; have n0_ := Aside0.mk (blk_below (g := gb288) (o := .cells #[.slice A0_0 l0_0.length c0_0, .int .i64 a0_1, .int .i64 a0_2] 24 (0, 0)) (by (with_reducible repeat (first | refine blk_drewN ?_ _ | refine blk_drew ?_ | refine blk_alloc ?_ _)); exact BK288.out) hb); have n1_ := Aside0.mk (below_step (by repeat (first | (with_reducible first | exact HB.out | apply below_alloc | apply pw_below_drewN | apply below_drew1 | refine below_set ?_ GE288.out) | exact HB.out)) hb); clear BK288; clear HB; have BK288 := n0_; have HB := n1_; clear n0_ n1_; (try clear hb); (try clear hb2); (try clear hk); (try clear hi); have hcz29_0 : w28.cell? ⟨gb288, 0, none⟩ = some (.slice A0_0 l0_0.length c0_0) := (blk_cell BK288.out 0).trans rfl; have hcz29_1 : w28.cell? ⟨gb288, 1, none⟩ = some (.int .i64 a0_1) := (blk_cell BK288.out 1).trans rfl; have hcz29_2 : w28.cell? ⟨gb288, 2, none⟩ = some (.int .i64 a0_2) := (blk_cell BK288.out 2).trans rfl; have hfz29_0 := blk_frozen BK288.out 0; have hfz29_1 := blk_frozen BK288.out 1; have hfz29_2 := blk_frozen BK288.out 2) | (go_at_call 22; (with_reducible refine (fringeref42_Check.calls k _ _ l0_0 a0_1 a0_2 t291 _ ?side1 ?side2 A13.out).mono ?_); (case side1 => repeat (first | exact (Kd.C_below HR0_0.out HB.out) | (with_reducible refine Kd.C_alloc ?_ _) | (with_reducible refine Kd.C_drewN ?_ _) | (with_reducible refine Kd.C_drew ?_))); (case side2 => exact HC0_0.out); rintro e w30 ⟨rfl, hb⟩; have n0_ := Aside0.mk (blk_below (g := gb288) (o := .cells #[.slice A0_0 l0_0.length c0_0, .int .i64 a0_1, .int .i64 a0_2] 24 (0, 0)) (by (with_reducible repeat (first | refine blk_drewN ?_ _ | refine blk_drew ?_ | refine blk_alloc ?_ _)); exact BK288.out) hb); have n1_ := Aside0.mk (below_step (by repeat (first | (with_reducible first | exact HB.out | apply below_alloc | apply pw_below_drewN | apply below_drew1 | refine below_set ?_ GE288.out) | exact HB.out)) hb); clear BK288; clear HB; have BK288 := n0_; have HB := n1_; clear n0_ n1_; (try clear hb); (try clear hb2); (try clear hk); (try clear hi); have hcz31_0 : w30.cell? ⟨gb288, 0, none⟩ = some (.slice A0_0 l0_0.length c0_0) := (blk_cell BK288.out 0).trans rfl; have hcz31_1 : w30.cell? ⟨gb288, 1, none⟩ = some (.int .i64 a0_1) := (blk_cell BK288.out 1).trans rfl; have hcz31_2 : w30.cell? ⟨gb288, 2, none⟩ = some (.int .i64 a0_2) := (blk_cell BK288.out 2).trans rfl; have hfz31_0 := blk_frozen BK288.out 0; have hfz31_1 := blk_frozen BK288.out 1; have hfz31_2 := blk_frozen BK288.out 2) | go_values | go_skip | go_guarded | go_step | go_upon | go_back | (simp only [Int.not_lt, Int.not_le] at *; go_simp) | (go_values <;> (try go_simp)) | (go_ite <;> go_prune <;> (try go_simp)) | (split <;> (first | (rename_i hx; exact (hx _ rfl).elim) | go_prune)) | go_quiet (fail))
       go_meet
       case rel => exact ⟨_, (true), (by first | rfl | (simp; done) | (simp [*]; done)), H', ⟨by first | omega | exact Nat.le_refl _⟩, ⟨by (with_reducible repeat (first | refine blk_drewN ?_ _ | refine blk_drew ?_ | refine blk_alloc ?_ _)); exact BK288.out⟩, ⟨by repeat (first | (with_reducible first | exact HB.out | apply below_alloc | apply pw_below_drewN | apply below_drew1 | refine below_set ?_ GE288.out) | exact HB.out)⟩⟩
      ·as_aux_lemma =>
       rw [if_neg c26] at H
       have c26b0 : decide (a2 < 0) = false := decide_eq_false c26
       clear c26
       by_cases c32 : a2 ≥ (l0_0.length : Int)
       ·as_aux_lemma =>
        rw [if_pos c32] at H
        have c32b0 : decide ((l0_0.length : Int) ≤ a2) = true := decide_eq_true c32
        clear c32
        have H' := Aside0.mk H
        clear H
        have hcz33_0 : w8.cell? ⟨gb288, 0, none⟩ = some (.slice A0_0 l0_0.length c0_0) := (blk_cell BK288.out 0).trans rfl
        have hcz33_1 : w8.cell? ⟨gb288, 1, none⟩ = some (.int .i64 a0_1) := (blk_cell BK288.out 1).trans rfl
        have hcz33_2 : w8.cell? ⟨gb288, 2, none⟩ = some (.int .i64 a0_2) := (blk_cell BK288.out 2).trans rfl
        have hfz33_0 := blk_frozen BK288.out 0
        have hfz33_1 := blk_frozen BK288.out 1
        have hfz33_2 := blk_frozen BK288.out 2
        go_wp2_with (first |  (go_at_call 14; (with_reducible refine (fringeref42_Great.calls k _ _ l0_0 a0_1 a0_2 false _ ?side1 ?side2 A9.out).mono ?_); (case side1 => repeat (first | exact (Kd.C_below HR0_0.out HB.out) | (with_reducible refine Kd.C_alloc ?_ _) | (with_reducible refine Kd.C_drewN ?_ _) | (with_reducible refine Kd.C_drew ?_))); (case side2 => exact HC0_0.out); rintro e w34 ⟨rfl, hb⟩; have n0_ := Aside0.mk (blk_below (g := gb288) (o := .cells #[.slice A0_0 l0_0.length c0_0, .int .i64 a0_1, .int .i64 a0_2] 24 (0, 0)) (by (with_reducible repeat (first | refine blk_drewN ?_ _ | refine blk_drew ?_ | refine blk_alloc ?_ _)); exact BK288.out) hb); have n1_ := Aside0.mk (below_step (by repeat (first | (with_reducible first | exact HB.out | apply below_alloc | apply pw_below_drewN | apply below_drew1 | refine below_set ?_ GE288.out) | exact HB.out)) hb); clear BK288; clear HB; have BK288 := n0_; have HB := n1_; clear n0_ n1_; (try clear hb); (try clear hb2); (try clear hk); (try clear hi); have hcz35_0 : w34.cell? ⟨gb288, 0, none⟩ = some (.slice A0_0 l0_0.length c0_0) := (blk_cell BK288.out 0).trans rfl; have hcz35_1 : w34.cell? ⟨gb288, 1, none⟩ = some (.int .i64 a0_1) := (blk_cell BK288.out 1).trans rfl; have hcz35_2 : w34.cell? ⟨gb288, 2, none⟩ = some (.int .i64 a0_2) := (blk_cell BK288.out 2).trans rfl; have hfz35_0 := blk_frozen BK288.out 0; have hfz35_1 := blk_frozen BK288.out 1; have hfz35_2 := blk_frozen BK288.out 2) | (go_at_call 22; (with_reducible refine (fringeref42_Check.calls k _ _ l0_0 a0_1 a0_2 t291 _ ?side1 ?side2 A13.out).mono ?_); (case side1 => repeat (first | exact (Kd.C_below HR0_0.out HB.out) | (with_reducible refine Kd.C_alloc ?_ _) | (with_reducible refine Kd.C_drewN ?_ _) | (with_reducible refine Kd.C_drew ?_))); (case side2 => exact HC0_0.out); rintro e w36 ⟨rfl, hb⟩; have n0_ := Aside0.mk (blk_below (g := gb288) (o := .cells #[.slice A0_0 l0_0.length c0_0, .int .i64 a0_1, .int .i64 a0_2] 24 (0, 0)) (by (with_reducible repeat (first | refine blk_drewN ?_ _ | refine blk_drew ?_ | refine blk_alloc ?_ _)); exact BK288.out) hb); have n1_ := Aside0.mk (below_step (by repeat (first | (with_reducible first | exact HB.out | apply below_alloc | apply pw_below_drewN | apply below_drew1 | refine below_set ?_ GE288.out) | exact HB.out)) hb); clear BK288; clear HB; have BK288 := n0_; have HB := n1_; clear n0_ n1_; (try clear hb); (try clear hb2); (try clear hk); (try clear hi); have hcz37_0 : w36.cell? ⟨gb288, 0, none⟩ = some (.slice A0_0 l0_0.length c0_0) := (blk_cell BK288.out 0).trans rfl; have hcz37_1 : w36.cell? ⟨gb288, 1, none⟩ = some (.int .i64 a0_1) := (blk_cell BK288.out 1).trans rfl; have hcz37_2 : w36.cell? ⟨gb288, 2, none⟩ = some (.int .i64 a0_2) := (blk_cell BK288.out 2).trans rfl; have hfz37_0 := blk_frozen BK288.out 0; have hfz37_1 := blk_frozen BK288.out 1; have hfz37_2 := blk_frozen BK288.out 2) | go_values | go_skip | go_guarded | go_step | go_upon | go_back | (simp only [Int.not_lt, Int.not_le] at *; go_simp) | (go_values <;> (try go_simp)) | (go_ite <;> go_prune <;> (try go_simp)) | (split <;> (first | (rename_i hx; exact (hx _ rfl).elim) | go_prune)) | go_quiet (fail))
        go_meet
        case rel => exact ⟨_, (true), (by first | rfl | (simp; done) | (simp [*]; done)), H', ⟨by first | omega | exact Nat.le_refl _⟩, ⟨by (with_reducible repeat (first | refine blk_drewN ?_ _ | refine blk_drew ?_ | refine blk_alloc ?_ _)); exact BK288.out⟩, ⟨by repeat (first | (with_reducible first | exact HB.out | apply below_alloc | apply pw_below_drewN | apply below_drew1 | refine below_set ?_ GE288.out) | exact HB.out)⟩⟩
       ·as_aux_lemma =>
        rw [if_neg c32] at H
        have c32b0 : decide ((l0_0.length : Int) ≤ a2) = false := decide_eq_false c32
        clear c32
        by_cases c38 : a3 < 0
        ·as_aux_lemma =>
         rw [if_pos c38] at H
         have c38b0 : decide (a3 < 0) = true := decide_eq_true c38
         clear c38
         have H' := Aside0.mk H
         clear H
         have hcz39_0 : w8.cell? ⟨gb288, 0, none⟩ = some (.slice A0_0 l0_0.length c0_0) := (blk_cell BK288.out 0).trans rfl
         have hcz39_1 : w8.cell? ⟨gb288, 1, none⟩ = some (.int .i64 a0_1) := (blk_cell BK288.out 1).trans rfl
         have hcz39_2 : w8.cell? ⟨gb288, 2, none⟩ = some (.int .i64 a0_2) := (blk_cell BK288.out 2).trans rfl
         have hfz39_0 := blk_frozen BK288.out 0
         have hfz39_1 := blk_frozen BK288.out 1
         have hfz39_2 := blk_frozen BK288.out 2
         go_wp2_with (first |  (go_at_call 14; (with_reducible refine (fringeref42_Great.calls k _ _ l0_0 a0_1 a0_2 false _ ?side1 ?side2 A9.out).mono ?_); (case side1 => repeat (first | exact (Kd.C_below HR0_0.out HB.out) | (with_reducible refine Kd.C_alloc ?_ _) | (with_reducible refine Kd.C_drewN ?_ _) | (with_reducible refine Kd.C_drew ?_))); (case side2 => exact HC0_0.out); rintro e w40 ⟨rfl, hb⟩; have n0_ := Aside0.mk (blk_below (g := gb288) (o := .cells #[.slice A0_0 l0_0.length c0_0, .int .i64 a0_1, .int .i64 a0_2] 24 (0, 0)) (by (with_reducible repeat (first | refine blk_drewN ?_ _ | refine blk_drew ?_ | refine blk_alloc ?_ _)); exact BK288.out) hb); have n1_ := Aside0.mk (below_step (by repeat (first | (with_reducible first | exact HB.out | apply below_alloc | apply pw_below_drewN | apply below_drew1 | refine below_set ?_ GE288.out) | exact HB.out)) hb); clear BK288; clear HB; have BK288 := n0_; have HB := n1_; clear n0_ n1_; (try clear hb); (try clear hb2); (try clear hk); (try clear hi); have hcz41_0 : w40.cell? ⟨gb288, 0, none⟩ = some (.slice A0_0 l0_0.length c0_0) := (blk_cell BK288.out 0).trans rfl; have hcz41_1 : w40.cell? ⟨gb288, 1, none⟩ = some (.int .i64 a0_1) := (blk_cell BK288.out 1).trans rfl; have hcz41_2 : w40.cell? ⟨gb288, 2, none⟩ = some (.int .i64 a0_2) := (blk_cell BK288.out 2).trans rfl; have hfz41_0 := blk_frozen BK288.out 0; have hfz41_1 := blk_frozen BK288.out 1; have hfz41_2 := blk_frozen BK288.out 2) | (go_at_call 22; (with_reducible refine (fringeref42_Check.calls k _ _ l0_0 a0_1 a0_2 t291 _ ?side1 ?side2 A13.out).mono ?_); (case side1 => repeat (first | exact (Kd.C_below HR0_0.out HB.out) | (with_reducible refine Kd.C_alloc ?_ _) | (with_reducible refine Kd.C_drewN ?_ _) | (with_reducible refine Kd.C_drew ?_))); (case side2 => exact HC0_0.out); rintro e w42 ⟨rfl, hb⟩; have n0_ := Aside0.mk (blk_below (g := gb288) (o := .cells #[.slice A0_0 l0_0.length c0_0, .int .i64 a0_1, .int .i64 a0_2] 24 (0, 0)) (by (with_reducible repeat (first | refine blk_drewN ?_ _ | refine blk_drew ?_ | refine blk_alloc ?_ _)); exact BK288.out) hb); have n1_ := Aside0.mk (below_step (by repeat (first | (with_reducible first | exact HB.out | apply below_alloc | apply pw_below_drewN | apply below_drew1 | refine below_set ?_ GE288.out) | exact HB.out)) hb); clear BK288; clear HB; have BK288 := n0_; have HB := n1_; clear n0_ n1_; (try clear hb); (try clear hb2); (try clear hk); (try clear hi); have hcz43_0 : w42.cell? ⟨gb288, 0, none⟩ = some (.slice A0_0 l0_0.length c0_0) := (blk_cell BK288.out 0).trans rfl; have hcz43_1 : w42.cell? ⟨gb288, 1, none⟩ = some (.int .i64 a0_1) := (blk_cell BK288.out 1).trans rfl; have hcz43_2 : w42.cell? ⟨gb288, 2, none⟩ = some (.int .i64 a0_2) := (blk_cell BK288.out 2).trans rfl; have hfz43_0 := blk_frozen BK288.out 0; have hfz43_1 := blk_frozen BK288.out 1; have hfz43_2 := blk_frozen BK288.out 2) | go_values | go_skip | go_guarded | go_step | go_upon | go_back | (simp only [Int.not_lt, Int.not_le] at *; go_simp) | (go_values <;> (try go_simp)) | (go_ite <;> go_prune <;> (try go_simp)) | (split <;> (first | (rename_i hx; exact (hx _ rfl).elim) | go_prune)) | go_quiet (fail))
         go_meet
         case rel => exact ⟨_, (true), (by first | rfl | (simp; done) | (simp [*]; done)), H', ⟨by first | omega | exact Nat.le_refl _⟩, ⟨by (with_reducible repeat (first | refine blk_drewN ?_ _ | refine blk_drew ?_ | refine blk_alloc ?_ _)); exact BK288.out⟩, ⟨by repeat (first | (with_reducible first | exact HB.out | apply below_alloc | apply pw_below_drewN | apply below_drew1 | refine below_set ?_ GE288.out) | exact HB.out)⟩⟩
        ·as_aux_lemma =>
         rw [if_neg c38] at H
         have c38b0 : decide (a3 < 0) = false := decide_eq_false c38
         clear c38
         by_cases c44 : a3 > 200
         ·as_aux_lemma =>
          rw [if_pos c44] at H
          have c44b0 : decide (200 < a3) = true := decide_eq_true c44
          clear c44
          have H' := Aside0.mk H
          clear H
          have hcz45_0 : w8.cell? ⟨gb288, 0, none⟩ = some (.slice A0_0 l0_0.length c0_0) := (blk_cell BK288.out 0).trans rfl
          have hcz45_1 : w8.cell? ⟨gb288, 1, none⟩ = some (.int .i64 a0_1) := (blk_cell BK288.out 1).trans rfl
          have hcz45_2 : w8.cell? ⟨gb288, 2, none⟩ = some (.int .i64 a0_2) := (blk_cell BK288.out 2).trans rfl
          have hfz45_0 := blk_frozen BK288.out 0
          have hfz45_1 := blk_frozen BK288.out 1
          have hfz45_2 := blk_frozen BK288.out 2
          go_wp2_with (first |  (go_at_call 14; (with_reducible refine (fringeref42_Great.calls k _ _ l0_0 a0_1 a0_2 false _ ?side1 ?side2 A9.out).mono ?_); (case side1 => repeat (first | exact (Kd.C_below HR0_0.out HB.out) | (with_reducible refine Kd.C_alloc ?_ _) | (with_reducible refine Kd.C_drewN ?_ _) | (with_reducible refine Kd.C_drew ?_))); (case side2 => exact HC0_0.out); rintro e w46 ⟨rfl, hb⟩; have n0_ := Aside0.mk (blk_below (g := gb288) (o := .cells #[.slice A0_0 l0_0.length c0_0, .int .i64 a0_1, .int .i64 a0_2] 24 (0, 0)) (by (with_reducible repeat (first | refine blk_drewN ?_ _ | refine blk_drew ?_ | refine blk_alloc ?_ _)); exact BK288.out) hb); have n1_ := Aside0.mk (below_step (by repeat (first | (with_reducible first | exact HB.out | apply below_alloc | apply pw_below_drewN | apply below_drew1 | refine below_set ?_ GE288.out) | exact HB.out)) hb); clear BK288; clear HB; have BK288 := n0_; have HB := n1_; clear n0_ n1_; (try clear hb); (try clear hb2); (try clear hk); (try clear hi); have hcz47_0 : w46.cell? ⟨gb288, 0, none⟩ = some (.slice A0_0 l0_0.length c0_0) := (blk_cell BK288.out 0).trans rfl; have hcz47_1 : w46.cell? ⟨gb288, 1, none⟩ = some (.int .i64 a0_1) := (blk_cell BK288.out 1).trans rfl; have hcz47_2 : w46.cell? ⟨gb288, 2, none⟩ = some (.int .i64 a0_2) := (blk_cell BK288.out 2).trans rfl; have hfz47_0 := blk_frozen BK288.out 0; have hfz47_1 := blk_frozen BK288.out 1; have hfz47_2 := blk_frozen BK288.out 2) | (go_at_call 22; (with_reducible refine (fringeref42_Check.calls k _ _ l0_0 a0_1 a0_2 t291 _ ?side1 ?side2 A13.out).mono ?_); (case side1 => repeat (first | exact (Kd.C_below HR0_0.out HB.out) | (with_reducible refine Kd.C_alloc ?_ _) | (with_reducible refine Kd.C_drewN ?_ _) | (with_reducible refine Kd.C_drew ?_))); (case side2 => exact HC0_0.out); rintro e w48 ⟨rfl, hb⟩; have n0_ := Aside0.mk (blk_below (g := gb288) (o := .cells #[.slice A0_0 l0_0.length c0_0, .int .i64 a0_1, .int .i64 a0_2] 24 (0, 0)) (by (with_reducible repeat (first | refine blk_drewN ?_ _ | refine blk_drew ?_ | refine blk_alloc ?_ _)); exact BK288.out) hb); have n1_ := Aside0.mk (below_step (by repeat (first | (with_reducible first | exact HB.out | apply below_alloc | apply pw_below_drewN | apply below_drew1 | refine below_set ?_ GE288.out) | exact HB.out)) hb); clear BK288; clear HB; have BK288 := n0_; have HB := n1_; clear n0_ n1_; (try clear hb); (try clear hb2); (try clear hk); (try clear hi); have hcz49_0 : w48.cell? ⟨gb288, 0, none⟩ = some (.slice A0_0 l0_0.length c0_0) := (blk_cell BK288.out 0).trans rfl; have hcz49_1 : w48.cell? ⟨gb288, 1, none⟩ = some (.int .i64 a0_1) := (blk_cell BK288.out 1).trans rfl; have hcz49_2 : w48.cell? ⟨gb288, 2, none⟩ = some (.int .i64 a0_2) := (blk_cell BK288.out 2).trans rfl; have hfz49_0 := blk_frozen BK288.out 0; have hfz49_1 := blk_frozen BK288.out 1; have hfz49_2 := blk_frozen BK288.out 2) | go_values | go_skip | go_guarded | go_step | go_upon | go_back | (simp only [Int.not_lt, Int.not_le] at *; go_simp) | (go_values <;> (try go_simp)) | (go_ite <;> go_prune <;> (try go_simp)) | (split <;> (first | (rename_i hx; exact (hx _ rfl).elim) | go_prune)) | go_quiet (fail))
          go_meet
          case rel => exact ⟨_, (true), (by first | rfl | (simp; done) | (simp [*]; done)), H', ⟨by first | omega | exact Nat.le_refl _⟩, ⟨by (with_reducible repeat (first | refine blk_drewN ?_ _ | refine blk_drew ?_ | refine blk_alloc ?_ _)); exact BK288.out⟩, ⟨by repeat (first | (with_reducible first | exact HB.out | apply below_alloc | apply pw_below_drewN | apply below_drew1 | refine below_set ?_ GE288.out) | exact HB.out)⟩⟩
         ·as_aux_lemma =>
          rw [if_neg c44] at H
          have c44b0 : decide (200 < a3) = false := decide_eq_false c44
          clear c44
          have H' := Aside0.mk H
          clear H
          have hcz50_0 : w8.cell? ⟨gb288, 0, none⟩ = some (.slice A0_0 l0_0.length c0_0) := (blk_cell BK288.out 0).trans rfl
          have hcz50_1 : w8.cell? ⟨gb288, 1, none⟩ = some (.int .i64 a0_1) := (blk_cell BK288.out 1).trans rfl
          have hcz50_2 : w8.cell? ⟨gb288, 2, none⟩ = some (.int .i64 a0_2) := (blk_cell BK288.out 2).trans rfl
          have hfz50_0 := blk_frozen BK288.out 0
          have hfz50_1 := blk_frozen BK288.out 1
          have hfz50_2 := blk_frozen BK288.out 2
          go_wp2_with (first |  (go_at_call 14; (with_reducible refine (fringeref42_Great.calls k _ _ l0_0 a0_1 a0_2 false _ ?side1 ?side2 A9.out).mono ?_); (case side1 => repeat (first | exact (Kd.C_below HR0_0.out HB.out) | (with_reducible refine Kd.C_alloc ?_ _) | (with_reducible refine Kd.C_drewN ?_ _) | (with_reducible refine Kd.C_drew ?_))); (case side2 => exact HC0_0.out); rintro e w51 ⟨rfl, hb⟩; have n0_ := Aside0.mk (blk_below (g := gb288) (o := .cells #[.slice A0_0 l0_0.length c0_0, .int .i64 a0_1, .int .i64 a0_2] 24 (0, 0)) (by (with_reducible repeat (first | refine blk_drewN ?_ _ | refine blk_drew ?_ | refine blk_alloc ?_ _)); exact BK288.out) hb); have n1_ := Aside0.mk (below_step (by repeat (first | (with_reducible first | exact HB.out | apply below_alloc | apply pw_below_drewN | apply below_drew1 | refine below_set ?_ GE288.out) | exact HB.out)) hb); clear BK288; clear HB; have BK288 := n0_; have HB := n1_; clear n0_ n1_; (try clear hb); (try clear hb2); (try clear hk); (try clear hi); have hcz52_0 : w51.cell? ⟨gb288, 0, none⟩ = some (.slice A0_0 l0_0.length c0_0) := (blk_cell BK288.out 0).trans rfl; have hcz52_1 : w51.cell? ⟨gb288, 1, none⟩ = some (.int .i64 a0_1) := (blk_cell BK288.out 1).trans rfl; have hcz52_2 : w51.cell? ⟨gb288, 2, none⟩ = some (.int .i64 a0_2) := (blk_cell BK288.out 2).trans rfl; have hfz52_0 := blk_frozen BK288.out 0; have hfz52_1 := blk_frozen BK288.out 1; have hfz52_2 := blk_frozen BK288.out 2) | (go_at_call 22; (with_reducible refine (fringeref42_Check.calls k _ _ l0_0 a0_1 a0_2 t291 _ ?side1 ?side2 A13.out).mono ?_); (case side1 => repeat (first | exact (Kd.C_below HR0_0.out HB.out) | (with_reducible refine Kd.C_alloc ?_ _) | (with_reducible refine Kd.C_drewN ?_ _) | (with_reducible refine Kd.C_drew ?_))); (case side2 => exact HC0_0.out); rintro e w53 ⟨rfl, hb⟩; have n0_ := Aside0.mk (blk_below (g := gb288) (o := .cells #[.slice A0_0 l0_0.length c0_0, .int .i64 a0_1, .int .i64 a0_2] 24 (0, 0)) (by (with_reducible repeat (first | refine blk_drewN ?_ _ | refine blk_drew ?_ | refine blk_alloc ?_ _)); exact BK288.out) hb); have n1_ := Aside0.mk (below_step (by repeat (first | (with_reducible first | exact HB.out | apply below_alloc | apply pw_below_drewN | apply below_drew1 | refine below_set ?_ GE288.out) | exact HB.out)) hb); clear BK288; clear HB; have BK288 := n0_; have HB := n1_; clear n0_ n1_; (try clear hb); (try clear hb2); (try clear hk); (try clear hi); have hcz54_0 : w53.cell? ⟨gb288, 0, none⟩ = some (.slice A0_0 l0_0.length c0_0) := (blk_cell BK288.out 0).trans rfl; have hcz54_1 : w53.cell? ⟨gb288, 1, none⟩ = some (.int .i64 a0_1) := (blk_cell BK288.out 1).trans rfl; have hcz54_2 : w53.cell? ⟨gb288, 2, none⟩ = some (.int .i64 a0_2) := (blk_cell BK288.out 2).trans rfl; have hfz54_0 := blk_frozen BK288.out 0; have hfz54_1 := blk_frozen BK288.out 1; have hfz54_2 := blk_frozen BK288.out 2) | go_values | go_skip | go_guarded | go_step | go_upon | go_back | (simp only [Int.not_lt, Int.not_le] at *; go_simp) | (go_values <;> (try go_simp)) | (go_ite <;> go_prune <;> (try go_simp)) | (split <;> (first | (rename_i hx; exact (hx _ rfl).elim) | go_prune)) | go_quiet (fail))
          go_meet
          case rel => exact ⟨_, (!t289), (by first | rfl | (simp; done) | (simp [*]; done)), H', ⟨by first | omega | exact Nat.le_refl _⟩, ⟨by (with_reducible repeat (first | refine blk_drewN ?_ _ | refine blk_drew ?_ | refine blk_alloc ?_ _)); exact BK288.out⟩, ⟨by repeat (first | (with_reducible first | exact HB.out | apply below_alloc | apply pw_below_drewN | apply below_drew1 | refine below_set ?_ GE288.out) | exact HB.out)⟩⟩
   ·as_aux_lemma =>
    rw [if_neg c14] at H
    have c14b0 : (t291 == 0) = false := beq_eq_false_iff_ne.mpr c14
    have c14b1 : (t291 != 0) = true := bne_iff_ne.mpr c14
    (first | rw [c14b0] | (simp only [i64_w, i32_w]; rw [c14b0]) | skip)
    have H' := Aside0.mk H
    clear H
    have hcz55_0 : w8.cell? ⟨gb288, 0, none⟩ = some (.slice A0_0 l0_0.length c0_0) := (blk_cell BK288.out 0).trans rfl
    have hcz55_1 : w8.cell? ⟨gb288, 1, none⟩ = some (.int .i64 a0_1) := (blk_cell BK288.out 1).trans rfl
    have hcz55_2 : w8.cell? ⟨gb288, 2, none⟩ = some (.int .i64 a0_2) := (blk_cell BK288.out 2).trans rfl
    have hfz55_0 := blk_frozen BK288.out 0
    have hfz55_1 := blk_frozen BK288.out 1
    have hfz55_2 := blk_frozen BK288.out 2
    go_wp2_with (first |  (go_at_call 14; (with_reducible refine (fringeref42_Great.calls k _ _ l0_0 a0_1 a0_2 false _ ?side1 ?side2 A9.out).mono ?_); (case side1 => repeat (first | exact (Kd.C_below HR0_0.out HB.out) | (with_reducible refine Kd.C_alloc ?_ _) | (with_reducible refine Kd.C_drewN ?_ _) | (with_reducible refine Kd.C_drew ?_))); (case side2 => exact HC0_0.out); rintro e w56 ⟨rfl, hb⟩; have n0_ := Aside0.mk (blk_below (g := gb288) (o := .cells #[.slice A0_0 l0_0.length c0_0, .int .i64 a0_1, .int .i64 a0_2] 24 (0, 0)) (by (with_reducible repeat (first | refine blk_drewN ?_ _ | refine blk_drew ?_ | refine blk_alloc ?_ _)); exact BK288.out) hb); have n1_ := Aside0.mk (below_step (by repeat (first | (with_reducible first | exact HB.out | apply below_alloc | apply pw_below_drewN | apply below_drew1 | refine below_set ?_ GE288.out) | exact HB.out)) hb); clear BK288; clear HB; have BK288 := n0_; have HB := n1_; clear n0_ n1_; (try clear hb); (try clear hb2); (try clear hk); (try clear hi); have hcz57_0 : w56.cell? ⟨gb288, 0, none⟩ = some (.slice A0_0 l0_0.length c0_0) := (blk_cell BK288.out 0).trans rfl; have hcz57_1 : w56.cell? ⟨gb288, 1, none⟩ = some (.int .i64 a0_1) := (blk_cell BK288.out 1).trans rfl; have hcz57_2 : w56.cell? ⟨gb288, 2, none⟩ = some (.int .i64 a0_2) := (blk_cell BK288.out 2).trans rfl; have hfz57_0 := blk_frozen BK288.out 0; have hfz57_1 := blk_frozen BK288.out 1; have hfz57_2 := blk_frozen BK288.out 2) | (go_at_call 22; (with_reducible refine (fringeref42_Check.calls k _ _ l0_0 a0_1 a0_2 t291 _ ?side1 ?side2 A13.out).mono ?_); (case side1 => repeat (first | exact (Kd.C_below HR0_0.out HB.out) | (with_reducible refine Kd.C_alloc ?_ _) | (with_reducible refine Kd.C_drewN ?_ _) | (with_reducible refine Kd.C_drew ?_))); (case side2 => exact HC0_0.out); rintro e w58 ⟨rfl, hb⟩; have n0_ := Aside0.mk (blk_below (g := gb288) (o := .cells #[.slice A0_0 l0_0.length c0_0, .int .i64 a0_1, .int .i64 a0_2] 24 (0, 0)) (by (with_reducible repeat (first | refine blk_drewN ?_ _ | refine blk_drew ?_ | refine blk_alloc ?_ _)); exact BK288.out) hb); have n1_ := Aside0.mk (below_step (by repeat (first | (with_reducible first | exact HB.out | apply below_alloc | apply pw_below_drewN | apply below_drew1 | refine below_set ?_ GE288.out) | exact HB.out)) hb); clear BK288; clear HB; have BK288 := n0_; have HB := n1_; clear n0_ n1_; (try clear hb); (try clear hb2); (try clear hk); (try clear hi)) | go_values | go_skip | go_guarded | go_step | go_upon | go_back | (simp only [Int.not_lt, Int.not_le] at *; go_simp) | (go_values <;> (try go_simp)) | (go_ite <;> go_prune <;> (try go_simp)) | (split <;> (first | (rename_i hx; exact (hx _ rfl).elim) | go_prune)) | go_quiet (fail))
    go_meet
    case rel => exact ⟨_, (true), (by first | rfl | (simp; done) | (simp [*]; done)), H', ⟨by first | omega | exact Nat.le_refl _⟩, ⟨by (with_reducible repeat (first | refine blk_drewN ?_ _ | refine blk_drew ?_ | refine blk_alloc ?_ _)); exact BK288.out⟩, ⟨by repeat (first | (with_reducible first | exact HB.out | apply below_alloc | apply pw_below_drewN | apply below_drew1 | refine below_set ?_ GE288.out) | exact HB.out)⟩⟩
 case rest =>
  as_aux_lemma =>
  clear HC6
  try clear c1
  try clear c2
  try clear p2
  try clear c3
  try clear c4
  try clear c10
  try clear c14
  try clear c14b0
  try clear c14b1
  try clear c15
  try clear c15b0
  try clear c20
  try clear c20b0
  try clear c26
  try clear c26b0
  try clear c32
  try clear c32b0
  try clear c38
  try clear c38b0
  try clear c44
  try clear c44b0
  try clear hcz11_0
  try clear hcz11_1
  try clear hcz11_2
  try clear hcz16_0
  try clear hcz16_1
  try clear hcz16_2
  try clear hcz18_0
  try clear hcz18_1
  try clear hcz18_2
  try clear hcz21_0
  try clear hcz21_1
  try clear hcz21_2
  try clear hcz23_0
  try clear hcz23_1
  try clear hcz23_2
  try clear hcz25_0
  try clear hcz25_1
  try clear hcz25_2
  try clear hcz27_0
  try clear hcz27_1
  try clear hcz27_2
  try clear hcz29_0
  try clear hcz29_1
  try clear hcz29_2
  try clear hcz31_0
  try clear hcz31_1
  try clear hcz31_2
  try clear hcz33_0
  try clear hcz33_1
  try clear hcz33_2
  try clear hcz35_0
  try clear hcz35_1
  try clear hcz35_2
  try clear hcz37_0
  try clear hcz37_1
  try clear hcz37_2
  try clear hcz39_0
  try clear hcz39_1
  try clear hcz39_2
  try clear hcz41_0
  try clear hcz41_1
  try clear hcz41_2
  try clear hcz43_0
  try clear hcz43_1
  try clear hcz43_2
  try clear hcz45_0
  try clear hcz45_1
  try clear hcz45_2
  try clear hcz47_0
  try clear hcz47_1
  try clear hcz47_2
  try clear hcz49_0
  try clear hcz49_1
  try clear hcz49_2
  try clear hcz50_0
  try clear hcz50_1
  try clear hcz50_2
  try clear hcz52_0
  try clear hcz52_1
  try clear hcz52_2
  try clear hcz54_0
  try clear hcz54_1
  try clear hcz54_2
  try clear hcz55_0
  try clear hcz55_1
  try clear hcz55_2
  try clear hcz57_0
  try clear hcz57_1
  try clear hcz57_2
  try clear hfz11_0
  try clear hfz11_1
  try clear hfz11_2
  try clear hfz16_0
  try clear hfz16_1
  try clear hfz16_2
  try clear hfz18_0
  try clear hfz18_1
  try clear hfz18_2
  try clear hfz21_0
  try clear hfz21_1
  try clear hfz21_2
  try clear hfz23_0
  try clear hfz23_1
  try clear hfz23_2
  try clear hfz25_0
  try clear hfz25_1
  try clear hfz25_2
  try clear hfz27_0
  try clear hfz27_1
  try clear hfz27_2
  try clear hfz29_0
  try clear hfz29_1
  try clear hfz29_2
  try clear hfz31_0
  try clear hfz31_1
  try clear hfz31_2
  try clear hfz33_0
  try clear hfz33_1
  try clear hfz33_2
  try clear hfz35_0
  try clear hfz35_1
  try clear hfz35_2
  try clear hfz37_0
  try clear hfz37_1
  try clear hfz37_2
  try clear hfz39_0
  try clear hfz39_1
  try clear hfz39_2
  try clear hfz41_0
  try clear hfz41_1
  try clear hfz41_2
  try clear hfz43_0
  try clear hfz43_1
  try clear hfz43_2
  try clear hfz45_0
  try clear hfz45_1
  try clear hfz45_2
  try clear hfz47_0
  try clear hfz47_1
  try clear hfz47_2
  try clear hfz49_0
  try clear hfz49_1
  try clear hfz49_2
  try clear hfz50_0
  try clear hfz50_1
  try clear hfz50_2
  try clear hfz52_0
  try clear hfz52_1
  try clear hfz52_2
  try clear hfz54_0
  try clear hfz54_1
  try clear hfz54_2
  try clear hfz55_0
  try clear hfz55_1
  try clear hfz55_2
  try clear hfz57_0
  try clear hfz57_1
  try clear hfz57_2
  obtain ⟨kq, x60_5, rfl, HA, HJ5, BK288, HB⟩ := hcut
  cases kq with
  | zero => exact absurd HA.out (by simp [fringelaw42_QueueShares.j0])
  | succ kj5 =>
   have H := HA.out
   clear HA
   simp only [fringelaw42_QueueShares.j0] at H
   by_cases c59 : x60_5 = true
   ·as_aux_lemma =>
    subst c59
    rw [if_pos rfl] at H
    have hend := Aside0.mk (Option.some.inj H)
    clear H
    go_wp2
    repeat (go_quiet (fail); try go_wp2)
    go_ret
    exact ⟨by first | rfl | (rw [hend.out]; done) | (simp only [hend.out]; done) | (simp [*]; first | exact hend.out | exact eq_of_beq hend.out | exact of_decide_eq_true hend.out) | (have h_ := hend.out; simp_all; done) | (simp [*, errW_none, errW_some] <;> rfl), by repeat (first | (with_reducible first | exact HB.out | apply below_alloc | apply pw_below_drewN | apply below_drew1 | refine below_set ?_ GE288.out) | exact HB.out)⟩
   ·as_aux_lemma =>
    replace c59 := Bool.eq_false_iff.mpr c59
    subst c59
    rw [if_neg (show ¬ (false = true) by decide)] at H
    replace H := Option.bind_eq_some_iff.mp H
    obtain ⟨⟨t292, t295, t296, t297, t300⟩, A600, H⟩ := H
    (try dsimp only at H)
    have A60 := Aside0.mk A600
    clear A600
    by_cases c61 : t300 = 0
    ·as_aux_lemma =>
     rw [if_pos c61] at H
     have c61b0 : (t300 == 0) = true := beq_iff_eq.mpr c61
     have c61b1 : (t300 != 0) = false := bne_eq_false_iff_eq.mpr c61
     clear c61
     have HC62 := Aside0.mk H
     clear H
     have hcz63_0 : wc.cell? ⟨gb288, 0, none⟩ = some (.slice A0_0 l0_0.length c0_0) := (blk_cell BK288.out 0).trans rfl
     have hcz63_1 : wc.cell? ⟨gb288, 1, none⟩ = some (.int .i64 a0_1) := (blk_cell BK288.out 1).trans rfl
     have hcz63_2 : wc.cell? ⟨gb288, 2, none⟩ = some (.int .i64 a0_2) := (blk_cell BK288.out 2).trans rfl
     have hfz63_0 := blk_frozen BK288.out 0
     have hfz63_1 := blk_frozen BK288.out 1
     have hfz63_2 := blk_frozen BK288.out 2
     go_upto_region 7 with (first | (go_at_call 17; (with_reducible refine (queue_Serve.calls kj5 _ _ l0_0 a0_1 a0_2 a3 t292 t295 t296 t297 t300 _ ?side1 ?side2 A60.out).mono ?_); (case side1 => repeat (first | exact (Kd.C_below HR0_0.out HB.out) | (with_reducible refine Kd.C_alloc ?_ _) | (with_reducible refine Kd.C_drewN ?_ _) | (with_reducible refine Kd.C_drew ?_))); (case side2 => exact HC0_0.out); rintro e w64 ⟨v293, v298, rfl, ho0, ho1, hb⟩; have n0_ := Aside0.mk (Kd.R_lower ho0 (below_size (by repeat (first | (with_reducible first | exact HB.out | apply below_alloc | apply pw_below_drewN | apply below_drew1 | refine below_set ?_ GE288.out) | exact HB.out)))); have n1_ := Aside0.mk (Kd.R_lower ho1 (below_size (by repeat (first | (with_reducible first | exact HB.out | apply below_alloc | apply pw_below_drewN | apply below_drew1 | refine below_set ?_ GE288.out) | exact HB.out)))); have n2_ := Aside0.mk (blk_below (g := gb288) (o := .cells #[.slice A0_0 l0_0.length c0_0, .int .i64 a0_1, .int .i64 a0_2] 24 (0, 0)) (by (with_reducible repeat (first | refine blk_drewN ?_ _ | refine blk_drew ?_ | refine blk_alloc ?_ _)); exact BK288.out) hb); have n3_ := Aside0.mk (below_step (by repeat (first | (with_reducible first | exact HB.out | apply below_alloc | apply pw_below_drewN | apply below_drew1 | refine below_set ?_ GE288.out) | exact HB.out)) hb); clear BK288; clear HB; have HO294 := n0_; have HO299 := n1_; have BK288 := n2_; have HB := n3_; clear n0_ n1_ n2_ n3_; (try clear hb); (try clear hb2); (try clear hk); (try clear hi); (try clear ho0); (try clear ho1)) | ((with_reducible refine gate_dst (N := 10) rfl ?_); (try (refine gate_guard (by rfl) ?_; dsimp only)); refine box_event ?hg (N := 10) ?hd (cs := #[.slice none 0 0, .int .i64 0, .int .i64 0]) (t := 24) ?hr ?_; (case hd => rfl); (case hg => rfl); (case hr => first | (go_simp; done) | (go_simp; rfl)); intro gb301 hg w65 hbox hb; have n0_ := Aside0.mk (Kd.R_below (by (with_reducible repeat (first | apply Kd.R_alloc | apply Kd.R_drewN | apply Kd.R_drew)); exact HO294.out) hb); have n1_ := Aside0.mk (Kd.R_below (by (with_reducible repeat (first | apply Kd.R_alloc | apply Kd.R_drewN | apply Kd.R_drew)); exact HO299.out) hb); have n2_ := Aside0.mk (blk_below (g := gb288) (o := .cells #[.slice A0_0 l0_0.length c0_0, .int .i64 a0_1, .int .i64 a0_2] 24 (0, 0)) (by (with_reducible repeat (first | refine blk_drewN ?_ _ | refine blk_drew ?_ | refine blk_alloc ?_ _)); exact BK288.out) hb); have n3_ := Aside0.mk (below_step (by repeat (first | (with_reducible first | exact HB.out | apply below_alloc | apply pw_below_drewN | apply below_drew1 | refine below_set ?_ GE288.out) | exact HB.out)) hb); have n4_ := Aside0.mk (hbox); have n5_ := Aside0.mk ((by rw [hg]; exact (below_size (by repeat (first | (with_reducible first | exact HB.out | apply below_alloc | apply pw_below_drewN | apply below_drew1 | refine below_set ?_ GE288.out) | exact HB.out))) : w.heap.size ≤ gb301)); have n6_ := Aside0.mk ((by rw [hg]; exact (below_size (by repeat (first | (with_reducible first | exact HB.out | apply below_alloc | apply pw_below_drewN | apply below_drew1 | refine below_set ?_ GE288.out) | exact HB.out))) : w.heap.size ≤ gb301)); have n7_ := Aside0.mk ((by rw [hg]; exact Nat.ne_of_lt (blk_lt (g := gb288) (o := .cells #[.slice A0_0 l0_0.length c0_0, .int .i64 a0_1, .int .i64 a0_2] 24 (0, 0)) (by (with_reducible repeat (first | refine blk_drewN ?_ _ | refine blk_drew ?_ | refine blk_alloc ?_ _)); exact BK288.out)) : gb288 ≠ gb301)); have n8_ := Aside0.mk ((by rw [hg]; exact Nat.ne_of_gt (blk_lt (g := gb288) (o := .cells #[.slice A0_0 l0_0.length c0_0, .int .i64 a0_1, .int .i64 a0_2] 24 (0, 0)) (by (with_reducible repeat (first | refine blk_drewN ?_ _ | refine blk_drew ?_ | refine blk_alloc ?_ _)); exact BK288.out)) : gb301 ≠ gb288)); clear HO294; clear HO299; clear BK288; clear HB; have HO294 := n0_; have HO299 := n1_; have BK288 := n2_; have HB := n3_; have BK301 := n4_; have GW301 := n5_; have GE301 := n6_; have NB288_301 := n7_; have NB301_288 := n8_; clear n0_ n1_ n2_ n3_ n4_ n5_ n6_ n7_ n8_; clear hb hbox hg; obtain ⟨Ao66, co66, eo66⟩ := Kd.R_slice HO294.out; subst eo66; have hnb67 := NB301_288.out; have hnc67 := NB288_301.out; have hcz68_0 : w65.cell? ⟨gb301, 0, none⟩ = some (.slice none 0 0) := (blk_cell BK301.out 0).trans rfl; have hcz68_1 : w65.cell? ⟨gb301, 1, none⟩ = some (.int .i64 0) := (blk_cell BK301.out 1).trans rfl; have hcz68_2 : w65.cell? ⟨gb301, 2, none⟩ = some (.int .i64 0) := (blk_cell BK301.out 2).trans rfl; have hfz68_0 := blk_frozen BK301.out 0; have hfz68_1 := blk_frozen BK301.out 1; have hfz68_2 := blk_frozen BK301.out 2))
     repeat (go_quiet (fail); go_upto_region 7 with (first | (go_at_call 17; (with_reducible refine (queue_Serve.calls kj5 _ _ l0_0 a0_1 a0_2 a3 t292 t295 t296 t297 t300 _ ?side1 ?side2 A60.out).mono ?_); (case side1 => repeat (first | exact (Kd.C_below HR0_0.out HB.out) | (with_reducible refine Kd.C_alloc ?_ _) | (with_reducible refine Kd.C_drewN ?_ _) | (with_reducible refine Kd.C_drew ?_))); (case side2 => exact HC0_0.out); rintro e w64 ⟨v293, v298, rfl, ho0, ho1, hb⟩; have n0_ := Aside0.mk (Kd.R_lower ho0 (below_size (by repeat (first | (with_reducible first | exact HB.out | apply below_alloc | apply pw_below_drewN | apply below_drew1 | refine below_set ?_ GE288.out) | exact HB.out)))); have n1_ := Aside0.mk (Kd.R_lower ho1 (below_size (by repeat (first | (with_reducible first | exact HB.out | apply below_alloc | apply pw_below_drewN | apply below_drew1 | refine below_set ?_ GE288.out) | exact HB.out)))); have n2_ := Aside0.mk (blk_below (g := gb288) (o := .cells #[.slice A0_0 l0_0.length c0_0, .int .i64 a0_1, .int .i64 a0_2] 24 (0, 0)) (by (with_reducible repeat (first | refine blk_drewN ?_ _ | refine blk_drew ?_ | refine blk_alloc ?_ _)); exact BK288.out) hb); have n3_ := Aside0.mk (below_step (by repeat (first | (with_reducible first | exact HB.out | apply below_alloc | apply pw_below_drewN | apply below_drew1 | refine below_set ?_ GE288.out) | exact HB.out)) hb); clear BK288; clear HB; have HO294 := n0_; have HO299 := n1_; have BK288 := n2_; have HB := n3_; clear n0_ n1_ n2_ n3_; (try clear hb); (try clear hb2); (try clear hk); (try clear hi); (try clear ho0); (try clear ho1)) | ((with_reducible refine gate_dst (N := 10) rfl ?_); (try (refine gate_guard (by rfl) ?_; dsimp only)); refine box_event ?hg (N := 10) ?hd (cs := #[.slice none 0 0, .int .i64 0, .int .i64 0]) (t := 24) ?hr ?_; (case hd => rfl); (case hg => rfl); (case hr => first | (go_simp; done) | (go_simp; rfl)); intro gb301 hg w65 hbox hb; have n0_ := Aside0.mk (Kd.R_below (by (with_reducible repeat (first | apply Kd.R_alloc | apply Kd.R_drewN | apply Kd.R_drew)); exact HO294.out) hb); have n1_ := Aside0.mk (Kd.R_below (by (with_reducible repeat (first | apply Kd.R_alloc | apply Kd.R_drewN | apply Kd.R_drew)); exact HO299.out) hb); have n2_ := Aside0.mk (blk_below (g := gb288) (o := .cells #[.slice A0_0 l0_0.length c0_0, .int .i64 a0_1, .int .i64 a0_2] 24 (0, 0)) (by (with_reducible repeat (first | refine blk_drewN ?_ _ | refine blk_drew ?_ | refine blk_alloc ?_ _)); exact BK288.out) hb); have n3_ := Aside0.mk (below_step (by repeat (first | (with_reducible first | exact HB.out | apply below_alloc | apply pw_below_drewN | apply below_drew1 | refine below_set ?_ GE288.out) | exact HB.out)) hb); have n4_ := Aside0.mk (hbox); have n5_ := Aside0.mk ((by rw [hg]; exact (below_size (by repeat (first | (with_reducible first | exact HB.out | apply below_alloc | apply pw_below_drewN | apply below_drew1 | refine below_set ?_ GE288.out) | exact HB.out))) : w.heap.size ≤ gb301)); have n6_ := Aside0.mk ((by rw [hg]; exact (below_size (by repeat (first | (with_reducible first | exact HB.out | apply below_alloc | apply pw_below_drewN | apply below_drew1 | refine below_set ?_ GE288.out) | exact HB.out))) : w.heap.size ≤ gb301)); have n7_ := Aside0.mk ((by rw [hg]; exact Nat.ne_of_lt (blk_lt (g := gb288) (o := .cells #[.slice A0_0 l0_0.length c0_0, .int .i64 a0_1, .int .i64 a0_2] 24 (0, 0)) (by (with_reducible repeat (first | refine blk_drewN ?_ _ | refine blk_drew ?_ | refine blk_alloc ?_ _)); exact BK288.out)) : gb288 ≠ gb301)); have n8_ := Aside0.mk ((by rw [hg]; exact Nat.ne_of_gt (blk_lt (g := gb288) (o := .cells #[.slice A0_0 l0_0.length c0_0, .int .i64 a0_1, .int .i64 a0_2] 24 (0, 0)) (by (with_reducible repeat (first | refine blk_drewN ?_ _ | refine blk_drew ?_ | refine blk_alloc ?_ _)); exact BK288.out)) : gb301 ≠ gb288)); clear HO294; clear HO299; clear BK288; clear HB; have HO294 := n0_; have HO299 := n1_; have BK288 := n2_; have HB := n3_; have BK301 := n4_; have GW301 := n5_; have GE301 := n6_; have NB288_301 := n7_; have NB301_288 := n8_; clear n0_ n1_ n2_ n3_ n4_ n5_ n6_ n7_ n8_; clear hb hbox hg; obtain ⟨Ao66, co66, eo66⟩ := Kd.R_slice HO294.out; subst eo66; have hnb67 := NB301_288.out; have hnc67 := NB288_301.out; have hcz68_0 : w65.cell? ⟨gb301, 0, none⟩ = some (.slice none 0 0) := (blk_cell BK301.out 0).trans rfl; have hcz68_1 : w65.cell? ⟨gb301, 1, none⟩ = some (.int .i64 0) := (blk_cell BK301.out 1).trans rfl; have hcz68_2 : w65.cell? ⟨gb301, 2, none⟩ = some (.int .i64 0) := (blk_cell BK301.out 2).trans rfl; have hfz68_0 := blk_frozen BK301.out 0; have hfz68_1 := blk_frozen BK301.out 1; have hfz68_2 := blk_frozen BK301.out 2)))
     (try simp only [Act.put, List.setIfInBounds_toArray, List.set_cons_zero, List.set_cons_succ])
     go_cut [93] (fun v93 wc => ∃ (kq : Nat) (x93_61 : Bool), v93 = .bool x93_61 ∧ Aside0 (fringelaw42_QueueShares.j1 kq a1 a2 t289 t297 x93_61 l0_0 a0_1 a0_2 t292 t295 t296 = some true) ∧ Aside0 (kq ≤ kj5) ∧ Aside0 (Kd.R (Kd.int .i64) 3 wc w.heap.size (fun _ => True) v298 t297) ∧ Aside0 (Kd.R k42 42 wc w.heap.size (fun _ => True) (.slice Ao66 t292.length co66) t292) ∧ Aside0 (wc.heap[gb288]? = some (.cells #[(.slice A0_0 l0_0.length c0_0), .int .i64 a0_1, .int .i64 a0_2] 24 (0, 0))) ∧ Aside0 (wc.heap[gb301]? = some (.cells #[(.slice Ao66 t292.length co66), .int .i64 t295, .int .i64 t296] 24 (0, 0))) ∧ Aside0 (Below w.heap.size w wc))
     case first =>
      as_aux_lemma =>
      have H := HC62.out
      clear HC62
      replace H := Option.bind_eq_some_iff.mp H
      obtain ⟨t302, A690, H⟩ := H
      (try dsimp only at H)
      have A69 := Aside0.mk A690
      clear A690
      by_cases c70 : t302 = 0
      ·as_aux_lemma =>
       rw [if_pos c70] at H
       have c70b0 : (t302 == 0) = true := beq_iff_eq.mpr c70
       have c70b1 : (t302 != 0) = false := bne_eq_false_iff_eq.mpr c70
       clear c70
       (first | rw [c70b0] | (simp only [i64_w, i32_w]; rw [c70b0]) | skip)
       by_cases c71 : (t292.length : Int) = (l0_0.length : Int)
       ·as_aux_lemma =>
        rw [if_pos c71] at H
        have c71b0 : ((t292.length : Int) == (l0_0.length : Int)) = true := beq_iff_eq.mpr c71
        have c71b1 : ((t292.length : Int) != (l0_0.length : Int)) = false := bne_eq_false_iff_eq.mpr c71
        have c71b2 : (t292.length == l0_0.length) = true := by first | simpa using c71 | (simp at c71 ⊢; omega)
        clear c71
        have H' := Aside0.mk H
        clear H
        have hnb72 := NB301_288.out
        have hnc72 := NB288_301.out
        have hcz73_0 : w65.cell? ⟨gb301, 0, none⟩ = some (.slice none 0 0) := (blk_cell BK301.out 0).trans rfl
        have hcz73_1 : w65.cell? ⟨gb301, 1, none⟩ = some (.int .i64 0) := (blk_cell BK301.out 1).trans rfl
        have hcz73_2 : w65.cell? ⟨gb301, 2, none⟩ = some (.int .i64 0) := (blk_cell BK301.out 2).trans rfl
        have hfz73_0 := blk_frozen BK301.out 0
        have hfz73_1 := blk_frozen BK301.out 1
        have hfz73_2 := blk_frozen BK301.out 2
        go_wp2_with (first |  (go_at_call 22; (with_reducible refine (fringeref42_Check.calls kj5 _ _ t292 t295 t296 t302 _ ?side1 ?side2 A69.out).mono ?_); (case side1 => refine (Kd.R_reads' (e := 42) (base := w.heap.size) (ok := fun k_ => True) (n := t292.length) (c := co66) ?_).2.2; exact (by (with_reducible repeat (first | apply Kd.R_alloc | apply Kd.R_drewN | apply Kd.R_drew)); exact (Kd.R_mono (Kd.R_far (p := ⟨gb301, 2, none⟩) (Kd.R_far (p := ⟨gb301, 1, none⟩) (Kd.R_far (p := ⟨gb301, 0, none⟩) (Kd.R_types HO294.out BK301.out (by decide)) (fun _ hk => hk.2) (.slice Ao66 t292.length co66)) (fun _ hk => hk.2) (.int .i64 t295)) (fun _ hk => hk.2) (.int .i64 t296)) (fun _ h_ => h_.1)))); (case side2 => exact (Kd.R_reads' HO294.out).2.1); rintro e w74 ⟨rfl, hb⟩; have n0_ := Aside0.mk (Kd.R_below (by (with_reducible repeat (first | apply Kd.R_alloc | apply Kd.R_drewN | apply Kd.R_drew)); exact (Kd.R_mono (Kd.R_far (p := ⟨gb301, 2, none⟩) (Kd.R_far (p := ⟨gb301, 1, none⟩) (Kd.R_far (p := ⟨gb301, 0, none⟩) (Kd.R_types HO294.out BK301.out (by decide)) (fun _ hk => hk.2) (.slice Ao66 t292.length co66)) (fun _ hk => hk.2) (.int .i64 t295)) (fun _ hk => hk.2) (.int .i64 t296)) (fun _ h_ => h_.1))) hb); have n1_ := Aside0.mk (Kd.R_below (by (with_reducible repeat (first | apply Kd.R_alloc | apply Kd.R_drewN | apply Kd.R_drew)); exact (Kd.R_mono (Kd.R_far (p := ⟨gb301, 2, none⟩) (Kd.R_far (p := ⟨gb301, 1, none⟩) (Kd.R_far (p := ⟨gb301, 0, none⟩) (Kd.R_types HO299.out BK301.out (by decide)) (fun _ hk => hk.2) (.slice Ao66 t292.length co66)) (fun _ hk => hk.2) (.int .i64 t295)) (fun _ hk => hk.2) (.int .i64 t296)) (fun _ h_ => h_.1))) hb); have n2_ := Aside0.mk (blk_below (g := gb288) (o := .cells #[.slice A0_0 l0_0.length c0_0, .int .i64 a0_1, .int .i64 a0_2] 24 (0, 0)) (by (with_reducible repeat (first | refine blk_drewN ?_ _ | refine blk_drew ?_ | refine blk_alloc ?_ _)); refine blk_far ?_ NB288_301.out _; (with_reducible repeat (first | refine blk_drewN ?_ _ | refine blk_drew ?_ | refine blk_alloc ?_ _)); refine blk_far ?_ NB288_301.out _; (with_reducible repeat (first | refine blk_drewN ?_ _ | refine blk_drew ?_ | refine blk_alloc ?_ _)); refine blk_far ?_ NB288_301.out _; (with_reducible repeat (first | refine blk_drewN ?_ _ | refine blk_drew ?_ | refine blk_alloc ?_ _)); exact BK288.out) hb); have n3_ := Aside0.mk (blk_below (g := gb301) (o := .cells #[.slice Ao66 t292.length co66, .int .i64 t295, .int .i64 t296] 24 (0, 0)) (by (with_reducible repeat (first | refine blk_drewN ?_ _ | refine blk_drew ?_ | refine blk_alloc ?_ _)); refine blk_put (cs := #[.slice Ao66 t292.length co66, .int .i64 t295, .int .i64 0]) ?_ 2 _ rfl; (with_reducible repeat (first | refine blk_drewN ?_ _ | refine blk_drew ?_ | refine blk_alloc ?_ _)); refine blk_put (cs := #[.slice Ao66 t292.length co66, .int .i64 0, .int .i64 0]) ?_ 1 _ rfl; (with_reducible repeat (first | refine blk_drewN ?_ _ | refine blk_drew ?_ | refine blk_alloc ?_ _)); refine blk_put (cs := #[.slice none 0 0, .int .i64 0, .int .i64 0]) ?_ 0 _ rfl; (with_reducible repeat (first | refine blk_drewN ?_ _ | refine blk_drew ?_ | refine blk_alloc ?_ _)); exact BK301.out) hb); have n4_ := Aside0.mk (below_step (by repeat (first | (with_reducible first | exact HB.out | apply below_alloc | apply pw_below_drewN | apply below_drew1 | refine below_set ?_ GE288.out | refine below_set ?_ GE301.out) | exact HB.out)) hb); clear HO294; clear HO299; clear BK288; clear BK301; clear HB; have HO294 := n0_; have HO299 := n1_; have BK288 := n2_; have BK301 := n3_; have HB := n4_; clear n0_ n1_ n2_ n3_ n4_; (try clear hb); (try clear hb2); (try clear hk); (try clear hi); have hcz75_0 : w74.cell? ⟨gb301, 0, none⟩ = some (.slice Ao66 t292.length co66) := (blk_cell BK301.out 0).trans rfl; have hcz75_1 : w74.cell? ⟨gb301, 1, none⟩ = some (.int .i64 t295) := (blk_cell BK301.out 1).trans rfl; have hcz75_2 : w74.cell? ⟨gb301, 2, none⟩ = some (.int .i64 t296) := (blk_cell BK301.out 2).trans rfl; have hfz75_0 := blk_frozen BK301.out 0; have hfz75_1 := blk_frozen BK301.out 1; have hfz75_2 := blk_frozen BK301.out 2; have hcz76_0 : w74.cell? ⟨gb288, 0, none⟩ = some (.slice A0_0 l0_0.length c0_0) := (blk_cell BK288.out 0).trans rfl; have hcz76_1 : w74.cell? ⟨gb288, 1, none⟩ = some (.int .i64 a0_1) := (blk_cell BK288.out 1).trans rfl; have hcz76_2 : w74.cell? ⟨gb288, 2, none⟩ = some (.int .i64 a0_2) := (blk_cell BK288.out 2).trans rfl; have hfz76_0 := blk_frozen BK288.out 0; have hfz76_1 := blk_frozen BK288.out 1; have hfz76_2 := blk_frozen BK288.out 2; obtain ⟨Ao77, co77, eo77⟩ := Kd.R_slice HO299.out; subst eo77) | go_values | go_skip | go_guarded | go_step | go_upon | go_back | (simp only [Int.not_lt, Int.not_le] at *; go_simp) | (go_values <;> (try go_simp)) | (go_ite <;> go_prune <;> (try go_simp)) | (split <;> (first | (rename_i hx; exact (hx _ rfl).elim) | go_prune)) | go_quiet (fail))
        go_meet
        case rel => exact ⟨_, (decide ((t297.length : Int) > a3)), (by first | rfl | (simp; done) | (simp [*]; done)), H', ⟨by have := HJ5.out; first | omega | exact Nat.le_refl _⟩, ⟨by (with_reducible repeat (first | apply Kd.R_alloc | apply Kd.R_drewN | apply Kd.R_drew)); exact HO299.out⟩, ⟨by (with_reducible repeat (first | apply Kd.R_alloc | apply Kd.R_drewN | apply Kd.R_drew)); exact HO294.out⟩, ⟨by (with_reducible repeat (first | refine blk_drewN ?_ _ | refine blk_drew ?_ | refine blk_alloc ?_ _)); exact BK288.out⟩, ⟨by (with_reducible repeat (first | refine blk_drewN ?_ _ | refine blk_drew ?_ | refine blk_alloc ?_ _)); exact BK301.out⟩, ⟨by repeat (first | (with_reducible first | exact HB.out | apply below_alloc | apply pw_below_drewN | apply below_drew1 | refine below_set ?_ GE288.out | refine below_set ?_ GE301.out) | exact HB.out)⟩⟩
       ·as_aux_lemma =>
        rw [if_neg c71] at H
        have c71b0 : ((t292.length : Int) == (l0_0.length : Int)) = false := beq_eq_false_iff_ne.mpr c71
        have c71b1 : ((t292.length : Int) != (l0_0.length : Int)) = true := bne_iff_ne.mpr c71
        have c71b2 : (t292.length == l0_0.length) = false := by first | simpa using c71 | (simp at c71 ⊢; omega)
        have H' := Aside0.mk H
        clear H
        have hnb78 := NB301_288.out
        have hnc78 := NB288_301.out
        have hcz79_0 : w65.cell? ⟨gb301, 0, none⟩ = some (.slice none 0 0) := (blk_cell BK301.out 0).trans rfl
        have hcz79_1 : w65.cell? ⟨gb301, 1, none⟩ = some (.int .i64 0) := (blk_cell BK301.out 1).trans rfl
        have hcz79_2 : w65.cell? ⟨gb301, 2, none⟩ = some (.int .i64 0) := (blk_cell BK301.out 2).trans rfl
        have hfz79_0 := blk_frozen BK301.out 0
        have hfz79_1 := blk_frozen BK301.out 1
        have hfz79_2 := blk_frozen BK301.out 2
        go_wp2_with (first |  (go_at_call 22; (with_reducible refine (fringeref42_Check.calls kj5 _ _ t292 t295 t296 t302 _ ?side1 ?side2 A69.out).mono ?_); (case side1 => refine (Kd.R_reads' (e := 42) (base := w.heap.size) (ok := fun k_ => True) (n := t292.length) (c := co66) ?_).2.2; exact (by (with_reducible repeat (first | apply Kd.R_alloc | apply Kd.R_drewN | apply Kd.R_drew)); exact (Kd.R_mono (Kd.R_far (p := ⟨gb301, 2, none⟩) (Kd.R_far (p := ⟨gb301, 1, none⟩) (Kd.R_far (p := ⟨gb301, 0, none⟩) (Kd.R_types HO294.out BK301.out (by decide)) (fun _ hk => hk.2) (.slice Ao66 t292.length co66)) (fun _ hk => hk.2) (.int .i64 t295)) (fun _ hk => hk.2) (.int .i64 t296)) (fun _ h_ => h_.1)))); (case side2 => exact (Kd.R_reads' HO294.out).2.1); rintro e w80 ⟨rfl, hb⟩; have n0_ := Aside0.mk (Kd.R_below (by (with_reducible repeat (first | apply Kd.R_alloc | apply Kd.R_drewN | apply Kd.R_drew)); exact (Kd.R_mono (Kd.R_far (p := ⟨gb301, 2, none⟩) (Kd.R_far (p := ⟨gb301, 1, none⟩) (Kd.R_far (p := ⟨gb301, 0, none⟩) (Kd.R_types HO294.out BK301.out (by decide)) (fun _ hk => hk.2) (.slice Ao66 t292.length co66)) (fun _ hk => hk.2) (.int .i64 t295)) (fun _ hk => hk.2) (.int .i64 t296)) (fun _ h_ => h_.1))) hb); have n1_ := Aside0.mk (Kd.R_below (by (with_reducible repeat (first | apply Kd.R_alloc | apply Kd.R_drewN | apply Kd.R_drew)); exact (Kd.R_mono (Kd.R_far (p := ⟨gb301, 2, none⟩) (Kd.R_far (p := ⟨gb301, 1, none⟩) (Kd.R_far (p := ⟨gb301, 0, none⟩) (Kd.R_types HO299.out BK301.out (by decide)) (fun _ hk => hk.2) (.slice Ao66 t292.length co66)) (fun _ hk => hk.2) (.int .i64 t295)) (fun _ hk => hk.2) (.int .i64 t296)) (fun _ h_ => h_.1))) hb); have n2_ := Aside0.mk (blk_below (g := gb288) (o := .cells #[.slice A0_0 l0_0.length c0_0, .int .i64 a0_1, .int .i64 a0_2] 24 (0, 0)) (by (with_reducible repeat (first | refine blk_drewN ?_ _ | refine blk_drew ?_ | refine blk_alloc ?_ _)); refine blk_far ?_ NB288_301.out _; (with_reducible repeat (first | refine blk_drewN ?_ _ | refine blk_drew ?_ | refine blk_alloc ?_ _)); refine blk_far ?_ NB288_301.out _; (with_reducible repeat (first | refine blk_drewN ?_ _ | refine blk_drew ?_ | refine blk_alloc ?_ _)); refine blk_far ?_ NB288_301.out _; (with_reducible repeat (first | refine blk_drewN ?_ _ | refine blk_drew ?_ | refine blk_alloc ?_ _)); exact BK288.out) hb); have n3_ := Aside0.mk (blk_below (g := gb301) (o := .cells #[.slice Ao66 t292.length co66, .int .i64 t295, .int .i64 t296] 24 (0, 0)) (by (with_reducible repeat (first | refine blk_drewN ?_ _ | refine blk_drew ?_ | refine blk_alloc ?_ _)); refine blk_put (cs := #[.slice Ao66 t292.length co66, .int .i64 t295, .int .i64 0]) ?_ 2 _ rfl; (with_reducible repeat (first | refine blk_drewN ?_ _ | refine blk_drew ?_ | refine blk_alloc ?_ _)); refine blk_put (cs := #[.slice Ao66 t292.length co66, .int .i64 0, .int .i64 0]) ?_ 1 _ rfl; (with_reducible repeat (first | refine blk_drewN ?_ _ | refine blk_drew ?_ | refine blk_alloc ?_ _)); refine blk_put (cs := #[.slice none 0 0, .int .i64 0, .int .i64 0]) ?_ 0 _ rfl; (with_reducible repeat (first | refine blk_drewN ?_ _ | refine blk_drew ?_ | refine blk_alloc ?_ _)); exact BK301.out) hb); have n4_ := Aside0.mk (below_step (by repeat (first | (with_reducible first | exact HB.out | apply below_alloc | apply pw_below_drewN | apply below_drew1 | refine below_set ?_ GE288.out | refine below_set ?_ GE301.out) | exact HB.out)) hb); clear HO294; clear HO299; clear BK288; clear BK301; clear HB; have HO294 := n0_; have HO299 := n1_; have BK288 := n2_; have BK301 := n3_; have HB := n4_; clear n0_ n1_ n2_ n3_ n4_; (try clear hb); (try clear hb2); (try clear hk); (try clear hi); have hcz81_0 : w80.cell? ⟨gb301, 0, none⟩ = some (.slice Ao66 t292.length co66) := (blk_cell BK301.out 0).trans rfl; have hcz81_1 : w80.cell? ⟨gb301, 1, none⟩ = some (.int .i64 t295) := (blk_cell BK301.out 1).trans rfl; have hcz81_2 : w80.cell? ⟨gb301, 2, none⟩ = some (.int .i64 t296) := (blk_cell BK301.out 2).trans rfl; have hfz81_0 := blk_frozen BK301.out 0; have hfz81_1 := blk_frozen BK301.out 1; have hfz81_2 := blk_frozen BK301.out 2; have hcz82_0 : w80.cell? ⟨gb288, 0, none⟩ = some (.slice A0_0 l0_0.length c0_0) := (blk_cell BK288.out 0).trans rfl; have hcz82_1 : w80.cell? ⟨gb288, 1, none⟩ = some (.int .i64 a0_1) := (blk_cell BK288.out 1).trans rfl; have hcz82_2 : w80.cell? ⟨gb288, 2, none⟩ = some (.int .i64 a0_2) := (blk_cell BK288.out 2).trans rfl; have hfz82_0 := blk_frozen BK288.out 0; have hfz82_1 := blk_frozen BK288.out 1; have hfz82_2 := blk_frozen BK288.out 2) | go_values | go_skip | go_guarded | go_step | go_upon | go_back | (simp only [Int.not_lt, Int.not_le] at *; go_simp) | (go_values <;> (try go_simp)) | (go_ite <;> go_prune <;> (try go_simp)) | (split <;> (first | (rename_i hx; exact (hx _ rfl).elim) | go_prune)) | go_quiet (fail))
        go_meet
        case rel => exact ⟨_, (true), (by first | rfl | (simp; done) | (simp [*]; done)), H', ⟨by have := HJ5.out; first | omega | exact Nat.le_refl _⟩, ⟨by (with_reducible repeat (first | apply Kd.R_alloc | apply Kd.R_drewN | apply Kd.R_drew)); exact HO299.out⟩, ⟨by (with_reducible repeat (first | apply Kd.R_alloc | apply Kd.R_drewN | apply Kd.R_drew)); exact HO294.out⟩, ⟨by (with_reducible repeat (first | refine blk_drewN ?_ _ | refine blk_drew ?_ | refine blk_alloc ?_ _)); exact BK288.out⟩, ⟨by (with_reducible repeat (first | refine blk_drewN ?_ _ | refine blk_drew ?_ | refine blk_alloc ?_ _)); exact BK301.out⟩, ⟨by repeat (first | (with_reducible first | exact HB.out | apply below_alloc | apply pw_below_drewN | apply below_drew1 | refine below_set ?_ GE288.out | refine below_set ?_ GE301.out) | exact HB.out)⟩⟩
      ·as_aux_lemma =>
       rw [if_neg c70] at H
       have c70b0 : (t302 == 0) = false := beq_eq_false_iff_ne.mpr c70
       have c70b1 : (t302 != 0) = true := bne_iff_ne.mpr c70
       (first | rw [c70b0] | (simp only [i64_w, i32_w]; rw [c70b0]) | skip)
       have H' := Aside0.mk H
       clear H
       have hnb83 := NB301_288.out
       have hnc83 := NB288_301.out
       have hcz84_0 : w65.cell? ⟨gb301, 0, none⟩ = some (.slice none 0 0) := (blk_cell BK301.out 0).trans rfl
       have hcz84_1 : w65.cell? ⟨gb301, 1, none⟩ = some (.int .i64 0) := (blk_cell BK301.out 1).trans rfl
       have hcz84_2 : w65.cell? ⟨gb301, 2, none⟩ = some (.int .i64 0) := (blk_cell BK301.out 2).trans rfl
       have hfz84_0 := blk_frozen BK301.out 0
       have hfz84_1 := blk_frozen BK301.out 1
       have hfz84_2 := blk_frozen BK301.out 2
       go_wp2_with (first |  (go_at_call 22; (with_reducible refine (fringeref42_Check.calls kj5 _ _ t292 t295 t296 t302 _ ?side1 ?side2 A69.out).mono ?_); (case side1 => refine (Kd.R_reads' (e := 42) (base := w.heap.size) (ok := fun k_ => True) (n := t292.length) (c := co66) ?_).2.2; exact (by (with_reducible repeat (first | apply Kd.R_alloc | apply Kd.R_drewN | apply Kd.R_drew)); exact (Kd.R_mono (Kd.R_far (p := ⟨gb301, 2, none⟩) (Kd.R_far (p := ⟨gb301, 1, none⟩) (Kd.R_far (p := ⟨gb301, 0, none⟩) (Kd.R_types HO294.out BK301.out (by decide)) (fun _ hk => hk.2) (.slice Ao66 t292.length co66)) (fun _ hk => hk.2) (.int .i64 t295)) (fun _ hk => hk.2) (.int .i64 t296)) (fun _ h_ => h_.1)))); (case side2 => exact (Kd.R_reads' HO294.out).2.1); rintro e w85 ⟨rfl, hb⟩; have n0_ := Aside0.mk (Kd.R_below (by (with_reducible repeat (first | apply Kd.R_alloc | apply Kd.R_drewN | apply Kd.R_drew)); exact (Kd.R_mono (Kd.R_far (p := ⟨gb301, 2, none⟩) (Kd.R_far (p := ⟨gb301, 1, none⟩) (Kd.R_far (p := ⟨gb301, 0, none⟩) (Kd.R_types HO294.out BK301.out (by decide)) (fun _ hk => hk.2) (.slice Ao66 t292.length co66)) (fun _ hk => hk.2) (.int .i64 t295)) (fun _ hk => hk.2) (.int .i64 t296)) (fun _ h_ => h_.1))) hb); have n1_ := Aside0.mk (Kd.R_below (by (with_reducible repeat (first | apply Kd.R_alloc | apply Kd.R_drewN | apply Kd.R_drew)); exact (Kd.R_mono (Kd.R_far (p := ⟨gb301, 2, none⟩) (Kd.R_far (p := ⟨gb301, 1, none⟩) (Kd.R_far (p := ⟨gb301, 0, none⟩) (Kd.R_types HO299.out BK301.out (by decide)) (fun _ hk => hk.2) (.slice Ao66 t292.length co66)) (fun _ hk => hk.2) (.int .i64 t295)) (fun _ hk => hk.2) (.int .i64 t296)) (fun _ h_ => h_.1))) hb); have n2_ := Aside0.mk (blk_below (g := gb288) (o := .cells #[.slice A0_0 l0_0.length c0_0, .int .i64 a0_1, .int .i64 a0_2] 24 (0, 0)) (by (with_reducible repeat (first | refine blk_drewN ?_ _ | refine blk_drew ?_ | refine blk_alloc ?_ _)); refine blk_far ?_ NB288_301.out _; (with_reducible repeat (first | refine blk_drewN ?_ _ | refine blk_drew ?_ | refine blk_alloc ?_ _)); refine blk_far ?_ NB288_301.out _; (with_reducible repeat (first | refine blk_drewN ?_ _ | refine blk_drew ?_ | refine blk_alloc ?_ _)); refine blk_far ?_ NB288_301.out _; (with_reducible repeat (first | refine blk_drewN ?_ _ | refine blk_drew ?_ | refine blk_alloc ?_ _)); exact BK288.out) hb); have n3_ := Aside0.mk (blk_below (g := gb301) (o := .cells #[.slice Ao66 t292.length co66, .int .i64 t295, .int .i64 t296] 24 (0, 0)) (by (with_reducible repeat (first | refine blk_drewN ?_ _ | refine blk_drew ?_ | refine blk_alloc ?_ _)); refine blk_put (cs := #[.slice Ao66 t292.length co66, .int .i64 t295, .int .i64 0]) ?_ 2 _ rfl; (with_reducible repeat (first | refine blk_drewN ?_ _ | refine blk_drew ?_ | refine blk_alloc ?_ _)); refine blk_put (cs := #[.slice Ao66 t292.length co66, .int .i64 0, .int .i64 0]) ?_ 1 _ rfl; (with_reducible repeat (first | refine blk_drewN ?_ _ | refine blk_drew ?_ | refine blk_alloc ?_ _)); refine blk_put (cs := #[.slice none 0 0, .int .i64 0, .int .i64 0]) ?_ 0 _ rfl; (with_reducible repeat (first | refine blk_drewN ?_ _ | refine blk_drew ?_ | refine blk_alloc ?_ _)); exact BK301.out) hb); have n4_ := Aside0.mk (below_step (by repeat (first | (with_reducible first | exact HB.out | apply below_alloc | apply pw_below_drewN | apply below_drew1 | refine below_set ?_ GE288.out | refine below_set ?_ GE301.out) | exact HB.out)) hb); clear HO294; clear HO299; clear BK288; clear BK301; clear HB; have HO294 := n0_; have HO299 := n1_; have BK288 := n2_; have BK301 := n3_; have HB := n4_; clear n0_ n1_ n2_ n3_ n4_; (try clear hb); (try clear hb2); (try clear hk); (try clear hi)) | go_values | go_skip | go_guarded | go_step | go_upon | go_back | (simp only [Int.not_lt, Int.not_le] at *; go_simp) | (go_values <;> (try go_simp)) | (go_ite <;> go_prune <;> (try go_simp)) | (split <;> (first | (rename_i hx; exact (hx _ rfl).elim) | go_prune)) | go_quiet (fail))
       go_meet
       case rel => exact ⟨_, (true), (by first | rfl | (simp; done) | (simp [*]; done)), H', ⟨by have := HJ5.out; first | omega | exact Nat.le_refl _⟩, ⟨by (with_reducible repeat (first | apply Kd.R_alloc | apply Kd.R_drewN | apply Kd.R_drew)); exact HO299.out⟩, ⟨by (with_reducible repeat (first | apply Kd.R_alloc | apply Kd.R_drewN | apply Kd.R_drew)); exact HO294.out⟩, ⟨by (with_reducible repeat (first | refine blk_drewN ?_ _ | refine blk_drew ?_ | refine blk_alloc ?_ _)); exact BK288.out⟩, ⟨by (with_reducible repeat (first | refine blk_drewN ?_ _ | refine blk_drew ?_ | refine blk_alloc ?_ _)); exact BK301.out⟩, ⟨by repeat (first | (with_reducible first | exact HB.out | apply below_alloc | apply pw_below_drewN | apply below_drew1 | refine below_set ?_ GE288.out | refine below_set ?_ GE301.out) | exact HB.out)⟩⟩
     case rest =>
      as_aux_lemma =>
      clear HC62
      try clear c1
      try clear c2
      try clear p2
      try clear c3
      try clear c4
      try clear c5
      try clear c6
      try clear c7
      try clear c8
      try clear c10
      try clear c14
      try clear c14b0
      try clear c14b1
      try clear c15
      try clear c15b0
      try clear c20
      try clear c20b0
      try clear c26
      try clear c26b0
      try clear c32
      try clear c32b0
      try clear c38
      try clear c38b0
      try clear c44
      try clear c44b0
      try clear c59
      try clear c61
      try clear c61b0
      try clear c61b1
      try clear c67
      try clear c70
      try clear c70b0
      try clear c70b1
      try clear c71
      try clear c71b0
      try clear c71b1
      try clear c71b2
      try clear c72
      try clear c78
      try clear c83
      try clear hcz11_0
      try clear hcz11_1
      try clear hcz11_2
      try clear hcz16_0
      try clear hcz16_1
      try clear hcz16_2
      try clear hcz18_0
      try clear hcz18_1
      try clear hcz18_2
      try clear hcz21_0
      try clear hcz21_1
      try clear hcz21_2
      try clear hcz23_0
      try clear hcz23_1
      try clear hcz23_2
      try clear hcz25_0
      try clear hcz25_1
      try clear hcz25_2
      try clear hcz27_0
      try clear hcz27_1
      try clear hcz27_2
      try clear hcz29_0
      try clear hcz29_1
      try clear hcz29_2
      try clear hcz31_0
      try clear hcz31_1
      try clear hcz31_2
      try clear hcz33_0
      try clear hcz33_1
      try clear hcz33_2
      try clear hcz35_0
      try clear hcz35_1
      try clear hcz35_2
      try clear hcz37_0
      try clear hcz37_1
      try clear hcz37_2
      try clear hcz39_0
      try clear hcz39_1
      try clear hcz39_2
      try clear hcz41_0
      try clear hcz41_1
      try clear hcz41_2
      try clear hcz43_0
      try clear hcz43_1
      try clear hcz43_2
      try clear hcz45_0
      try clear hcz45_1
      try clear hcz45_2
      try clear hcz47_0
      try clear hcz47_1
      try clear hcz47_2
      try clear hcz49_0
      try clear hcz49_1
      try clear hcz49_2
      try clear hcz50_0
      try clear hcz50_1
      try clear hcz50_2
      try clear hcz52_0
      try clear hcz52_1
      try clear hcz52_2
      try clear hcz54_0
      try clear hcz54_1
      try clear hcz54_2
      try clear hcz55_0
      try clear hcz55_1
      try clear hcz55_2
      try clear hcz57_0
      try clear hcz57_1
      try clear hcz57_2
      try clear hcz63_0
      try clear hcz63_1
      try clear hcz63_2
      try clear hcz68_0
      try clear hcz68_1
      try clear hcz68_2
      try clear hcz73_0
      try clear hcz73_1
      try clear hcz73_2
      try clear hcz75_0
      try clear hcz75_1
      try clear hcz75_2
      try clear hcz76_0
      try clear hcz76_1
      try clear hcz76_2
      try clear hcz79_0
      try clear hcz79_1
      try clear hcz79_2
      try clear hcz81_0
      try clear hcz81_1
      try clear hcz81_2
      try clear hcz82_0
      try clear hcz82_1
      try clear hcz82_2
      try clear hcz84_0
      try clear hcz84_1
      try clear hcz84_2
      try clear hfz11_0
      try clear hfz11_1
      try clear hfz11_2
      try clear hfz16_0
      try clear hfz16_1
      try clear hfz16_2
      try clear hfz18_0
      try clear hfz18_1
      try clear hfz18_2
      try clear hfz21_0
      try clear hfz21_1
      try clear hfz21_2
      try clear hfz23_0
      try clear hfz23_1
      try clear hfz23_2
      try clear hfz25_0
      try clear hfz25_1
      try clear hfz25_2
      try clear hfz27_0
      try clear hfz27_1
      try clear hfz27_2
      try clear hfz29_0
      try clear hfz29_1
      try clear hfz29_2
      try clear hfz31_0
      try clear hfz31_1
      try clear hfz31_2
      try clear hfz33_0
      try clear hfz33_1
      try clear hfz33_2
      try clear hfz35_0
      try clear hfz35_1
      try clear hfz35_2
      try clear hfz37_0
      try clear hfz37_1
      try clear hfz37_2
      try clear hfz39_0
      try clear hfz39_1
      try clear hfz39_2
      try clear hfz41_0
      try clear hfz41_1
      try clear hfz41_2
      try clear hfz43_0
      try clear hfz43_1
      try clear hfz43_2
      try clear hfz45_0
      try clear hfz45_1
      try clear hfz45_2
      try clear hfz47_0
      try clear hfz47_1
      try clear hfz47_2
      try clear hfz49_0
      try clear hfz49_1
      try clear hfz49_2
      try clear hfz50_0
      try clear hfz50_1
      try clear hfz50_2
      try clear hfz52_0
      try clear hfz52_1
      try clear hfz52_2
      try clear hfz54_0
      try clear hfz54_1
      try clear hfz54_2
      try clear hfz55_0
      try clear hfz55_1
      try clear hfz55_2
      try clear hfz57_0
      try clear hfz57_1
      try clear hfz57_2
      try clear hfz63_0
      try clear hfz63_1
      try clear hfz63_2
      try clear hfz68_0
      try clear hfz68_1
      try clear hfz68_2
      try clear hfz73_0
      try clear hfz73_1
      try clear hfz73_2
      try clear hfz75_0
      try clear hfz75_1
      try clear hfz75_2
      try clear hfz76_0
      try clear hfz76_1
      try clear hfz76_2
      try clear hfz79_0
      try clear hfz79_1
      try clear hfz79_2
      try clear hfz81_0
      try clear hfz81_1
      try clear hfz81_2
      try clear hfz82_0
      try clear hfz82_1
      try clear hfz82_2
      try clear hfz84_0
      try clear hfz84_1
      try clear hfz84_2
      try clear p2
      obtain ⟨kq, x93_61, rfl, HA, HJ61, HO_11, HO_302000, BK288, BK301, HB⟩ := hcut
      cases kq with
      | zero => exact absurd HA.out (by simp [fringelaw42_QueueShares.j1])
      | succ kj61 =>
       have H := HA.out
       clear HA
       simp only [fringelaw42_QueueShares.j1] at H
       by_cases c86 : x93_61 = true
       ·as_aux_lemma =>
        subst c86
        rw [if_pos rfl] at H
        exact absurd H (by simp)
       ·as_aux_lemma =>
        replace c86 := Bool.eq_false_iff.mpr c86
        subst c86
        rw [if_neg (show ¬ (false = true) by decide)] at H
        have HC87 := Aside0.mk H
        clear H
        go_upto_region 9 with (fail)
        repeat (go_quiet (fail); go_upto_region 9 with (fail))
        go_cut [109] (fun v109 wc => ∃ (kq : Nat) (x109_86 : Bool), v109 = .bool x109_86 ∧ Aside0 (fringelaw42_QueueShares.j2 kq a1 a2 t289 t297 x109_86 l0_0 a0_1 a0_2 t292 t295 t296 = some true) ∧ Aside0 (kq ≤ kj61) ∧ Aside0 (Kd.R (Kd.int .i64) 3 wc w.heap.size (fun _ => True) v298 t297) ∧ Aside0 (Kd.R k42 42 wc w.heap.size (fun _ => True) (.slice Ao66 t292.length co66) t292) ∧ Aside0 (wc.heap[gb288]? = some (.cells #[(.slice A0_0 l0_0.length c0_0), .int .i64 a0_1, .int .i64 a0_2] 24 (0, 0))) ∧ Aside0 (wc.heap[gb301]? = some (.cells #[(.slice Ao66 t292.length co66), .int .i64 t295, .int .i64 t296] 24 (0, 0))) ∧ Aside0 (Below w.heap.size w wc))
        case first =>
         as_aux_lemma =>
         have H := HC87.out
         clear HC87
         by_cases c88 : 0 ≤ a1
         ·as_aux_lemma =>
          rw [if_pos c88] at H
          have c88b0 : decide (0 ≤ a1) = true := decide_eq_true c88
          clear c88
          (first | rw [c88b0] | (simp only [i64_w, i32_w]; rw [c88b0]) | skip)
          by_cases c89 : a1 < (t292.length : Int)
          ·as_aux_lemma =>
           rw [if_pos c89] at H
           have c89b0 : decide (a1 < (t292.length : Int)) = true := decide_eq_true c89
           clear c89
           by_cases c90 : ((rd_T42 t292 a1).f3) = 0
           ·as_aux_lemma =>
            rw [if_pos c90] at H
            have c90b0 : (((rd_T42 t292 a1).f3) == 0) = true := beq_iff_eq.mpr c90
            have c90b1 : (((rd_T42 t292 a1).f3) != 0) = false := bne_eq_false_iff_eq.mpr c90
            clear c90
            have H' := Aside0.mk H
            clear H
            have hnb91 := NB301_288.out
            have hnc91 := NB288_301.out
            have hcz92_0 : wc.cell? ⟨gb301, 0, none⟩ = some (.slice Ao66 t292.length co66) := (blk_cell BK301.out 0).trans rfl
            have hcz92_1 : wc.cell? ⟨gb301, 1, none⟩ = some (.int .i64 t295) := (blk_cell BK301.out 1).trans rfl
            have hcz92_2 : wc.cell? ⟨gb301, 2, none⟩ = some (.int .i64 t296) := (blk_cell BK301.out 2).trans rfl
            have hfz92_0 := blk_frozen BK301.out 0
            have hfz92_1 := blk_frozen BK301.out 1
            have hfz92_2 := blk_frozen BK301.out 2
            have p303 : 0 ≤ (a1 : Int) := of_decide_eq_true (by first | (with_reducible assumption) | assumption)
            have q303 : a1 < (t292.length : Int) := of_decide_eq_true (by first | (with_reducible assumption) | assumption)
            obtain ⟨ad303, e303, hx303_0, hx303_1, hx303_2, hx303_3⟩ := at_T42 (Kd.R_reads' HO_302000.out).2.2 a1 p303 q303
            cases e303
            replace p303 := eq_true p303
            replace q303 := eq_true q303
            go_wp2
            repeat (go_quiet (fail); try go_wp2)
            go_meet
            case rel => exact ⟨_, (true), (by first | rfl | (simp; done) | (simp [*]; done)), H', ⟨by have := HJ5.out; have := HJ61.out; first | omega | exact Nat.le_refl _⟩, ⟨by (with_reducible repeat (first | apply Kd.R_alloc | apply Kd.R_drewN | apply Kd.R_drew)); exact HO_11.out⟩, ⟨by (with_reducible repeat (first | apply Kd.R_alloc | apply Kd.R_drewN | apply Kd.R_drew)); exact HO_302000.out⟩, ⟨by (with_reducible repeat (first | refine blk_drewN ?_ _ | refine blk_drew ?_ | refine blk_alloc ?_ _)); exact BK288.out⟩, ⟨by (with_reducible repeat (first | refine blk_drewN ?_ _ | refine blk_drew ?_ | refine blk_alloc ?_ _)); exact BK301.out⟩, ⟨by repeat (first | (with_reducible first | exact HB.out | apply below_alloc | apply pw_below_drewN | apply below_drew1 | refine below_set ?_ GE288.out | refine below_set ?_ GE301.out) | exact HB.out)⟩⟩
           ·as_aux_lemma =>
            rw [if_neg c90] at H
            have c90b0 : (((rd_T42 t292 a1).f3) == 0) = false := beq_eq_false_iff_ne.mpr c90
            have c90b1 : (((rd_T42 t292 a1).f3) != 0) = true := bne_iff_ne.mpr c90
            by_cases c93 : 0 ≤ a2
            ·as_aux_lemma =>
             rw [if_pos c93] at H
             have c93b0 : decide (0 ≤ a2) = true := decide_eq_true c93
             clear c93
             by_cases c94 : a2 < (t292.length : Int)
             ·as_aux_lemma =>
              rw [if_pos c94] at H
              have c94b0 : decide (a2 < (t292.length : Int)) = true := decide_eq_true c94
              clear c94
              have H' := Aside0.mk H
              clear H
              have hnb95 := NB301_288.out
              have hnc95 := NB288_301.out
              have hcz96_0 : wc.cell? ⟨gb301, 0, none⟩ = some (.slice Ao66 t292.length co66) := (blk_cell BK301.out 0).trans rfl
              have hcz96_1 : wc.cell? ⟨gb301, 1, none⟩ = some (.int .i64 t295) := (blk_cell BK301.out 1).trans rfl
              have hcz96_2 : wc.cell? ⟨gb301, 2, none⟩ = some (.int .i64 t296) := (blk_cell BK301.out 2).trans rfl
              have hfz96_0 := blk_frozen BK301.out 0
              have hfz96_1 := blk_frozen BK301.out 1
              have hfz96_2 := blk_frozen BK301.out 2
              have p303 : 0 ≤ (a1 : Int) := of_decide_eq_true (by first | (with_reducible assumption) | assumption)
              have q303 : a1 < (t292.length : Int) := of_decide_eq_true (by first | (with_reducible assumption) | assumption)
              obtain ⟨ad303, e303, hx303_0, hx303_1, hx303_2, hx303_3⟩ := at_T42 (Kd.R_reads' HO_302000.out).2.2 a1 p303 q303
              cases e303
              replace p303 := eq_true p303
              replace q303 := eq_true q303
              have p304 : 0 ≤ (a2 : Int) := of_decide_eq_true (by first | (with_reducible assumption) | assumption)
              have q304 : a2 < (t292.length : Int) := of_decide_eq_true (by first | (with_reducible assumption) | assumption)
              obtain ⟨ad304, e304, hx304_0, hx304_1, hx304_2, hx304_3⟩ := at_T42 (Kd.R_reads' HO_302000.out).2.2 a2 p304 q304
              obtain rfl : ad303 = ad304 := (by injection e304)
              replace p304 := eq_true p304
              replace q304 := eq_true q304
              go_wp2
              repeat (go_quiet (fail); try go_wp2)
              go_meet
              case rel => exact ⟨_, ((((rd_T42 t292 a2).f3) == 0)), (by first | rfl | (simp; done) | (simp [*]; done)), H', ⟨by have := HJ5.out; have := HJ61.out; first | omega | exact Nat.le_refl _⟩, ⟨by (with_reducible repeat (first | apply Kd.R_alloc | apply Kd.R_drewN | apply Kd.R_drew)); exact HO_11.out⟩, ⟨by (with_reducible repeat (first | apply Kd.R_alloc | apply Kd.R_drewN | apply Kd.R_drew)); exact HO_302000.out⟩, ⟨by (with_reducible repeat (first | refine blk_drewN ?_ _ | refine blk_drew ?_ | refine blk_alloc ?_ _)); exact BK288.out⟩, ⟨by (with_reducible repeat (first | refine blk_drewN ?_ _ | refine blk_drew ?_ | refine blk_alloc ?_ _)); exact BK301.out⟩, ⟨by repeat (first | (with_reducible first | exact HB.out | apply below_alloc | apply pw_below_drewN | apply below_drew1 | refine below_set ?_ GE288.out | refine below_set ?_ GE301.out) | exact HB.out)⟩⟩
             ·as_aux_lemma =>
              rw [if_neg c94] at H
              exact absurd H (by simp)
            ·as_aux_lemma =>
             rw [if_neg c93] at H
             exact absurd H (by simp)
          ·as_aux_lemma =>
           rw [if_neg c89] at H
           exact absurd H (by simp)
         ·as_aux_lemma =>
          rw [if_neg c88] at H
          exact absurd H (by simp)
        case rest =>
         as_aux_lemma =>
         clear HC87
         try clear c1
         try clear c2
         try clear p2
         try clear c3
         try clear p3
         try clear q3
         try clear hx3
         try clear c4
         try clear c5
         try clear c6
         try clear c7
         try clear c8
         try clear c9
         try clear c10
         try clear c14
         try clear c14b0
         try clear c14b1
         try clear c15
         try clear c15b0
         try clear c20
         try clear c20b0
         try clear c26
         try clear c26b0
         try clear p30
         try clear q30
         try clear hx30
         try clear c32
         try clear c32b0
         try clear c38
         try clear c38b0
         try clear c44
         try clear c44b0
         try clear c59
         try clear c61
         try clear c61b0
         try clear c61b1
         try clear c67
         try clear c70
         try clear c70b0
         try clear c70b1
         try clear c71
         try clear c71b0
         try clear c71b1
         try clear c71b2
         try clear c72
         try clear c78
         try clear c83
         try clear c86
         try clear c88
         try clear c88b0
         try clear c89
         try clear c89b0
         try clear c90
         try clear c90b0
         try clear c90b1
         try clear c91
         try clear c93
         try clear c93b0
         try clear c94
         try clear c94b0
         try clear c95
         try clear hcz11_0
         try clear hcz11_1
         try clear hcz11_2
         try clear hcz16_0
         try clear hcz16_1
         try clear hcz16_2
         try clear hcz18_0
         try clear hcz18_1
         try clear hcz18_2
         try clear hcz21_0
         try clear hcz21_1
         try clear hcz21_2
         try clear hcz23_0
         try clear hcz23_1
         try clear hcz23_2
         try clear hcz25_0
         try clear hcz25_1
         try clear hcz25_2
         try clear hcz27_0
         try clear hcz27_1
         try clear hcz27_2
         try clear hcz29_0
         try clear hcz29_1
         try clear hcz29_2
         try clear hcz31_0
         try clear hcz31_1
         try clear hcz31_2
         try clear hcz33_0
         try clear hcz33_1
         try clear hcz33_2
         try clear hcz35_0
         try clear hcz35_1
         try clear hcz35_2
         try clear hcz37_0
         try clear hcz37_1
         try clear hcz37_2
         try clear hcz39_0
         try clear hcz39_1
         try clear hcz39_2
         try clear hcz41_0
         try clear hcz41_1
         try clear hcz41_2
         try clear hcz43_0
         try clear hcz43_1
         try clear hcz43_2
         try clear hcz45_0
         try clear hcz45_1
         try clear hcz45_2
         try clear hcz47_0
         try clear hcz47_1
         try clear hcz47_2
         try clear hcz49_0
         try clear hcz49_1
         try clear hcz49_2
         try clear hcz50_0
         try clear hcz50_1
         try clear hcz50_2
         try clear hcz52_0
         try clear hcz52_1
         try clear hcz52_2
         try clear hcz54_0
         try clear hcz54_1
         try clear hcz54_2
         try clear hcz55_0
         try clear hcz55_1
         try clear hcz55_2
         try clear hcz57_0
         try clear hcz57_1
         try clear hcz57_2
         try clear hcz63_0
         try clear hcz63_1
         try clear hcz63_2
         try clear hcz68_0
         try clear hcz68_1
         try clear hcz68_2
         try clear hcz73_0
         try clear hcz73_1
         try clear hcz73_2
         try clear hcz75_0
         try clear hcz75_1
         try clear hcz75_2
         try clear hcz76_0
         try clear hcz76_1
         try clear hcz76_2
         try clear hcz79_0
         try clear hcz79_1
         try clear hcz79_2
         try clear hcz81_0
         try clear hcz81_1
         try clear hcz81_2
         try clear hcz82_0
         try clear hcz82_1
         try clear hcz82_2
         try clear hcz84_0
         try clear hcz84_1
         try clear hcz84_2
         try clear hcz92_0
         try clear hcz92_1
         try clear hcz92_2
         try clear hcz96_0
         try clear hcz96_1
         try clear hcz96_2
         try clear hfz11_0
         try clear hfz11_1
         try clear hfz11_2
         try clear hfz16_0
         try clear hfz16_1
         try clear hfz16_2
         try clear hfz18_0
         try clear hfz18_1
         try clear hfz18_2
         try clear hfz21_0
         try clear hfz21_1
         try clear hfz21_2
         try clear hfz23_0
         try clear hfz23_1
         try clear hfz23_2
         try clear hfz25_0
         try clear hfz25_1
         try clear hfz25_2
         try clear hfz27_0
         try clear hfz27_1
         try clear hfz27_2
         try clear hfz29_0
         try clear hfz29_1
         try clear hfz29_2
         try clear hfz31_0
         try clear hfz31_1
         try clear hfz31_2
         try clear hfz33_0
         try clear hfz33_1
         try clear hfz33_2
         try clear hfz35_0
         try clear hfz35_1
         try clear hfz35_2
         try clear hfz37_0
         try clear hfz37_1
         try clear hfz37_2
         try clear hfz39_0
         try clear hfz39_1
         try clear hfz39_2
         try clear hfz41_0
         try clear hfz41_1
         try clear hfz41_2
         try clear hfz43_0
         try clear hfz43_1
         try clear hfz43_2
         try clear hfz45_0
         try clear hfz45_1
         try clear hfz45_2
         try clear hfz47_0
         try clear hfz47_1
         try clear hfz47_2
         try clear hfz49_0
         try clear hfz49_1
         try clear hfz49_2
         try clear hfz50_0
         try clear hfz50_1
         try clear hfz50_2
         try clear hfz52_0
         try clear hfz52_1
         try clear hfz52_2
         try clear hfz54_0
         try clear hfz54_1
         try clear hfz54_2
         try clear hfz55_0
         try clear hfz55_1
         try clear hfz55_2
         try clear hfz57_0
         try clear hfz57_1
         try clear hfz57_2
         try clear hfz63_0
         try clear hfz63_1
         try clear hfz63_2
         try clear hfz68_0
         try clear hfz68_1
         try clear hfz68_2
         try clear hfz73_0
         try clear hfz73_1
         try clear hfz73_2
         try clear hfz75_0
         try clear hfz75_1
         try clear hfz75_2
         try clear hfz76_0
         try clear hfz76_1
         try clear hfz76_2
         try clear hfz79_0
         try clear hfz79_1
         try clear hfz79_2
         try clear hfz81_0
         try clear hfz81_1
         try clear hfz81_2
         try clear hfz82_0
         try clear hfz82_1
         try clear hfz82_2
         try clear hfz84_0
         try clear hfz84_1
         try clear hfz84_2
         try clear hfz92_0
         try clear hfz92_1
         try clear hfz92_2
         try clear hfz96_0
         try clear hfz96_1
         try clear hfz96_2
         try clear hx303_0
         try clear hx303_1
         try clear hx303_2
         try clear hx303_3
         try clear hx304_0
         try clear hx304_1
         try clear hx304_2
         try clear hx304_3
         try clear p2
         try clear p303
         try clear p304
         try clear q303
         try clear q304
         obtain ⟨kq, x109_86, rfl, HA, HJ86, HO_11, HO_302000, BK288, BK301, HB⟩ := hcut
         cases kq with
         | zero => exact absurd HA.out (by simp [fringelaw42_QueueShares.j2])
         | succ kj86 =>
          have H := HA.out
          clear HA
          simp only [fringelaw42_QueueShares.j2] at H
          by_cases c97 : x109_86 = true
          ·as_aux_lemma =>
           subst c97
           rw [if_pos rfl] at H
           have hend := Aside0.mk (Option.some.inj H)
           clear H
           go_wp2
           repeat (go_quiet (fail); try go_wp2)
           go_ret
           exact ⟨by first | rfl | (rw [hend.out]; done) | (simp only [hend.out]; done) | (simp [*]; first | exact hend.out | exact eq_of_beq hend.out | exact of_decide_eq_true hend.out) | (have h_ := hend.out; simp_all; done) | (simp [*, errW_none, errW_some] <;> rfl), by repeat (first | (with_reducible first | exact HB.out | apply below_alloc | apply pw_below_drewN | apply below_drew1 | refine below_set ?_ GE288.out | refine below_set ?_ GE301.out) | exact HB.out)⟩
          ·as_aux_lemma =>
           replace c97 := Bool.eq_false_iff.mpr c97
           subst c97
           rw [if_neg (show ¬ (false = true) by decide)] at H
           have H' := Aside0.mk H
           clear H
           go_wp2
           repeat (go_quiet (fail); try go_wp2)
           go_loopg [13, 14, 15] kj86 (fun kq v13 v14 v15 w' => ∃ (x13_4 : Int) (x14_4 : Int) (x15_4 : Int), v13 = .int .i64 x13_4 ∧ v14 = .int .i64 x14_4 ∧ v15 = .int .i64 x15_4 ∧ Aside0 (fringelaw42_QueueShares.l0 kq a1 a2 t289 t297 x13_4 x14_4 x15_4 l0_0 a0_1 a0_2 t292 t295 t296 = some true) ∧ Aside0 (kq ≤ kj86) ∧ Aside0 (Kd.R (Kd.int .i64) 3 w' w.heap.size (fun _ => True) v298 t297) ∧ Aside0 (Kd.R k42 42 w' w.heap.size (fun _ => True) (.slice Ao66 t292.length co66) t292) ∧ Aside0 (w'.heap[gb288]? = some (.cells #[(.slice A0_0 l0_0.length c0_0), .int .i64 a0_1, .int .i64 a0_2] 24 (0, 0))) ∧ Aside0 (w'.heap[gb301]? = some (.cells #[(.slice Ao66 t292.length co66), .int .i64 t295, .int .i64 t296] 24 (0, 0))) ∧ Aside0 (Below w.heap.size w w'))
           case atStart => exact ⟨(0), (0), (0), (by first | rfl | (simp; done) | (simp [*]; done)), (by first | rfl | (simp; done) | (simp [*]; done)), (by first | rfl | (simp; done) | (simp [*]; done)), H', ⟨Nat.le_refl _⟩, ⟨by (with_reducible repeat (first | apply Kd.R_alloc | apply Kd.R_drewN | apply Kd.R_drew)); exact HO_11.out⟩, ⟨by (with_reducible repeat (first | apply Kd.R_alloc | apply Kd.R_drewN | apply Kd.R_drew)); exact HO_302000.out⟩, ⟨by (with_reducible repeat (first | refine blk_drewN ?_ _ | refine blk_drew ?_ | refine blk_alloc ?_ _)); exact BK288.out⟩, ⟨by (with_reducible repeat (first | refine blk_drewN ?_ _ | refine blk_drew ?_ | refine blk_alloc ?_ _)); exact BK301.out⟩, ⟨by repeat (first | (with_reducible first | exact HB.out | apply below_alloc | apply pw_below_drewN | apply below_drew1 | refine below_set ?_ GE288.out | refine below_set ?_ GE301.out) | exact HB.out)⟩⟩
           case round =>
            as_aux_lemma =>
            clear H'
            try clear c1
            try clear c2
            try clear p2
            try clear c3
            try clear p3
            try clear q3
            try clear hx3
            try clear c4
            try clear c5
            try clear c6
            try clear c7
            try clear c8
            try clear c9
            try clear c10
            try clear c14
            try clear c14b0
            try clear c14b1
            try clear c15
            try clear c15b0
            try clear c20
            try clear c20b0
            try clear c26
            try clear c26b0
            try clear p30
            try clear q30
            try clear hx30
            try clear c32
            try clear c32b0
            try clear c38
            try clear c38b0
            try clear c44
            try clear c44b0
            try clear c59
            try clear c61
            try clear c61b0
            try clear c61b1
            try clear c67
            try clear c70
            try clear c70b0
            try clear c70b1
            try clear c71
            try clear c71b0
            try clear c71b1
            try clear c71b2
            try clear c72
            try clear c78
            try clear c83
            try clear c86
            try clear c88
            try clear c88b0
            try clear c89
            try clear c89b0
            try clear c90
            try clear c90b0
            try clear c90b1
            try clear c91
            try clear c93
            try clear c93b0
            try clear c94
            try clear c94b0
            try clear c95
            try clear c97
            try clear hcz11_0
            try clear hcz11_1
            try clear hcz11_2
            try clear hcz16_0
            try clear hcz16_1
            try clear hcz16_2
            try clear hcz18_0
            try clear hcz18_1
            try clear hcz18_2
            try clear hcz21_0
            try clear hcz21_1
            try clear hcz21_2
            try clear hcz23_0
            try clear hcz23_1
            try clear hcz23_2
            try clear hcz25_0
            try clear hcz25_1
            try clear hcz25_2
            try clear hcz27_0
            try clear hcz27_1
            try clear hcz27_2
            try clear hcz29_0
            try clear hcz29_1
            try clear hcz29_2
            try clear hcz31_0
            try clear hcz31_1
            try clear hcz31_2
            try clear hcz33_0
            try clear hcz33_1
            try clear hcz33_2
            try clear hcz35_0
            try clear hcz35_1
            try clear hcz35_2
            try clear hcz37_0
            try clear hcz37_1
            try clear hcz37_2
            try clear hcz39_0
            try clear hcz39_1
            try clear hcz39_2
            try clear hcz41_0
            try clear hcz41_1
            try clear hcz41_2
            try clear hcz43_0
            try clear hcz43_1
            try clear hcz43_2
            try clear hcz45_0
            try clear hcz45_1
            try clear hcz45_2
            try clear hcz47_0
            try clear hcz47_1
            try clear hcz47_2
            try clear hcz49_0
            try clear hcz49_1
            try clear hcz49_2
            try clear hcz50_0
            try clear hcz50_1
            try clear hcz50_2
            try clear hcz52_0
            try clear hcz52_1
            try clear hcz52_2
            try clear hcz54_0
            try clear hcz54_1
            try clear hcz54_2
            try clear hcz55_0
            try clear hcz55_1
            try clear hcz55_2
            try clear hcz57_0
            try clear hcz57_1
            try clear hcz57_2
            try clear hcz63_0
            try clear hcz63_1
            try clear hcz63_2
            try clear hcz68_0
            try clear hcz68_1
            try clear hcz68_2
            try clear hcz73_0
            try clear hcz73_1
            try clear hcz73_2
            try clear hcz75_0
            try clear hcz75_1
            try clear hcz75_2
            try clear hcz76_0
            try clear hcz76_1
            try clear hcz76_2
            try clear hcz79_0
            try clear hcz79_1
            try clear hcz79_2
            try clear hcz81_0
            try clear hcz81_1
            try clear hcz81_2
            try clear hcz82_0
            try clear hcz82_1
            try clear hcz82_2
            try clear hcz84_0
            try clear hcz84_1
            try clear hcz84_2
            try clear hcz92_0
            try clear hcz92_1
            try clear hcz92_2
            try clear hcz96_0
            try clear hcz96_1
            try clear hcz96_2
            try clear hfz11_0
            try clear hfz11_1
            try clear hfz11_2
            try clear hfz16_0
            try clear hfz16_1
            try clear hfz16_2
            try clear hfz18_0
            try clear hfz18_1
            try clear hfz18_2
            try clear hfz21_0
            try clear hfz21_1
            try clear hfz21_2
            try clear hfz23_0
            try clear hfz23_1
            try clear hfz23_2
            try clear hfz25_0
            try clear hfz25_1
            try clear hfz25_2
            try clear hfz27_0
            try clear hfz27_1
            try clear hfz27_2
            try clear hfz29_0
            try clear hfz29_1
            try clear hfz29_2
            try clear hfz31_0
            try clear hfz31_1
            try clear hfz31_2
            try clear hfz33_0
            try clear hfz33_1
            try clear hfz33_2
            try clear hfz35_0
            try clear hfz35_1
            try clear hfz35_2
            try clear hfz37_0
            try clear hfz37_1
            try clear hfz37_2
            try clear hfz39_0
            try clear hfz39_1
            try clear hfz39_2
            try clear hfz41_0
            try clear hfz41_1
            try clear hfz41_2
            try clear hfz43_0
            try clear hfz43_1
            try clear hfz43_2
            try clear hfz45_0
            try clear hfz45_1
            try clear hfz45_2
            try clear hfz47_0
            try clear hfz47_1
            try clear hfz47_2
            try clear hfz49_0
            try clear hfz49_1
            try clear hfz49_2
            try clear hfz50_0
            try clear hfz50_1
            try clear hfz50_2
            try clear hfz52_0
            try clear hfz52_1
            try clear hfz52_2
            try clear hfz54_0
            try clear hfz54_1
            try clear hfz54_2
            try clear hfz55_0
            try clear hfz55_1
            try clear hfz55_2
            try clear hfz57_0
            try clear hfz57_1
            try clear hfz57_2
            try clear hfz63_0
            try clear hfz63_1
            try clear hfz63_2
            try clear hfz68_0
            try clear hfz68_1
            try clear hfz68_2
            try clear hfz73_0
            try clear hfz73_1
            try clear hfz73_2
            try clear hfz75_0
            try clear hfz75_1
            try clear hfz75_2
            try clear hfz76_0
            try clear hfz76_1
            try clear hfz76_2
            try clear hfz79_0
            try clear hfz79_1
            try clear hfz79_2
            try clear hfz81_0
            try clear hfz81_1
            try clear hfz81_2
            try clear hfz82_0
            try clear hfz82_1
            try clear hfz82_2
            try clear hfz84_0
            try clear hfz84_1
            try clear hfz84_2
            try clear hfz92_0
            try clear hfz92_1
            try clear hfz92_2
            try clear hfz96_0
            try clear hfz96_1
            try clear hfz96_2
            try clear hx303_0
            try clear hx303_1
            try clear hx303_2
            try clear hx303_3
            try clear hx304_0
            try clear hx304_1
            try clear hx304_2
            try clear hx304_3
            try clear p2
            try clear p3
            try clear p30
            try clear p303
            try clear p304
            try clear q3
            try clear q30
            try clear q303
            try clear q304
            obtain ⟨x13_4, x14_4, x15_4, rfl, rfl, rfl, HA, HK4, HO_11, HO_302000, BK288, BK301, HB⟩ := hrel
            cases gk with
            | zero => exact absurd HA.out (by simp [fringelaw42_QueueShares.l0])
            | succ k4 =>
             have H := HA.out
             clear HA
             simp only [fringelaw42_QueueShares.l0] at H
             by_cases c98 : x15_4 < (t297.length : Int)
             ·as_aux_lemma =>
              rw [if_pos c98] at H
              have c98b0 : decide (x15_4 < (t297.length : Int)) = true := decide_eq_true c98
              clear c98
              by_cases c99 : 0 ≤ x15_4
              ·as_aux_lemma =>
               rw [if_pos c99] at H
               have c99b0 : decide (0 ≤ x15_4) = true := decide_eq_true c99
               clear c99
               by_cases c100 : (rd t297 x15_4) = a1
               ·as_aux_lemma =>
                rw [if_pos c100] at H
                have c100b0 : ((rd t297 x15_4) == a1) = true := beq_iff_eq.mpr c100
                have c100b1 : ((rd t297 x15_4) != a1) = false := bne_eq_false_iff_eq.mpr c100
                clear c100
                by_cases c101 : (rd t297 x15_4) = a2
                ·as_aux_lemma =>
                 rw [if_pos c101] at H
                 have c101b0 : ((rd t297 x15_4) == a2) = true := beq_iff_eq.mpr c101
                 have c101b1 : ((rd t297 x15_4) != a2) = false := bne_eq_false_iff_eq.mpr c101
                 clear c101
                 have H' := Aside0.mk H
                 clear H
                 obtain ⟨Ao102, co102, eo102⟩ := Kd.R_slice HO_11.out
                 subst eo102
                 have p311 : 0 ≤ (x15_4 : Int) := of_decide_eq_true (by first | (with_reducible assumption) | assumption)
                 have q311 : x15_4 < (t297.length : Int) := of_decide_eq_true (by first | (with_reducible assumption) | assumption)
                 obtain ⟨ad311, e311, hx311_0⟩ := Kd.at_int (Kd.R_reads' HO_11.out).2.2 x15_4 p311 q311
                 cases e311
                 replace p311 := eq_true p311
                 replace q311 := eq_true q311
                 have p312 : 0 ≤ (x15_4 : Int) := of_decide_eq_true (by first | (with_reducible assumption) | assumption)
                 have q312 : x15_4 < (t297.length : Int) := of_decide_eq_true (by first | (with_reducible assumption) | assumption)
                 obtain ⟨ad312, e312, hx312_0⟩ := Kd.at_int (Kd.R_reads' HO_11.out).2.2 x15_4 p312 q312
                 obtain rfl : ad311 = ad312 := (by injection e312)
                 replace p312 := eq_true p312
                 replace q312 := eq_true q312
                 go_wp2
                 repeat (go_quiet (fail); try go_wp2)
                 go_roundg k4
                 case measure => have := HJ5.out; have := HJ61.out; have := HJ86.out; have := HK4.out; omega
                 case rel => exact ⟨(wrap64 (x13_4 + 1)), (wrap64 (x14_4 + 1)), (wrap64 (x15_4 + 1)), (by first | rfl | (simp; done) | (simp [*]; done)), (by first | rfl | (simp; done) | (simp [*]; done)), (by first | rfl | (simp; done) | (simp [*]; done)), H', ⟨by have := HJ5.out; have := HJ61.out; have := HJ86.out; have := HK4.out; omega⟩, ⟨by (with_reducible repeat (first | apply Kd.R_alloc | apply Kd.R_drewN | apply Kd.R_drew)); exact HO_11.out⟩, ⟨by (with_reducible repeat (first | apply Kd.R_alloc | apply Kd.R_drewN | apply Kd.R_drew)); exact HO_302000.out⟩, ⟨by (with_reducible repeat (first | refine blk_drewN ?_ _ | refine blk_drew ?_ | refine blk_alloc ?_ _)); exact BK288.out⟩, ⟨by (with_reducible repeat (first | refine blk_drewN ?_ _ | refine blk_drew ?_ | refine blk_alloc ?_ _)); exact BK301.out⟩, ⟨by repeat (first | (with_reducible first | exact HB.out | apply below_alloc | apply pw_below_drewN | apply below_drew1 | refine below_set ?_ GE288.out | refine below_set ?_ GE301.out) | exact HB.out)⟩⟩
                ·as_aux_lemma =>
                 rw [if_neg c101] at H
                 have c101b0 : ((rd t297 x15_4) == a2) = false := beq_eq_false_iff_ne.mpr c101
                 have c101b1 : ((rd t297 x15_4) != a2) = true := bne_iff_ne.mpr c101
                 have H' := Aside0.mk H
                 clear H
                 obtain ⟨Ao103, co103, eo103⟩ := Kd.R_slice HO_11.out
                 subst eo103
                 have p311 : 0 ≤ (x15_4 : Int) := of_decide_eq_true (by first | (with_reducible assumption) | assumption)
                 have q311 : x15_4 < (t297.length : Int) := of_decide_eq_true (by first | (with_reducible assumption) | assumption)
                 obtain ⟨ad311, e311, hx311_0⟩ := Kd.at_int (Kd.R_reads' HO_11.out).2.2 x15_4 p311 q311
                 cases e311
                 replace p311 := eq_true p311
                 replace q311 := eq_true q311
                 have p312 : 0 ≤ (x15_4 : Int) := of_decide_eq_true (by first | (with_reducible assumption) | assumption)
                 have q312 : x15_4 < (t297.length : Int) := of_decide_eq_true (by first | (with_reducible assumption) | assumption)
                 obtain ⟨ad312, e312, hx312_0⟩ := Kd.at_int (Kd.R_reads' HO_11.out).2.2 x15_4 p312 q312
                 obtain rfl : ad311 = ad312 := (by injection e312)
                 replace p312 := eq_true p312
                 replace q312 := eq_true q312
                 go_wp2
                 repeat (go_quiet (fail); try go_wp2)
                 go_roundg k4
                 case measure => have := HJ5.out; have := HJ61.out; have := HJ86.out; have := HK4.out; omega
                 case rel => exact ⟨(wrap64 (x13_4 + 1)), (x14_4), (wrap64 (x15_4 + 1)), (by first | rfl | (simp; done) | (simp [*]; done)), (by first | rfl | (simp; done) | (simp [*]; done)), (by first | rfl | (simp; done) | (simp [*]; done)), H', ⟨by have := HJ5.out; have := HJ61.out; have := HJ86.out; have := HK4.out; omega⟩, ⟨by (with_reducible repeat (first | apply Kd.R_alloc | apply Kd.R_drewN | apply Kd.R_drew)); exact HO_11.out⟩, ⟨by (with_reducible repeat (first | apply Kd.R_alloc | apply Kd.R_drewN | apply Kd.R_drew)); exact HO_302000.out⟩, ⟨by (with_reducible repeat (first | refine blk_drewN ?_ _ | refine blk_drew ?_ | refine blk_alloc ?_ _)); exact BK288.out⟩, ⟨by (with_reducible repeat (first | refine blk_drewN ?_ _ | refine blk_drew ?_ | refine blk_alloc ?_ _)); exact BK301.out⟩, ⟨by repeat (first | (with_reducible first | exact HB.out | apply below_alloc | apply pw_below_drewN | apply below_drew1 | refine below_set ?_ GE288.out | refine below_set ?_ GE301.out) | exact HB.out)⟩⟩
               ·as_aux_lemma =>
                rw [if_neg c100] at H
                have c100b0 : ((rd t297 x15_4) == a1) = false := beq_eq_false_iff_ne.mpr c100
                have c100b1 : ((rd t297 x15_4) != a1) = true := bne_iff_ne.mpr c100
                by_cases c104 : (rd t297 x15_4) = a2
                ·as_aux_lemma =>
                 rw [if_pos c104] at H
                 have c104b0 : ((rd t297 x15_4) == a2) = true := beq_iff_eq.mpr c104
                 have c104b1 : ((rd t297 x15_4) != a2) = false := bne_eq_false_iff_eq.mpr c104
                 clear c104
                 have H' := Aside0.mk H
                 clear H
                 obtain ⟨Ao105, co105, eo105⟩ := Kd.R_slice HO_11.out
                 subst eo105
                 have p311 : 0 ≤ (x15_4 : Int) := of_decide_eq_true (by first | (with_reducible assumption) | assumption)
                 have q311 : x15_4 < (t297.length : Int) := of_decide_eq_true (by first | (with_reducible assumption) | assumption)
                 obtain ⟨ad311, e311, hx311_0⟩ := Kd.at_int (Kd.R_reads' HO_11.out).2.2 x15_4 p311 q311
                 cases e311
                 replace p311 := eq_true p311
                 replace q311 := eq_true q311
                 have p313 : 0 ≤ (x15_4 : Int) := of_decide_eq_true (by first | (with_reducible assumption) | assumption)
                 have q313 : x15_4 < (t297.length : Int) := of_decide_eq_true (by first | (with_reducible assumption) | assumption)
                 obtain ⟨ad313, e313, hx313_0⟩ := Kd.at_int (Kd.R_reads' HO_11.out).2.2 x15_4 p313 q313
                 obtain rfl : ad311 = ad313 := (by injection e313)
                 replace p313 := eq_true p313
                 replace q313 := eq_true q313
                 go_wp2
                 repeat (go_quiet (fail); try go_wp2)
                 go_roundg k4
                 case measure => have := HJ5.out; have := HJ61.out; have := HJ86.out; have := HK4.out; omega
                 case rel => exact ⟨(x13_4), (wrap64 (x14_4 + 1)), (wrap64 (x15_4 + 1)), (by first | rfl | (simp; done) | (simp [*]; done)), (by first | rfl | (simp; done) | (simp [*]; done)), (by first | rfl | (simp; done) | (simp [*]; done)), H', ⟨by have := HJ5.out; have := HJ61.out; have := HJ86.out; have := HK4.out; omega⟩, ⟨by (with_reducible repeat (first | apply Kd.R_alloc | apply Kd.R_drewN | apply Kd.R_drew)); exact HO_11.out⟩, ⟨by (with_reducible repeat (first | apply Kd.R_alloc | apply Kd.R_drewN | apply Kd.R_drew)); exact HO_302000.out⟩, ⟨by (with_reducible repeat (first | refine blk_drewN ?_ _ | refine blk_drew ?_ | refine blk_alloc ?_ _)); exact BK288.out⟩, ⟨by (with_reducible repeat (first | refine blk_drewN ?_ _ | refine blk_drew ?_ | refine blk_alloc ?_ _)); exact BK301.out⟩, ⟨by repeat (first | (with_reducible first | exact HB.out | apply below_alloc | apply pw_below_drewN | apply below_drew1 | refine below_set ?_ GE288.out | refine below_set ?_ GE301.out) | exact HB.out)⟩⟩
                ·as_aux_lemma =>
                 rw [if_neg c104] at H
                 have c104b0 : ((rd t297 x15_4) == a2) = false := beq_eq_false_iff_ne.mpr c104
                 have c104b1 : ((rd t297 x15_4) != a2) = true := bne_iff_ne.mpr c104
                 have H' := Aside0.mk H
                 clear H
                 obtain ⟨Ao106, co106, eo106⟩ := Kd.R_slice HO_11.out
                 subst eo106
                 have p311 : 0 ≤ (x15_4 : Int) := of_decide_eq_true (by first | (with_reducible assumption) | assumption)
                 have q311 : x15_4 < (t297.length : Int) := of_decide_eq_true (by first | (with_reducible assumption) | assumption)
                 obtain ⟨ad311, e311, hx311_0⟩ := Kd.at_int (Kd.R_reads' HO_11.out).2.2 x15_4 p311 q311
                 cases e311
                 replace p311 := eq_true p311
                 replace q311 := eq_true q311
                 have p313 : 0 ≤ (x15_4 : Int) := of_decide_eq_true (by first | (with_reducible assumption) | assumption)
                 have q313 : x15_4 < (t297.length : Int) := of_decide_eq_true (by first | (with_reducible assumption) | assumption)
                 obtain ⟨ad313, e313, hx313_0⟩ := Kd.at_int (Kd.R_reads' HO_11.out).2.2 x15_4 p313 q313
                 obtain rfl : ad311 = ad313 := (by injection e313)
                 replace p313 := eq_true p313
                 replace q313 := eq_true q313
                 go_wp2
                 repeat (go_quiet (fail); try go_wp2)
                 go_roundg k4
                 case measure => have := HJ5.out; have := HJ61.out; have := HJ86.out; have := HK4.out; omega
                 case rel => exact ⟨(x13_4), (x14_4), (wrap64 (x15_4 + 1)), (by first | rfl | (simp; done) | (simp [*]; done)), (by first | rfl | (simp; done) | (simp [*]; done)), (by first | rfl | (simp; done) | (simp [*]; done)), H', ⟨by have := HJ5.out; have := HJ61.out; have := HJ86.out; have := HK4.out; omega⟩, ⟨by (with_reducible repeat (first | apply Kd.R_alloc | apply Kd.R_drewN | apply Kd.R_drew)); exact HO_11.out⟩, ⟨by (with_reducible repeat (first | apply Kd.R_alloc | apply Kd.R_drewN | apply Kd.R_drew)); exact HO_302000.out⟩, ⟨by (with_reducible repeat (first | refine blk_drewN ?_ _ | refine blk_drew ?_ | refine blk_alloc ?_ _)); exact BK288.out⟩, ⟨by (with_reducible repeat (first | refine blk_drewN ?_ _ | refine blk_drew ?_ | refine blk_alloc ?_ _)); exact BK301.out⟩, ⟨by repeat (first | (with_reducible first | exact HB.out | apply below_alloc | apply pw_below_drewN | apply below_drew1 | refine below_set ?_ GE288.out | refine below_set ?_ GE301.out) | exact HB.out)⟩⟩
              ·as_aux_lemma =>
               rw [if_neg c99] at H
               exact absurd H (by simp)
             ·as_aux_lemma =>
              rw [if_neg c98] at H
              have c98b0 : decide (x15_4 < (t297.length : Int)) = false := decide_eq_false c98
              clear c98
              by_cases c107 : 0 ≤ a1
              ·as_aux_lemma =>
               rw [if_pos c107] at H
               have c107b0 : decide (0 ≤ a1) = true := decide_eq_true c107
               clear c107
               by_cases c108 : a1 < (l0_0.length : Int)
               ·as_aux_lemma =>
                rw [if_pos c108] at H
                have c108b0 : decide (a1 < (l0_0.length : Int)) = true := decide_eq_true c108
                clear c108
                by_cases c109 : 0 ≤ a2
                ·as_aux_lemma =>
                 rw [if_pos c109] at H
                 have c109b0 : decide (0 ≤ a2) = true := decide_eq_true c109
                 clear c109
                 by_cases c110 : a2 < (l0_0.length : Int)
                 ·as_aux_lemma =>
                  rw [if_pos c110] at H
                  have c110b0 : decide (a2 < (l0_0.length : Int)) = true := decide_eq_true c110
                  clear c110
                  by_cases c111 : t289 = true
                  ·as_aux_lemma =>
                   subst c111
                   rw [if_pos rfl] at H
                   obtain ⟨ji112, hji112⟩ : ∃ j_ : Int, (mx (wrap64 ((wrap64 (x13_4 * ((rd_T42 l0_0 a2).f1))) - (wrap64 (x14_4 * ((rd_T42 l0_0 a1).f1))))) (wrap64 (-(wrap64 ((wrap64 (x13_4 * ((rd_T42 l0_0 a2).f1))) - (wrap64 (x14_4 * ((rd_T42 l0_0 a1).f1)))))))) = j_ := ⟨_, rfl⟩
                   replace H : (if (ji112) ≤ (wrap64 (((rd_T42 l0_0 a1).f1) + ((rd_T42 l0_0 a2).f1))) then (if a1 < (t292.length : Int) then (if ((rd_T42 t292 a1).f2) = (wrap64 (((rd_T42 l0_0 a1).f2) + x13_4)) then (some (((rd_T42 t292 a1).f3) == (wrap64 (((rd_T42 l0_0 a1).f3) - x13_4)))) else (some false)) else (none)) else (some false)) = some true := by first | (rw [hji112] at H; exact H) | (simp only [hji112] at H ⊢; exact H)
                   have hji112_ : (if (wrap64 ((wrap64 (x13_4 * ((rd_T42 l0_0 a2).f1))) - (wrap64 (x14_4 * ((rd_T42 l0_0 a1).f1))))) < (wrap64 (-(wrap64 ((wrap64 (x13_4 * ((rd_T42 l0_0 a2).f1))) - (wrap64 (x14_4 * ((rd_T42 l0_0 a1).f1))))))) then (wrap64 (-(wrap64 ((wrap64 (x13_4 * ((rd_T42 l0_0 a2).f1))) - (wrap64 (x14_4 * ((rd_T42 l0_0 a1).f1))))))) else (wrap64 ((wrap64 (x13_4 * ((rd_T42 l0_0 a2).f1))) - (wrap64 (x14_4 * ((rd_T42 l0_0 a1).f1)))))) = ji112 := hji112
                   by_cases c113 : (ji112) ≤ (wrap64 (((rd_T42 l0_0 a1).f1) + ((rd_T42 l0_0 a2).f1)))
                   ·as_aux_lemma =>
                    rw [if_pos c113] at H
                    have c113b0 : decide ((ji112) ≤ (wrap64 (((rd_T42 l0_0 a1).f1) + ((rd_T42 l0_0 a2).f1)))) = true := decide_eq_true c113
                    clear c113
                    by_cases c114 : a1 < (t292.length : Int)
                    ·as_aux_lemma =>
                     rw [if_pos c114] at H
                     have c114b0 : decide (a1 < (t292.length : Int)) = true := decide_eq_true c114
                     clear c114
                     by_cases c115 : ((rd_T42 t292 a1).f2) = (wrap64 (((rd_T42 l0_0 a1).f2) + x13_4))
                     ·as_aux_lemma =>
                      rw [if_pos c115] at H
                      have c115b0 : (((rd_T42 t292 a1).f2) == (wrap64 (((rd_T42 l0_0 a1).f2) + x13_4))) = true := beq_iff_eq.mpr c115
                      have c115b1 : (((rd_T42 t292 a1).f2) != (wrap64 (((rd_T42 l0_0 a1).f2) + x13_4))) = false := bne_eq_false_iff_eq.mpr c115
                      clear c115
                      have hend := Aside0.mk (Option.some.inj H)
                      clear H
                      obtain ⟨Ao116, co116, eo116⟩ := Kd.R_slice HO_11.out
                      subst eo116
                      have hnb117 := NB288_301.out
                      have hnc117 := NB301_288.out
                      have hcz118_0 : wr.cell? ⟨gb288, 0, none⟩ = some (.slice A0_0 l0_0.length c0_0) := (blk_cell BK288.out 0).trans rfl
                      have hcz118_1 : wr.cell? ⟨gb288, 1, none⟩ = some (.int .i64 a0_1) := (blk_cell BK288.out 1).trans rfl
                      have hcz118_2 : wr.cell? ⟨gb288, 2, none⟩ = some (.int .i64 a0_2) := (blk_cell BK288.out 2).trans rfl
                      have hfz118_0 := blk_frozen BK288.out 0
                      have hfz118_1 := blk_frozen BK288.out 1
                      have hfz118_2 := blk_frozen BK288.out 2
                      have p305 : 0 ≤ (a1 : Int) := of_decide_eq_true (by first | (with_reducible assumption) | assumption)
                      have q305 : a1 < (l0_0.length : Int) := of_decide_eq_true (by first | (with_reducible assumption) | assumption)
                      obtain ⟨ad305, e305, hx305_0, hx305_1, hx305_2, hx305_3⟩ := at_T42 HR0_0.out a1 p305 q305
                      cases e305
                      replace hx305_0 := (HB.out.cell (World.block_lt_of_cell? w _ hx305_0)).trans hx305_0
                      replace hx305_1 := (HB.out.cell (World.block_lt_of_cell? w _ hx305_1)).trans hx305_1
                      replace hx305_2 := (HB.out.cell (World.block_lt_of_cell? w _ hx305_2)).trans hx305_2
                      replace hx305_3 := (HB.out.cell (World.block_lt_of_cell? w _ hx305_3)).trans hx305_3
                      replace p305 := eq_true p305
                      replace q305 := eq_true q305
                      have p306 : 0 ≤ (a2 : Int) := of_decide_eq_true (by first | (with_reducible assumption) | assumption)
                      have q306 : a2 < (l0_0.length : Int) := of_decide_eq_true (by first | (with_reducible assumption) | assumption)
                      obtain ⟨ad306, e306, hx306_0, hx306_1, hx306_2, hx306_3⟩ := at_T42 HR0_0.out a2 p306 q306
                      obtain rfl : ad305 = ad306 := (by injection e306)
                      replace hx306_0 := (HB.out.cell (World.block_lt_of_cell? w _ hx306_0)).trans hx306_0
                      replace hx306_1 := (HB.out.cell (World.block_lt_of_cell? w _ hx306_1)).trans hx306_1
                      replace hx306_2 := (HB.out.cell (World.block_lt_of_cell? w _ hx306_2)).trans hx306_2
                      replace hx306_3 := (HB.out.cell (World.block_lt_of_cell? w _ hx306_3)).trans hx306_3
                      replace p306 := eq_true p306
                      replace q306 := eq_true q306
                      have hcz119_0 : wr.cell? ⟨gb301, 0, none⟩ = some (.slice Ao66 t292.length co66) := (blk_cell BK301.out 0).trans rfl
                      have hcz119_1 : wr.cell? ⟨gb301, 1, none⟩ = some (.int .i64 t295) := (blk_cell BK301.out 1).trans rfl
                      have hcz119_2 : wr.cell? ⟨gb301, 2, none⟩ = some (.int .i64 t296) := (blk_cell BK301.out 2).trans rfl
                      have hfz119_0 := blk_frozen BK301.out 0
                      have hfz119_1 := blk_frozen BK301.out 1
                      have hfz119_2 := blk_frozen BK301.out 2
                      have p307 : 0 ≤ (a1 : Int) := of_decide_eq_true (by first | (with_reducible assumption) | assumption)
                      have q307 : a1 < (t292.length : Int) := of_decide_eq_true (by first | (with_reducible assumption) | assumption)
                      obtain ⟨ad307, e307, hx307_0, hx307_1, hx307_2, hx307_3⟩ := at_T42 (Kd.R_reads' HO_302000.out).2.2 a1 p307 q307
                      cases e307
                      replace p307 := eq_true p307
                      replace q307 := eq_true q307
                      have p308 : 0 ≤ (a1 : Int) := of_decide_eq_true (by first | (with_reducible assumption) | assumption)
                      have q308 : a1 < (l0_0.length : Int) := of_decide_eq_true (by first | (with_reducible assumption) | assumption)
                      obtain ⟨ad308, e308, hx308_0, hx308_1, hx308_2, hx308_3⟩ := at_T42 HR0_0.out a1 p308 q308
                      obtain rfl : ad305 = ad308 := (by injection e308)
                      replace hx308_0 := (HB.out.cell (World.block_lt_of_cell? w _ hx308_0)).trans hx308_0
                      replace hx308_1 := (HB.out.cell (World.block_lt_of_cell? w _ hx308_1)).trans hx308_1
                      replace hx308_2 := (HB.out.cell (World.block_lt_of_cell? w _ hx308_2)).trans hx308_2
                      replace hx308_3 := (HB.out.cell (World.block_lt_of_cell? w _ hx308_3)).trans hx308_3
                      replace p308 := eq_true p308
                      replace q308 := eq_true q308
                      have p309 : 0 ≤ (a1 : Int) := of_decide_eq_true (by first | (with_reducible assumption) | assumption)
                      have q309 : a1 < (t292.length : Int) := of_decide_eq_true (by first | (with_reducible assumption) | assumption)
                      obtain ⟨ad309, e309, hx309_0, hx309_1, hx309_2, hx309_3⟩ := at_T42 (Kd.R_reads' HO_302000.out).2.2 a1 p309 q309
                      obtain rfl : ad307 = ad309 := (by injection e309)
                      replace p309 := eq_true p309
                      replace q309 := eq_true q309
                      have p310 : 0 ≤ (a1 : Int) := of_decide_eq_true (by first | (with_reducible assumption) | assumption)
                      have q310 : a1 < (l0_0.length : Int) := of_decide_eq_true (by first | (with_reducible assumption) | assumption)
                      obtain ⟨ad310, e310, hx310_0, hx310_1, hx310_2, hx310_3⟩ := at_T42 HR0_0.out a1 p310 q310
                      obtain rfl : ad305 = ad310 := (by injection e310)
                      replace hx310_0 := (HB.out.cell (World.block_lt_of_cell? w _ hx310_0)).trans hx310_0
                      replace hx310_1 := (HB.out.cell (World.block_lt_of_cell? w _ hx310_1)).trans hx310_1
                      replace hx310_2 := (HB.out.cell (World.block_lt_of_cell? w _ hx310_2)).trans hx310_2
                      replace hx310_3 := (HB.out.cell (World.block_lt_of_cell? w _ hx310_3)).trans hx310_3
                      replace p310 := eq_true p310
                      replace q310 := eq_true q310
                      go_wp2
                      repeat (go_quiet (fail); try go_wp2)
                      go_ret
                      exact ⟨by first | rfl | (rw [hend.out]; done) | (simp only [hend.out]; done) | (simp [*]; first | exact hend.out | exact eq_of_beq hend.out | exact of_decide_eq_true hend.out) | (have h_ := hend.out; simp_all; done) | (simp only [← hji112]; first | rfl | (simp [errW_none, errW_some] <;> rfl)) | (simp [*, errW_none, errW_some] <;> rfl), by repeat (first | (with_reducible first | exact HB.out | apply below_alloc | apply pw_below_drewN | apply below_drew1 | refine below_set ?_ GE288.out | refine below_set ?_ GE301.out) | exact HB.out)⟩
                     ·as_aux_lemma =>
                      rw [if_neg c115] at H
                      have c115b0 : (((rd_T42 t292 a1).f2) == (wrap64 (((rd_T42 l0_0 a1).f2) + x13_4))) = false := beq_eq_false_iff_ne.mpr c115
                      have c115b1 : (((rd_T42 t292 a1).f2) != (wrap64 (((rd_T42 l0_0 a1).f2) + x13_4))) = true := bne_iff_ne.mpr c115
                      exact absurd H (by simp)
                    ·as_aux_lemma =>
                     rw [if_neg c114] at H
                     exact absurd H (by simp)
                   ·as_aux_lemma =>
                    rw [if_neg c113] at H
                    have c113b0 : decide ((ji112) ≤ (wrap64 (((rd_T42 l0_0 a1).f1) + ((rd_T42 l0_0 a2).f1)))) = false := decide_eq_false c113
                    clear c113
                    exact absurd H (by simp)
                  ·as_aux_lemma =>
                   replace c111 := Bool.eq_false_iff.mpr c111
                   subst c111
                   rw [if_neg (show ¬ (false = true) by decide)] at H
                   exact absurd H (by simp)
                 ·as_aux_lemma =>
                  rw [if_neg c110] at H
                  exact absurd H (by simp)
                ·as_aux_lemma =>
                 rw [if_neg c109] at H
                 exact absurd H (by simp)
               ·as_aux_lemma =>
                rw [if_neg c108] at H
                exact absurd H (by simp)
              ·as_aux_lemma =>
               rw [if_neg c107] at H
               exact absurd H (by simp)
    ·as_aux_lemma =>
     rw [if_neg c61] at H
     have c61b0 : (t300 == 0) = false := beq_eq_false_iff_ne.mpr c61
     have c61b1 : (t300 != 0) = true := bne_iff_ne.mpr c61
     by_cases c120 : t289 = true
     ·as_aux_lemma =>
      subst c120
      rw [if_pos rfl] at H
      have hend := Aside0.mk (Option.some.inj H)
      clear H
      have hcz121_0 : wc.cell? ⟨gb288, 0, none⟩ = some (.slice A0_0 l0_0.length c0_0) := (blk_cell BK288.out 0).trans rfl
      have hcz121_1 : wc.cell? ⟨gb288, 1, none⟩ = some (.int .i64 a0_1) := (blk_cell BK288.out 1).trans rfl
      have hcz121_2 : wc.cell? ⟨gb288, 2, none⟩ = some (.int .i64 a0_2) := (blk_cell BK288.out 2).trans rfl
      have hfz121_0 := blk_frozen BK288.out 0
      have hfz121_1 := blk_frozen BK288.out 1
      have hfz121_2 := blk_frozen BK288.out 2
      go_wp2_with (first |  (go_at_call 17; (with_reducible refine (queue_Serve.calls kj5 _ _ l0_0 a0_1 a0_2 a3 t292 t295 t296 t297 t300 _ ?side1 ?side2 A60.out).mono ?_); (case side1 => repeat (first | exact (Kd.C_below HR0_0.out HB.out) | (with_reducible refine Kd.C_alloc ?_ _) | (with_reducible refine Kd.C_drewN ?_ _) | (with_reducible refine Kd.C_drew ?_))); (case side2 => exact HC0_0.out); rintro e w122 ⟨v293, v298, rfl, ho0, ho1, hb⟩; have n0_ := Aside0.mk (Kd.R_lower ho0 (below_size (by repeat (first | (with_reducible first | exact HB.out | apply below_alloc | apply pw_below_drewN | apply below_drew1 | refine below_set ?_ GE288.out) | exact HB.out)))); have n1_ := Aside0.mk (Kd.R_lower ho1 (below_size (by repeat (first | (with_reducible first | exact HB.out | apply below_alloc | apply pw_below_drewN | apply below_drew1 | refine below_set ?_ GE288.out) | exact HB.out)))); have n2_ := Aside0.mk (blk_below (g := gb288) (o := .cells #[.slice A0_0 l0_0.length c0_0, .int .i64 a0_1, .int .i64 a0_2] 24 (0, 0)) (by (with_reducible repeat (first | refine blk_drewN ?_ _ | refine blk_drew ?_ | refine blk_alloc ?_ _)); exact BK288.out) hb); have n3_ := Aside0.mk (below_step (by repeat (first | (with_reducible first | exact HB.out | apply below_alloc | apply pw_below_drewN | apply below_drew1 | refine below_set ?_ GE288.out) | exact HB.out)) hb); clear BK288; clear HB; have HO294 := n0_; have HO299 := n1_; have BK288 := n2_; have HB := n3_; clear n0_ n1_ n2_ n3_; (try clear hb); (try clear hb2); (try clear hk); (try clear hi); (try clear ho0); (try clear ho1)) | ((with_reducible refine gate_dst (N := 10) rfl ?_); (try (refine gate_guard (by rfl) ?_; dsimp only)); refine box_event ?hg (N := 10) ?hd (cs := #[.slice none 0 0, .int .i64 0, .int .i64 0]) (t := 24) ?hr ?_; (case hd => rfl); (case hg => rfl); (case hr => first | (go_simp; done) | (go_simp; rfl)); intro gb301 hg w123 hbox hb; have n0_ := Aside0.mk (Kd.R_below (by (with_reducible repeat (first | apply Kd.R_alloc | apply Kd.R_drewN | apply Kd.R_drew)); exact HO294.out) hb); have n1_ := Aside0.mk (Kd.R_below (by (with_reducible repeat (first | apply Kd.R_alloc | apply Kd.R_drewN | apply Kd.R_drew)); exact HO299.out) hb); have n2_ := Aside0.mk (blk_below (g := gb288) (o := .cells #[.slice A0_0 l0_0.length c0_0, .int .i64 a0_1, .int .i64 a0_2] 24 (0, 0)) (by (with_reducible repeat (first | refine blk_drewN ?_ _ | refine blk_drew ?_ | refine blk_alloc ?_ _)); exact BK288.out) hb); have n3_ := Aside0.mk (below_step (by repeat (first | (with_reducible first | exact HB.out | apply below_alloc | apply pw_below_drewN | apply below_drew1 | refine below_set ?_ GE288.out) | exact HB.out)) hb); have n4_ := Aside0.mk (hbox); have n5_ := Aside0.mk ((by rw [hg]; exact (below_size (by repeat (first | (with_reducible first | exact HB.out | apply below_alloc | apply pw_below_drewN | apply below_drew1 | refine below_set ?_ GE288.out) | exact HB.out))) : w.heap.size ≤ gb301)); have n6_ := Aside0.mk ((by rw [hg]; exact (below_size (by repeat (first | (with_reducible first | exact HB.out | apply below_alloc | apply pw_below_drewN | apply below_drew1 | refine below_set ?_ GE288.out) | exact HB.out))) : w.heap.size ≤ gb301)); have n7_ := Aside0.mk ((by rw [hg]; exact Nat.ne_of_lt (blk_lt (g := gb288) (o := .cells #[.slice A0_0 l0_0.length c0_0, .int .i64 a0_1, .int .i64 a0_2] 24 (0, 0)) (by (with_reducible repeat (first | refine blk_drewN ?_ _ | refine blk_drew ?_ | refine blk_alloc ?_ _)); exact BK288.out)) : gb288 ≠ gb301)); have n8_ := Aside0.mk ((by rw [hg]; exact Nat.ne_of_gt (blk_lt (g := gb288) (o := .cells #[.slice A0_0 l0_0.length c0_0, .int .i64 a0_1, .int .i64 a0_2] 24 (0, 0)) (by (with_reducible repeat (first | refine blk_drewN ?_ _ | refine blk_drew ?_ | refine blk_alloc ?_ _)); exact BK288.out)) : gb301 ≠ gb288)); clear HO294; clear HO299; clear BK288; clear HB; have HO294 := n0_; have HO299 := n1_; have BK288 := n2_; have HB := n3_; have BK301 := n4_; have GW301 := n5_; have GE301 := n6_; have NB288_301 := n7_; have NB301_288 := n8_; clear n0_ n1_ n2_ n3_ n4_ n5_ n6_ n7_ n8_; clear hb hbox hg; obtain ⟨Ao124, co124, eo124⟩ := Kd.R_slice HO294.out; subst eo124; have hnb125 := NB301_288.out; have hnc125 := NB288_301.out; have hcz126_0 : w123.cell? ⟨gb301, 0, none⟩ = some (.slice none 0 0) := (blk_cell BK301.out 0).trans rfl; have hcz126_1 : w123.cell? ⟨gb301, 1, none⟩ = some (.int .i64 0) := (blk_cell BK301.out 1).trans rfl; have hcz126_2 : w123.cell? ⟨gb301, 2, none⟩ = some (.int .i64 0) := (blk_cell BK301.out 2).trans rfl; have hfz126_0 := blk_frozen BK301.out 0; have hfz126_1 := blk_frozen BK301.out 1; have hfz126_2 := blk_frozen BK301.out 2) | go_values | go_skip | go_guarded | go_step | go_upon | go_back | (simp only [Int.not_lt, Int.not_le] at *; go_simp) | (go_values <;> (try go_simp)) | (go_ite <;> go_prune <;> (try go_simp)) | (split <;> (first | (rename_i hx; exact (hx _ rfl).elim) | go_prune)) | go_quiet (fail))
      go_ret
      exact ⟨by first | rfl | (rw [hend.out]; done) | (simp only [hend.out]; done) | (simp [*]; first | exact hend.out | exact eq_of_beq hend.out | exact of_decide_eq_true hend.out) | (have h_ := hend.out; simp_all; done) | (simp [*, errW_none, errW_some] <;> rfl), by repeat (first | (with_reducible first | exact HB.out | apply below_alloc | apply pw_below_drewN | apply below_drew1 | refine below_set ?_ GE288.out | refine below_set ?_ GE301.out) | exact HB.out)⟩
     ·as_aux_lemma =>
      replace c120 := Bool.eq_false_iff.mpr c120
      subst c120
      rw [if_neg (show ¬ (false = true) by decide)] at H
      exact absurd H (by simp)

end Go.Proofs.Ytelmcaenemjppaa.Q
