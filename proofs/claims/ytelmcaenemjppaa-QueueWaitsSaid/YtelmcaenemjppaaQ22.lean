-- Written by qprint.py (a program of this session) over the program of the kit that prints contracts. Not trusted: Lean checks it.
import Derived.Test.YtelmcaenemjppaaQ0
import Derived.Test.YtelmcaenemjppaaQ6
import Derived.Test.YtelmcaenemjppaaQ16
import Derived.Test.YtelmcaenemjppaaQ21
namespace Go.Proofs.Ytelmcaenemjppaa.Q
open Go.RowKit Go.Proofs.YtelmcaenemjppaaW.PrintWords Go.Proofs.YtelmcaenemjppaaW.PrintLast Go.Proofs.YtelmcaenemjppaaW.PrintMore
attribute [local go_sem] max2_int min2_int max_two min_two max_three min_three max_four min_four   -- for this text's walks alone
set_option linter.unusedVariables false
set_option linter.unusedSimpArgs false

/-! ### fringelaw42_done: function 30 -/
def fringelaw42_done.j0 : Nat → Int → Int → Bool → List (S42) → Int → Int → Option ((List (S42)) × Int × Int × Int × Bool)
 | 0, _, _, _, _, _, _ => none
 | k + 1, x1, x12, x47, x621000, x621001, x621002 => if x47 = true then (if 0 ≤ x12 then (if x12 < (x621000.length : Int) then ((queue_Drop.f k x621000 x621001 x621002 ((rd_T42 x621000 x12).f0)).bind fun bt631 => (some (bt631.1, bt631.2.1, bt631.2.2.1, (-1), (bt631.2.2.2 == 0)))) else (none)) else (none)) else (if 0 ≤ x12 then (if x12 < (x621000.length : Int) then (if (x621000.length : Int) = 0 then (none) else ((queue_Ask.f k x621000 x621001 x621002 ((rd_T42 x621000 x12).f0) (wrap64 (1 + (Int.tmod (wrap64 (Int.tdiv (wrap64 ((-1) - x1)) (x621000.length : Int))) 5)))).bind fun bt639 => (some (bt639.1, bt639.2.1, bt639.2.2.1, (-1), (bt639.2.2.2 == 0))))) else (none)) else (none))
def fringelaw42_done.f (k : Nat) (l0_0 : List (S42)) (a0_1 : Int) (a0_2 : Int) (a1 : Int) (a2 : Int) : Option ((List (S42)) × Int × Int × Int × Bool) := if a1 ≥ 0 then ((queue_Next.f k l0_0 a0_1 a0_2).bind fun bt622 => (some (bt622.1, bt622.2.1, bt622.2.2.1, bt622.2.2.2.1, (bt622.2.2.2.2 == 0)))) else (if (l0_0.length : Int) = 0 then (none) else (if (Int.tmod (wrap64 (Int.tdiv (wrap64 ((-1) - a1)) (l0_0.length : Int))) 5) = 4 then (fringelaw42_done.j0 k a1 (Int.tmod (wrap64 ((-1) - a1)) (l0_0.length : Int)) ((Int.tmod (wrap64 ((-1) - a1)) (l0_0.length : Int)) != a2) l0_0 a0_1 a0_2) else (fringelaw42_done.j0 k a1 (Int.tmod (wrap64 ((-1) - a1)) (l0_0.length : Int)) false l0_0 a0_1 a0_2)))
theorem fringelaw42_done.mono_l : ∀ k, (∀ y0 y1 y2 y3 y4 y5, LeO (fringelaw42_done.j0 k y0 y1 y2 y3 y4 y5) (fringelaw42_done.j0 (k + 1) y0 y1 y2 y3 y4 y5))
 | 0 => fun _ _ _ _ _ _ r h => by simp [fringelaw42_done.j0] at h
 | k + 1 => by
  have ih0 := fringelaw42_done.mono_l k
  ·intro y0 y1 y2 y3 y4 y5
   unfold fringelaw42_done.j0
   repeat' first
   | (with_reducible exact ih0 _ _ _ _ _ _)
   | (with_reducible exact queue_Ask.mono _ _ _ _ _ _)
   | (with_reducible exact queue_Drop.mono _ _ _ _ _)
   | (with_reducible exact queue_Next.mono _ _ _ _)
   | (with_reducible exact LeO.refl _)
   | (with_reducible exact LeO.none _)
   | (with_reducible refine LeO.ite ?_ ?_)
   | (with_reducible refine LeO.bind ?_ (fun _ => ?_))
   | exact ih0 _ _ _ _ _ _
   | exact queue_Ask.mono _ _ _ _ _ _
   | exact queue_Drop.mono _ _ _ _ _
   | exact queue_Next.mono _ _ _ _
   | exact LeO.none _
   | refine LeO.ite ?_ ?_
   | refine LeO.bind ?_ (fun _ => ?_)
theorem fringelaw42_done.mono : ∀ a0 a1 a2 a3 a4 k, LeO (fringelaw42_done.f k a0 a1 a2 a3 a4) (fringelaw42_done.f (k + 1) a0 a1 a2 a3 a4) := by
 intro a0 a1 a2 a3 a4 k
 have ih0 := fringelaw42_done.mono_l k
 unfold fringelaw42_done.f
 repeat' first
   | (with_reducible exact ih0 _ _ _ _ _ _)
   | (with_reducible exact queue_Ask.mono _ _ _ _ _ _)
   | (with_reducible exact queue_Drop.mono _ _ _ _ _)
   | (with_reducible exact queue_Next.mono _ _ _ _)
   | (with_reducible exact LeO.refl _)
   | (with_reducible exact LeO.none _)
   | (with_reducible refine LeO.ite ?_ ?_)
   | (with_reducible refine LeO.bind ?_ (fun _ => ?_))
   | exact ih0 _ _ _ _ _ _
   | exact queue_Ask.mono _ _ _ _ _ _
   | exact queue_Drop.mono _ _ _ _ _
   | exact queue_Next.mono _ _ _ _
   | exact LeO.none _
   | refine LeO.ite ?_ ?_
   | refine LeO.bind ?_ (fun _ => ?_)
def fringelaw42_done.T6 : Bool × List (List Nat × List Nat) := (true, [([], []), ([], []), ([1], [1]), ([], []), ([2, 3], [2, 3]), ([4], [4]), ([5], [5]), ([0, 6], [0, 6]), ([7], [7]), ([8], [8]), ([8], [8]), ([], []), ([11, 9, 7, 0, 1, 2, 3, 4, 5, 6, 7, 8, 9, 11], [9, 11]), ([10, 12, 0, 1, 2, 3, 4, 5, 6, 7, 8, 9, 10, 11, 12], [10])])
def fringelaw42_done.B6 : List Nat := [0, 0, 2, 0, 14, 30, 62, 127, 255, 511, 511, 0, 3071, 8191]
theorem fringelaw42_done.tab6 : rtab .any (opsOf Try.f30 6) = fringelaw42_done.T6 := by kernel_rfl
theorem fringelaw42_done.bits6 : waitsOk fringelaw42_done.T6.2 fringelaw42_done.B6 = true := by kernel_rfl
def fringelaw42_done.T8 : Bool × List (List Nat × List Nat) := (true, [([], []), ([], []), ([1], [1]), ([], []), ([2, 3], [2, 3]), ([4], [4]), ([5], [5]), ([], []), ([7], [7]), ([], []), ([9], [9]), ([10], [10]), ([8, 11], [8, 11]), ([12], [12]), ([13], [13]), ([0, 6, 14], [0, 6, 14]), ([15], [15]), ([16], [16]), ([16], [16]), ([], []), ([19, 17, 15, 0, 1, 2, 3, 4, 5, 6, 7, 8, 9, 10, 11, 12, 13, 14, 15, 16, 17, 19], [17, 19]), ([18, 20, 0, 1, 2, 3, 4, 5, 6, 7, 8, 9, 10, 11, 12, 13, 14, 15, 16, 17, 18, 19, 20], [18])])
def fringelaw42_done.B8 : List Nat := [0, 0, 2, 0, 14, 30, 62, 0, 128, 0, 512, 1536, 3968, 8064, 16256, 32767, 65535, 131071, 131071, 0, 786431, 2097151]
theorem fringelaw42_done.tab8 : rtab .any (opsOf Try.f30 8) = fringelaw42_done.T8 := by kernel_rfl
theorem fringelaw42_done.bits8 : waitsOk fringelaw42_done.T8.2 fringelaw42_done.B8 = true := by kernel_rfl
set_option maxHeartbeats 8000000 in
set_option maxRecDepth 100000 in
theorem fringelaw42_done.calls (k : Nat) (A0_0 : Option Addr) (c0_0 : Nat) (l0_0 : List (S42)) (a0_1 : Int) (a0_2 : Int) (a1 : Int) (a2 : Int) (r1 : List (S42)) (r2 : Int) (r3 : Int) (r4 : Int) (r5 : Bool) (w : World) (hr0_0 : Kd.C k42 w A0_0 l0_0.length l0_0) (hc0_0 : l0_0.length ≤ c0_0) (h : fringelaw42_done.f k l0_0 a0_1 a0_2 a1 a2 = some (r1, r2, r3, r4, r5)) :
  Calls Try.prog 30 #[.agg #[.slice A0_0 l0_0.length c0_0, .int .i64 a0_1, .int .i64 a0_2], .int .i64 a1, .int .i64 a2] w fun e w' => ∃ v0_ : Value, e = .returned (.tuple #[.agg #[v0_, .int .i64 r2, .int .i64 r3], .int .i64 r4, .bool r5]) ∧ Kd.R k42 42 w' w.heap.size (fun _ => True) v0_ r1 ∧ Below w.heap.size w w' := by
 have hu24 := Try.underlying24
 have HR0_0 := Aside0.mk hr0_0
 have HC0_0 := Aside0.mk hc0_0
 clear hr0_0 hc0_0
 have HB := Aside0.mk (Below.refl w.heap.size w)
 have H : (if a1 ≥ 0 then ((queue_Next.f k l0_0 a0_1 a0_2).bind fun bt622 => (some (bt622.1, bt622.2.1, bt622.2.2.1, bt622.2.2.2.1, (bt622.2.2.2.2 == 0)))) else (if (l0_0.length : Int) = 0 then (none) else (if (Int.tmod (wrap64 (Int.tdiv (wrap64 ((-1) - a1)) (l0_0.length : Int))) 5) = 4 then (fringelaw42_done.j0 k a1 (Int.tmod (wrap64 ((-1) - a1)) (l0_0.length : Int)) ((Int.tmod (wrap64 ((-1) - a1)) (l0_0.length : Int)) != a2) l0_0 a0_1 a0_2) else (fringelaw42_done.j0 k a1 (Int.tmod (wrap64 ((-1) - a1)) (l0_0.length : Int)) false l0_0 a0_1 a0_2)))) = some (r1, r2, r3, r4, r5) := h
 clear h
 by_cases c4 : a1 ≥ 0
 ·rw [if_pos c4] at H
  have c4b0 : decide (0 ≤ a1) = true := decide_eq_true c4
  clear c4
  replace H := Option.bind_eq_some_iff.mp H
  obtain ⟨⟨t622, t625, t626, t627, t628⟩, A50, H⟩ := H
  replace H : (some (t622, t625, t626, t627, (t628 == 0))) = some (r1, r2, r3, r4, r5) := H
  have A5 := Aside0.mk A50
  clear A50
  simp only [Option.some.injEq, Prod.mk.injEq] at H
  obtain ⟨rfl, rfl, rfl, rfl, rfl⟩ := H
  go_enter Try.func30, Try.ntmps30
  go_wp2_with (first | ((with_reducible refine gate_dst (N := 3) rfl ?_); refine box_event ?hg (N := 3) ?hd (cs := #[.slice A0_0 l0_0.length c0_0, .int .i64 a0_1, .int .i64 a0_2]) (t := 24) ?hr ?_; (case hd => rfl); (case hg => rfl); (case hr => first | (go_simp; done) | (go_simp; rfl)); intro gb620 hg w6 hbox hb; have n0_ := Aside0.mk (below_step (by repeat (first | (with_reducible first | exact HB.out | apply below_alloc | apply pw_below_drewN | apply below_drew1) | exact HB.out)) hb); have n1_ := Aside0.mk (hbox); have n2_ := Aside0.mk ((by rw [hg]; exact (below_size (by repeat (first | (with_reducible first | exact HB.out | apply below_alloc | apply pw_below_drewN | apply below_drew1) | exact HB.out))) : w.heap.size ≤ gb620)); have n3_ := Aside0.mk ((by rw [hg]; exact (below_size (by repeat (first | (with_reducible first | exact HB.out | apply below_alloc | apply pw_below_drewN | apply below_drew1) | exact HB.out))) : w.heap.size ≤ gb620)); clear HB; have HB := n0_; have BK620 := n1_; have GW620 := n2_; have GE620 := n3_; clear n0_ n1_ n2_ n3_; clear hb hbox hg) | ((with_reducible refine gate_dst (N := 6) rfl ?_); refine box_event ?hg (N := 6) ?hd (cs := #[.slice none 0 0, .int .i64 0, .int .i64 0]) (t := 24) ?hr ?_; (case hd => rfl); (case hg => rfl); (case hr => first | (go_simp; done) | (go_simp; rfl)); intro gb621 hg w7 hbox hb; have n0_ := Aside0.mk (blk_below (g := gb620) (o := .cells #[.slice A0_0 l0_0.length c0_0, .int .i64 a0_1, .int .i64 a0_2] 24 (0, 0)) (by (with_reducible repeat (first | refine blk_drewN ?_ _ | refine blk_drew ?_ | refine blk_alloc ?_ _)); exact BK620.out) hb); have n1_ := Aside0.mk (below_step (by repeat (first | (with_reducible first | exact HB.out | apply below_alloc | apply pw_below_drewN | apply below_drew1 | refine below_set ?_ GE620.out) | exact HB.out)) hb); have n2_ := Aside0.mk (hbox); have n3_ := Aside0.mk ((by rw [hg]; exact (below_size (by repeat (first | (with_reducible first | exact HB.out | apply below_alloc | apply pw_below_drewN | apply below_drew1 | refine below_set ?_ GE620.out) | exact HB.out))) : w.heap.size ≤ gb621)); have n4_ := Aside0.mk ((by rw [hg]; exact (below_size (by repeat (first | (with_reducible first | exact HB.out | apply below_alloc | apply pw_below_drewN | apply below_drew1 | refine below_set ?_ GE620.out) | exact HB.out))) : w.heap.size ≤ gb621)); have n5_ := Aside0.mk ((by rw [hg]; exact Nat.ne_of_lt (blk_lt (g := gb620) (o := .cells #[.slice A0_0 l0_0.length c0_0, .int .i64 a0_1, .int .i64 a0_2] 24 (0, 0)) (by (with_reducible repeat (first | refine blk_drewN ?_ _ | refine blk_drew ?_ | refine blk_alloc ?_ _)); exact BK620.out)) : gb620 ≠ gb621)); have n6_ := Aside0.mk ((by rw [hg]; exact Nat.ne_of_gt (blk_lt (g := gb620) (o := .cells #[.slice A0_0 l0_0.length c0_0, .int .i64 a0_1, .int .i64 a0_2] 24 (0, 0)) (by (with_reducible repeat (first | refine blk_drewN ?_ _ | refine blk_drew ?_ | refine blk_alloc ?_ _)); exact BK620.out)) : gb621 ≠ gb620)); clear BK620; clear HB; have BK620 := n0_; have HB := n1_; have BK621 := n2_; have GW621 := n3_; have GE621 := n4_; have NB620_621 := n5_; have NB621_620 := n6_; clear n0_ n1_ n2_ n3_ n4_ n5_ n6_; clear hb hbox hg; have hnb8 := NB620_621.out; have hnc8 := NB621_620.out; have hcz9_0 : w7.cell? ⟨gb620, 0, none⟩ = some (.slice A0_0 l0_0.length c0_0) := (blk_cell BK620.out 0).trans rfl; have hcz9_1 : w7.cell? ⟨gb620, 1, none⟩ = some (.int .i64 a0_1) := (blk_cell BK620.out 1).trans rfl; have hcz9_2 : w7.cell? ⟨gb620, 2, none⟩ = some (.int .i64 a0_2) := (blk_cell BK620.out 2).trans rfl; have hfz9_0 := blk_frozen BK620.out 0; have hfz9_1 := blk_frozen BK620.out 1; have hfz9_2 := blk_frozen BK620.out 2) | ((with_reducible refine gate_callee (f := 15) rfl ?_); refine goesL_ (some 21) rfl rfl Try.func15 (by kernel_rfl) rfl #[.agg #[.slice A0_0 l0_0.length c0_0, .int .i64 a0_1, .int .i64 a0_2]] rfl (by (try simp only [List.map_toArray, List.map_cons, List.map_nil]); first | done | rfl | (simp only [List.length_drop, List.length_take]; rfl)) ?_; (with_reducible refine (queue_Next.calls k _ _ l0_0 a0_1 a0_2 t622 t625 t626 t627 t628 _ ?side1 ?side2 A5.out).mono ?_); (case side1 => repeat (first | exact (Kd.C_below HR0_0.out HB.out) | (with_reducible refine Kd.C_alloc ?_ _) | (with_reducible refine Kd.C_drewN ?_ _) | (with_reducible refine Kd.C_drew ?_))); (case side2 => exact HC0_0.out); rintro e w10 ⟨v623, rfl, ho0, hb⟩; refine ⟨_, rfl, ?_⟩; have n0_ := Aside0.mk (Kd.R_lower ho0 (below_size (by repeat (first | (with_reducible first | exact HB.out | apply below_alloc | apply pw_below_drewN | apply below_drew1 | refine below_set ?_ GE620.out | refine below_set ?_ GE621.out) | exact HB.out)))); have n1_ := Aside0.mk (blk_below (g := gb620) (o := .cells #[.slice A0_0 l0_0.length c0_0, .int .i64 a0_1, .int .i64 a0_2] 24 (0, 0)) (by (with_reducible repeat (first | refine blk_drewN ?_ _ | refine blk_drew ?_ | refine blk_alloc ?_ _)); exact BK620.out) hb); have n2_ := Aside0.mk (blk_below (g := gb621) (o := .cells #[.slice none 0 0, .int .i64 0, .int .i64 0] 24 (0, 0)) (by (with_reducible repeat (first | refine blk_drewN ?_ _ | refine blk_drew ?_ | refine blk_alloc ?_ _)); exact BK621.out) hb); have n3_ := Aside0.mk (below_step (by repeat (first | (with_reducible first | exact HB.out | apply below_alloc | apply pw_below_drewN | apply below_drew1 | refine below_set ?_ GE620.out | refine below_set ?_ GE621.out) | exact HB.out)) hb); clear BK620; clear BK621; clear HB; have HO624 := n0_; have BK620 := n1_; have BK621 := n2_; have HB := n3_; clear n0_ n1_ n2_ n3_; (try clear hb); (try clear hb2); (try clear hk); (try clear hi); (try clear ho0)) | ((with_reducible refine gate_dst (N := 9) rfl ?_); refine box_event ?hg (N := 9) ?hd (cs := #[.slice none 0 0, .int .i64 0, .int .i64 0]) (t := 24) ?hr ?_; (case hd => rfl); (case hg => rfl); (case hr => first | (go_simp; done) | (go_simp; rfl)); intro gb629 hg w11 hbox hb; have n0_ := Aside0.mk (Kd.R_below (by (with_reducible repeat (first | apply Kd.R_alloc | apply Kd.R_drewN | apply Kd.R_drew)); exact HO624.out) hb); have n1_ := Aside0.mk (blk_below (g := gb620) (o := .cells #[.slice A0_0 l0_0.length c0_0, .int .i64 a0_1, .int .i64 a0_2] 24 (0, 0)) (by (with_reducible repeat (first | refine blk_drewN ?_ _ | refine blk_drew ?_ | refine blk_alloc ?_ _)); exact BK620.out) hb); have n2_ := Aside0.mk (blk_below (g := gb621) (o := .cells #[.slice none 0 0, .int .i64 0, .int .i64 0] 24 (0, 0)) (by (with_reducible repeat (first | refine blk_drewN ?_ _ | refine blk_drew ?_ | refine blk_alloc ?_ _)); exact BK621.out) hb); have n3_ := Aside0.mk (below_step (by repeat (first | (with_reducible first | exact HB.out | apply below_alloc | apply pw_below_drewN | apply below_drew1 | refine below_set ?_ GE620.out | refine below_set ?_ GE621.out) | exact HB.out)) hb); have n4_ := Aside0.mk (hbox); have n5_ := Aside0.mk ((by rw [hg]; exact (below_size (by repeat (first | (with_reducible first | exact HB.out | apply below_alloc | apply pw_below_drewN | apply below_drew1 | refine below_set ?_ GE620.out | refine below_set ?_ GE621.out) | exact HB.out))) : w.heap.size ≤ gb629)); have n6_ := Aside0.mk ((by rw [hg]; exact (below_size (by repeat (first | (with_reducible first | exact HB.out | apply below_alloc | apply pw_below_drewN | apply below_drew1 | refine below_set ?_ GE620.out | refine below_set ?_ GE621.out) | exact HB.out))) : w.heap.size ≤ gb629)); have n7_ := Aside0.mk ((by rw [hg]; exact Nat.ne_of_lt (blk_lt (g := gb620) (o := .cells #[.slice A0_0 l0_0.length c0_0, .int .i64 a0_1, .int .i64 a0_2] 24 (0, 0)) (by (with_reducible repeat (first | refine blk_drewN ?_ _ | refine blk_drew ?_ | refine blk_alloc ?_ _)); exact BK620.out)) : gb620 ≠ gb629)); have n8_ := Aside0.mk ((by rw [hg]; exact Nat.ne_of_gt (blk_lt (g := gb620) (o := .cells #[.slice A0_0 l0_0.length c0_0, .int .i64 a0_1, .int .i64 a0_2] 24 (0, 0)) (by (with_reducible repeat (first | refine blk_drewN ?_ _ | refine blk_drew ?_ | refine blk_alloc ?_ _)); exact BK620.out)) : gb629 ≠ gb620)); have n9_ := Aside0.mk ((by rw [hg]; exact Nat.ne_of_lt (blk_lt (g := gb621) (o := .cells #[.slice none 0 0, .int .i64 0, .int .i64 0] 24 (0, 0)) (by (with_reducible repeat (first | refine blk_drewN ?_ _ | refine blk_drew ?_ | refine blk_alloc ?_ _)); exact BK621.out)) : gb621 ≠ gb629)); have n10_ := Aside0.mk ((by rw [hg]; exact Nat.ne_of_gt (blk_lt (g := gb621) (o := .cells #[.slice none 0 0, .int .i64 0, .int .i64 0] 24 (0, 0)) (by (with_reducible repeat (first | refine blk_drewN ?_ _ | refine blk_drew ?_ | refine blk_alloc ?_ _)); exact BK621.out)) : gb629 ≠ gb621)); clear HO624; clear BK620; clear BK621; clear HB; have HO624 := n0_; have BK620 := n1_; have BK621 := n2_; have HB := n3_; have BK629 := n4_; have GW629 := n5_; have GE629 := n6_; have NB620_629 := n7_; have NB629_620 := n8_; have NB621_629 := n9_; have NB629_621 := n10_; clear n0_ n1_ n2_ n3_ n4_ n5_ n6_ n7_ n8_ n9_ n10_; clear hb hbox hg; obtain ⟨Ao12, co12, eo12⟩ := Kd.R_slice HO624.out; subst eo12; have hnb13 := NB629_620.out; have hnc13 := NB620_629.out; have hnb14 := NB629_621.out; have hnc14 := NB621_629.out; have hcz15_0 : w11.cell? ⟨gb629, 0, none⟩ = some (.slice none 0 0) := (blk_cell BK629.out 0).trans rfl; have hcz15_1 : w11.cell? ⟨gb629, 1, none⟩ = some (.int .i64 0) := (blk_cell BK629.out 1).trans rfl; have hcz15_2 : w11.cell? ⟨gb629, 2, none⟩ = some (.int .i64 0) := (blk_cell BK629.out 2).trans rfl; have hfz15_0 := blk_frozen BK629.out 0; have hfz15_1 := blk_frozen BK629.out 1; have hfz15_2 := blk_frozen BK629.out 2; have hcz16_0 : w11.cell? ⟨gb621, 0, none⟩ = some (.slice none 0 0) := (blk_cell BK621.out 0).trans rfl; have hcz16_1 : w11.cell? ⟨gb621, 1, none⟩ = some (.int .i64 0) := (blk_cell BK621.out 1).trans rfl; have hcz16_2 : w11.cell? ⟨gb621, 2, none⟩ = some (.int .i64 0) := (blk_cell BK621.out 2).trans rfl; have hfz16_0 := blk_frozen BK621.out 0; have hfz16_1 := blk_frozen BK621.out 1; have hfz16_2 := blk_frozen BK621.out 2))
  refine bodyPost_ret (results_ctt rfl _ _ gb621 24 #[.slice Ao12 t622.length co12, .int .i64 t625, .int .i64 t626] (0, 0) _ rfl (by (with_reducible repeat (first | refine blk_drewN ?_ _ | refine blk_drew ?_ | refine blk_alloc ?_ _)); refine blk_put (cs := #[.slice Ao12 t622.length co12, .int .i64 t625, .int .i64 0]) ?_ 2 _ rfl; (with_reducible repeat (first | refine blk_drewN ?_ _ | refine blk_drew ?_ | refine blk_alloc ?_ _)); refine blk_put (cs := #[.slice Ao12 t622.length co12, .int .i64 0, .int .i64 0]) ?_ 1 _ rfl; (with_reducible repeat (first | refine blk_drewN ?_ _ | refine blk_drew ?_ | refine blk_alloc ?_ _)); refine blk_put (cs := #[.slice none 0 0, .int .i64 0, .int .i64 0]) ?_ 0 _ rfl; (with_reducible repeat (first | refine blk_drewN ?_ _ | refine blk_drew ?_ | refine blk_alloc ?_ _)); refine blk_far ?_ NB621_629.out _; (with_reducible repeat (first | refine blk_drewN ?_ _ | refine blk_drew ?_ | refine blk_alloc ?_ _)); refine blk_far ?_ NB621_629.out _; (with_reducible repeat (first | refine blk_drewN ?_ _ | refine blk_drew ?_ | refine blk_alloc ?_ _)); refine blk_far ?_ NB621_629.out _; (with_reducible repeat (first | refine blk_drewN ?_ _ | refine blk_drew ?_ | refine blk_alloc ?_ _)); exact BK621.out) Try.underlying24 rfl (by kernel_rfl)) rfl ?_
  exact ⟨_, by first | rfl | (simp [errW_none, errW_some] <;> rfl) | (simp [*, errW_none, errW_some] <;> rfl), by (with_reducible repeat (first | apply Kd.R_alloc | apply Kd.R_drewN | apply Kd.R_drew)); exact Kd.R_mono (Kd.R_far (p := ⟨gb621, 2, none⟩) (Kd.R_far (p := ⟨gb621, 1, none⟩) (Kd.R_far (p := ⟨gb621, 0, none⟩) (Kd.R_far (p := ⟨gb629, 2, none⟩) (Kd.R_far (p := ⟨gb629, 1, none⟩) (Kd.R_far (p := ⟨gb629, 0, none⟩) (Kd.R_types (Kd.R_types HO624.out BK629.out (by decide)) BK621.out (by decide)) (fun _ hk => hk.1.2) (.slice Ao12 t622.length co12)) (fun _ hk => hk.1.2) (.int .i64 t625)) (fun _ hk => hk.1.2) (.int .i64 t626)) (fun _ hk => hk.2) (.slice Ao12 t622.length co12)) (fun _ hk => hk.2) (.int .i64 t625)) (fun _ hk => hk.2) (.int .i64 t626)) (fun _ hk => trivial), by repeat (first | (with_reducible first | exact HB.out | apply below_alloc | apply pw_below_drewN | apply below_drew1 | refine below_set ?_ GE620.out | refine below_set ?_ GE621.out | refine below_set ?_ GE629.out) | exact HB.out)⟩
 ·rw [if_neg c4] at H
  have c4b0 : decide (0 ≤ a1) = false := decide_eq_false c4
  clear c4
  by_cases c17 : (l0_0.length : Int) = 0
  ·rw [if_pos c17] at H
   exact absurd H (by simp)
  ·rw [if_neg c17] at H
   have c17b0 : ((l0_0.length : Int) == 0) = false := beq_eq_false_iff_ne.mpr c17
   have c17b1 : ((l0_0.length : Int) != 0) = true := bne_iff_ne.mpr c17
   have c17b2 : ¬ (l0_0 = []) := fun h_ => c17 (by rw [h_]; rfl)
   have HC18 := Aside0.mk H
   clear H
   go_enter Try.func30, Try.ntmps30
   go_upto_region 5 with (first | ((with_reducible refine gate_dst (N := 3) rfl ?_); refine box_event ?hg (N := 3) ?hd (cs := #[.slice A0_0 l0_0.length c0_0, .int .i64 a0_1, .int .i64 a0_2]) (t := 24) ?hr ?_; (case hd => rfl); (case hg => rfl); (case hr => first | (go_simp; done) | (go_simp; rfl)); intro gb620 hg w19 hbox hb; have n0_ := Aside0.mk (below_step (by repeat (first | (with_reducible first | exact HB.out | apply below_alloc | apply pw_below_drewN | apply below_drew1) | exact HB.out)) hb); have n1_ := Aside0.mk (hbox); have n2_ := Aside0.mk ((by rw [hg]; exact (below_size (by repeat (first | (with_reducible first | exact HB.out | apply below_alloc | apply pw_below_drewN | apply below_drew1) | exact HB.out))) : w.heap.size ≤ gb620)); have n3_ := Aside0.mk ((by rw [hg]; exact (below_size (by repeat (first | (with_reducible first | exact HB.out | apply below_alloc | apply pw_below_drewN | apply below_drew1) | exact HB.out))) : w.heap.size ≤ gb620)); clear HB; have HB := n0_; have BK620 := n1_; have GW620 := n2_; have GE620 := n3_; clear n0_ n1_ n2_ n3_; clear hb hbox hg) | ((with_reducible refine gate_dst (N := 6) rfl ?_); refine box_event ?hg (N := 6) ?hd (cs := #[.slice none 0 0, .int .i64 0, .int .i64 0]) (t := 24) ?hr ?_; (case hd => rfl); (case hg => rfl); (case hr => first | (go_simp; done) | (go_simp; rfl)); intro gb621 hg w20 hbox hb; have n0_ := Aside0.mk (blk_below (g := gb620) (o := .cells #[.slice A0_0 l0_0.length c0_0, .int .i64 a0_1, .int .i64 a0_2] 24 (0, 0)) (by (with_reducible repeat (first | refine blk_drewN ?_ _ | refine blk_drew ?_ | refine blk_alloc ?_ _)); exact BK620.out) hb); have n1_ := Aside0.mk (below_step (by repeat (first | (with_reducible first | exact HB.out | apply below_alloc | apply pw_below_drewN | apply below_drew1 | refine below_set ?_ GE620.out) | exact HB.out)) hb); have n2_ := Aside0.mk (hbox); have n3_ := Aside0.mk ((by rw [hg]; exact (below_size (by repeat (first | (with_reducible first | exact HB.out | apply below_alloc | apply pw_below_drewN | apply below_drew1 | refine below_set ?_ GE620.out) | exact HB.out))) : w.heap.size ≤ gb621)); have n4_ := Aside0.mk ((by rw [hg]; exact (below_size (by repeat (first | (with_reducible first | exact HB.out | apply below_alloc | apply pw_below_drewN | apply below_drew1 | refine below_set ?_ GE620.out) | exact HB.out))) : w.heap.size ≤ gb621)); have n5_ := Aside0.mk ((by rw [hg]; exact Nat.ne_of_lt (blk_lt (g := gb620) (o := .cells #[.slice A0_0 l0_0.length c0_0, .int .i64 a0_1, .int .i64 a0_2] 24 (0, 0)) (by (with_reducible repeat (first | refine blk_drewN ?_ _ | refine blk_drew ?_ | refine blk_alloc ?_ _)); exact BK620.out)) : gb620 ≠ gb621)); have n6_ := Aside0.mk ((by rw [hg]; exact Nat.ne_of_gt (blk_lt (g := gb620) (o := .cells #[.slice A0_0 l0_0.length c0_0, .int .i64 a0_1, .int .i64 a0_2] 24 (0, 0)) (by (with_reducible repeat (first | refine blk_drewN ?_ _ | refine blk_drew ?_ | refine blk_alloc ?_ _)); exact BK620.out)) : gb621 ≠ gb620)); clear BK620; clear HB; have BK620 := n0_; have HB := n1_; have BK621 := n2_; have GW621 := n3_; have GE621 := n4_; have NB620_621 := n5_; have NB621_620 := n6_; clear n0_ n1_ n2_ n3_ n4_ n5_ n6_; clear hb hbox hg; have hnb21 := NB620_621.out; have hnc21 := NB621_620.out; have hcz22_0 : w20.cell? ⟨gb620, 0, none⟩ = some (.slice A0_0 l0_0.length c0_0) := (blk_cell BK620.out 0).trans rfl; have hcz22_1 : w20.cell? ⟨gb620, 1, none⟩ = some (.int .i64 a0_1) := (blk_cell BK620.out 1).trans rfl; have hcz22_2 : w20.cell? ⟨gb620, 2, none⟩ = some (.int .i64 a0_2) := (blk_cell BK620.out 2).trans rfl; have hfz22_0 := blk_frozen BK620.out 0; have hfz22_1 := blk_frozen BK620.out 1; have hfz22_2 := blk_frozen BK620.out 2))
   (try simp only [Act.put, List.setIfInBounds_toArray, List.set_cons_zero, List.set_cons_succ])
   go_cut [47] (fun v47 wc => ∃ (kq : Nat) (x47_17 : Bool), v47 = .bool x47_17 ∧ Aside0 (fringelaw42_done.j0 kq a1 (Int.tmod (wrap64 ((-1) - a1)) (l0_0.length : Int)) x47_17 l0_0 a0_1 a0_2 = some (r1, r2, r3, r4, r5)) ∧ Aside0 (kq ≤ k) ∧ Aside0 (wc.heap[gb620]? = some (.cells #[(.slice A0_0 l0_0.length c0_0), .int .i64 a0_1, .int .i64 a0_2] 24 (0, 0))) ∧ Aside0 (wc.heap[gb621]? = some (.cells #[(.slice none 0 0), .int .i64 0, .int .i64 0] 24 (0, 0))) ∧ Aside0 (Below w.heap.size w wc))
   case first =>
    have H := HC18.out
    clear HC18
    by_cases c23 : (Int.tmod (wrap64 (Int.tdiv (wrap64 ((-1) - a1)) (l0_0.length : Int))) 5) = 4
    ·rw [if_pos c23] at H
     have c23b0 : ((Int.tmod (wrap64 (Int.tdiv (wrap64 ((-1) - a1)) (l0_0.length : Int))) 5) == 4) = true := beq_iff_eq.mpr c23
     have c23b1 : ((Int.tmod (wrap64 (Int.tdiv (wrap64 ((-1) - a1)) (l0_0.length : Int))) 5) != 4) = false := bne_eq_false_iff_eq.mpr c23
     clear c23
     (first | rw [c23b0] | (simp only [i64_w, i32_w]; rw [c23b0]) | skip)
     have H' := Aside0.mk H
     clear H
     have hnb24 := NB620_621.out
     have hnc24 := NB621_620.out
     have hcz25_0 : w20.cell? ⟨gb620, 0, none⟩ = some (.slice A0_0 l0_0.length c0_0) := (blk_cell BK620.out 0).trans rfl
     have hcz25_1 : w20.cell? ⟨gb620, 1, none⟩ = some (.int .i64 a0_1) := (blk_cell BK620.out 1).trans rfl
     have hcz25_2 : w20.cell? ⟨gb620, 2, none⟩ = some (.int .i64 a0_2) := (blk_cell BK620.out 2).trans rfl
     have hfz25_0 := blk_frozen BK620.out 0
     have hfz25_1 := blk_frozen BK620.out 1
     have hfz25_2 := blk_frozen BK620.out 2
     go_wp2
     go_meet
     case rel => exact ⟨_, (((Int.tmod (wrap64 ((-1) - a1)) (l0_0.length : Int)) != a2)), (by first | rfl | (simp; done) | (simp [*]; done)), H', ⟨by first | omega | exact Nat.le_refl _⟩, ⟨by (with_reducible repeat (first | refine blk_drewN ?_ _ | refine blk_drew ?_ | refine blk_alloc ?_ _)); exact BK620.out⟩, ⟨by (with_reducible repeat (first | refine blk_drewN ?_ _ | refine blk_drew ?_ | refine blk_alloc ?_ _)); exact BK621.out⟩, ⟨by repeat (first | (with_reducible first | exact HB.out | apply below_alloc | apply pw_below_drewN | apply below_drew1 | refine below_set ?_ GE620.out | refine below_set ?_ GE621.out) | exact HB.out)⟩⟩
    ·rw [if_neg c23] at H
     have c23b0 : ((Int.tmod (wrap64 (Int.tdiv (wrap64 ((-1) - a1)) (l0_0.length : Int))) 5) == 4) = false := beq_eq_false_iff_ne.mpr c23
     have c23b1 : ((Int.tmod (wrap64 (Int.tdiv (wrap64 ((-1) - a1)) (l0_0.length : Int))) 5) != 4) = true := bne_iff_ne.mpr c23
     (first | rw [c23b0] | (simp only [i64_w, i32_w]; rw [c23b0]) | skip)
     have H' := Aside0.mk H
     clear H
     have hnb26 := NB620_621.out
     have hnc26 := NB621_620.out
     have hcz27_0 : w20.cell? ⟨gb620, 0, none⟩ = some (.slice A0_0 l0_0.length c0_0) := (blk_cell BK620.out 0).trans rfl
     have hcz27_1 : w20.cell? ⟨gb620, 1, none⟩ = some (.int .i64 a0_1) := (blk_cell BK620.out 1).trans rfl
     have hcz27_2 : w20.cell? ⟨gb620, 2, none⟩ = some (.int .i64 a0_2) := (blk_cell BK620.out 2).trans rfl
     have hfz27_0 := blk_frozen BK620.out 0
     have hfz27_1 := blk_frozen BK620.out 1
     have hfz27_2 := blk_frozen BK620.out 2
     go_wp2
     go_meet
     case rel => exact ⟨_, (false), (by first | rfl | (simp; done) | (simp [*]; done)), H', ⟨by first | omega | exact Nat.le_refl _⟩, ⟨by (with_reducible repeat (first | refine blk_drewN ?_ _ | refine blk_drew ?_ | refine blk_alloc ?_ _)); exact BK620.out⟩, ⟨by (with_reducible repeat (first | refine blk_drewN ?_ _ | refine blk_drew ?_ | refine blk_alloc ?_ _)); exact BK621.out⟩, ⟨by repeat (first | (with_reducible first | exact HB.out | apply below_alloc | apply pw_below_drewN | apply below_drew1 | refine below_set ?_ GE620.out | refine below_set ?_ GE621.out) | exact HB.out)⟩⟩
   case rest =>
    clear HC18
    try clear c1
    try clear c2
    try clear p2
    try clear c3
    try clear c4
    try clear c4b0
    try clear p6
    try clear c8
    try clear c13
    try clear c14
    try clear c15
    try clear c17
    try clear c17b0
    try clear c17b1
    try clear c17b2
    try clear c21
    try clear c23
    try clear c23b0
    try clear c23b1
    try clear c24
    try clear c26
    try clear hcz15_0
    try clear hcz15_1
    try clear hcz15_2
    try clear hcz16_0
    try clear hcz16_1
    try clear hcz16_2
    try clear hcz22_0
    try clear hcz22_1
    try clear hcz22_2
    try clear hcz25_0
    try clear hcz25_1
    try clear hcz25_2
    try clear hcz27_0
    try clear hcz27_1
    try clear hcz27_2
    try clear hcz9_0
    try clear hcz9_1
    try clear hcz9_2
    try clear hfz15_0
    try clear hfz15_1
    try clear hfz15_2
    try clear hfz16_0
    try clear hfz16_1
    try clear hfz16_2
    try clear hfz22_0
    try clear hfz22_1
    try clear hfz22_2
    try clear hfz25_0
    try clear hfz25_1
    try clear hfz25_2
    try clear hfz27_0
    try clear hfz27_1
    try clear hfz27_2
    try clear hfz9_0
    try clear hfz9_1
    try clear hfz9_2
    obtain ⟨kq, x47_17, rfl, HA, HJ17, BK620, BK621, HB⟩ := hcut
    cases kq with
    | zero => exact absurd HA.out (by simp [fringelaw42_done.j0])
    | succ kj17 =>
     have H := HA.out
     clear HA
     simp only [fringelaw42_done.j0] at H
     by_cases c28 : x47_17 = true
     ·subst c28
      have H1 : (if 0 ≤ (Int.tmod (wrap64 ((-1) - a1)) (l0_0.length : Int)) then (if (Int.tmod (wrap64 ((-1) - a1)) (l0_0.length : Int)) < (l0_0.length : Int) then ((queue_Drop.f kj17 l0_0 a0_1 a0_2 ((rd_T42 l0_0 (Int.tmod (wrap64 ((-1) - a1)) (l0_0.length : Int))).f0)).bind fun bt631 => (some (bt631.1, bt631.2.1, bt631.2.2.1, (-1), (bt631.2.2.2 == 0)))) else (none)) else (none)) = some (r1, r2, r3, r4, r5) := by first | (with_reducible rfl) | (rw [if_pos rfl] at H; exact H)
      clear H
      have H := H1
      clear H1
      obtain ⟨ji29, hji29⟩ : ∃ j_ : Int, (Int.tmod (wrap64 ((-1) - a1)) (l0_0.length : Int)) = j_ := ⟨_, rfl⟩
      replace H : (if 0 ≤ (ji29) then (if (ji29) < (l0_0.length : Int) then ((queue_Drop.f kj17 l0_0 a0_1 a0_2 ((rd_T42 l0_0 (ji29)).f0)).bind fun bt631 => (some (bt631.1, bt631.2.1, bt631.2.2.1, (-1), (bt631.2.2.2 == 0)))) else (none)) else (none)) = some (r1, r2, r3, r4, r5) := by first | (rw [hji29] at H; exact H) | (simp only [hji29] at H ⊢; exact H)
      by_cases c30 : 0 ≤ (ji29)
      ·rw [if_pos c30] at H
       have c30b0 : decide (0 ≤ (ji29)) = true := decide_eq_true c30
       clear c30
       by_cases c31 : (ji29) < (l0_0.length : Int)
       ·rw [if_pos c31] at H
        have c31b0 : decide ((ji29) < (l0_0.length : Int)) = true := decide_eq_true c31
        clear c31
        replace H := Option.bind_eq_some_iff.mp H
        obtain ⟨⟨t631, t634, t635, t636⟩, A320, H⟩ := H
        replace H : (some (t631, t634, t635, (-1), (t636 == 0))) = some (r1, r2, r3, r4, r5) := H
        have A32 := Aside0.mk A320
        clear A320
        simp only [Option.some.injEq, Prod.mk.injEq] at H
        obtain ⟨rfl, rfl, rfl, rfl, rfl⟩ := H
        try go_wp2
        have n0_ := Aside0.mk (blk_drew BK620.out)
        have n1_ := Aside0.mk (blk_drew BK621.out)
        have n2_ := Aside0.mk (below_drew1 HB.out)
        clear BK620
        clear BK621
        clear HB
        have BK620 := n0_
        have BK621 := n1_
        have HB := n2_
        clear n0_ n1_ n2_
        have p630 : 0 ≤ ((ji29) : Int) := of_decide_eq_true (by first | (with_reducible assumption) | assumption)
        have q630 : (ji29) < (l0_0.length : Int) := of_decide_eq_true (by first | (with_reducible assumption) | assumption)
        obtain ⟨ad630, e630, hx630_0, hx630_1, hx630_2, hx630_3⟩ := at_T42 HR0_0.out (ji29) p630 q630
        have hw630_3 := hx630_3
        have hw630_2 := hx630_2
        have hw630_1 := hx630_1
        have hw630_0 := hx630_0
        cases e630
        replace hx630_0 := (HB.out.cell (World.block_lt_of_cell? w _ hx630_0)).trans hx630_0
        replace hx630_1 := (HB.out.cell (World.block_lt_of_cell? w _ hx630_1)).trans hx630_1
        replace hx630_2 := (HB.out.cell (World.block_lt_of_cell? w _ hx630_2)).trans hx630_2
        replace hx630_3 := (HB.out.cell (World.block_lt_of_cell? w _ hx630_3)).trans hx630_3
        replace p630 := eq_true p630
        replace q630 := eq_true q630
        refine start_ (n := 14) (S := fun w' => w'.cell? ⟨gb620, 0, none⟩ = some (.slice (some ad630) l0_0.length c0_0) ∧ w'.cell? ⟨gb620, 1, none⟩ = some (.int .i64 a0_1) ∧ w'.cell? ⟨gb620, 2, none⟩ = some (.int .i64 a0_2) ∧ w'.cell? (ad630.add (((ji29)).toNat * 4)) = some (.string ((rd_T42 l0_0 (ji29)).f0)) ∧ w'.cell? ⟨(ad630.add (((ji29)).toNat * 4)).block, (ad630.add (((ji29)).toNat * 4)).off + 1, none⟩ = some (.int .i64 ((rd_T42 l0_0 (ji29)).f1)) ∧ w'.cell? ⟨(ad630.add (((ji29)).toNat * 4)).block, (ad630.add (((ji29)).toNat * 4)).off + 2, none⟩ = some (.int .i64 ((rd_T42 l0_0 (ji29)).f2)) ∧ w'.cell? ⟨(ad630.add (((ji29)).toNat * 4)).block, (ad630.add (((ji29)).toNat * 4)).off + 3, none⟩ = some (.int .i64 ((rd_T42 l0_0 (ji29)).f3))) (ds := []) #[false, false, false, false, false, false, false, false, false, false, false, false, false, false] (by kernel_rfl) rfl rfl ⟨(blk_cell BK620.out 0).trans rfl, (blk_cell BK620.out 1).trans rfl, (blk_cell BK620.out 2).trans rfl, ((HB.out.cell (World.block_lt_of_cell? w _ hw630_0)).trans hw630_0), ((HB.out.cell (World.block_lt_of_cell? w _ hw630_1)).trans hw630_1), ((HB.out.cell (World.block_lt_of_cell? w _ hw630_2)).trans hw630_2), ((HB.out.cell (World.block_lt_of_cell? w _ hw630_3)).trans hw630_3)⟩ (fun hHeld => ?_); refine with_tabW fringelaw42_done.tab6 fringelaw42_done.bits6 (fun HT_ HW_ => ?_)
        generalize wc.drew = w33 at BK620 BK621 HB hx630_0 hx630_1 hx630_2 hx630_3 hHeld ⊢
        refine pure_ (i := 1) (N := some 50) (v := ?_) (a' := ?_) #[false, true, false, false, false, false, false, false, false, false, false, false, false, false] rfl rfl (any_of HT_.out (by kernel_rfl)) (fun _ _ _ h => h) (Or.inl ⟨by rfl, ?_⟩) ?_ ?_
        rotate_left
        ·intro w'
         go_simp
         with_reducible rfl
        rotate_left
        ·simp only [Act.put, List.setIfInBounds_toArray, List.set_cons_zero, List.set_cons_succ, i64_w, i32_w]
         rfl
        refine pure_ (i := 3) (N := some 52) (v := ?_) (a' := ?_) #[false, true, false, true, false, false, false, false, false, false, false, false, false, false] rfl rfl (any_of HT_.out (by kernel_rfl)) (fun _ _ _ h => h) (Or.inl ⟨by rfl, ?_⟩) ?_ ?_
        rotate_left
        ·intro w'
         go_simp
         with_reducible rfl
        rotate_left
        ·simp only [Act.put, List.setIfInBounds_toArray, List.set_cons_zero, List.set_cons_succ, i64_w, i32_w]
         rfl
        refine take_ (i := 0) (N := some 49) (v := ?_) (a' := ?_) #[true, true, false, true, false, false, false, false, false, false, false, false, false, false] rfl rfl (take_ofW HT_.out HW_.out (by kernel_rfl)) (fun _ _ _ h => h) (Or.inl ⟨by rfl, ?_⟩) hHeld ?_ ?_
        rotate_left
        ·rintro w' ⟨s0, s1, s2, s3, s4, s5, s6⟩
         go_simp
         with_reducible rfl
        rotate_left
        ·simp only [Act.put, List.setIfInBounds_toArray, List.set_cons_zero, List.set_cons_succ, i64_w, i32_w]
         rfl
        refine take_ (i := 2) (N := some 51) (v := ?_) (a' := ?_) #[true, true, true, true, false, false, false, false, false, false, false, false, false, false] rfl rfl (take_ofW HT_.out HW_.out (by kernel_rfl)) (fun _ _ _ h => h) (Or.inl ⟨by rfl, ?_⟩) hHeld ?_ ?_
        rotate_left
        ·rintro w' ⟨s0, s1, s2, s3, s4, s5, s6⟩
         go_simp
         with_reducible rfl
        rotate_left
        ·simp only [Act.put, List.setIfInBounds_toArray, List.set_cons_zero, List.set_cons_succ, i64_w, i32_w]
         rfl
        refine pure_ (i := 4) (N := some 53) (v := ?_) (a' := ?_) #[true, true, true, true, true, false, false, false, false, false, false, false, false, false] rfl rfl (any_of HT_.out (by kernel_rfl)) (fun _ _ _ h => h) (Or.inl ⟨by rfl, ?_⟩) ?_ ?_
        rotate_left
        ·intro w'
         go_simp
         with_reducible rfl
        rotate_left
        ·simp only [Act.put, List.setIfInBounds_toArray, List.set_cons_zero, List.set_cons_succ, i64_w, i32_w]
         rfl
        refine pure_ (i := 5) (N := some 54) (v := ?_) (a' := ?_) #[true, true, true, true, true, true, false, false, false, false, false, false, false, false] rfl rfl (any_of HT_.out (by kernel_rfl)) (fun _ _ _ h => h) (Or.inl ⟨by rfl, ?_⟩) ?_ ?_
        rotate_left
        ·intro w'
         go_simp
         with_reducible rfl
        rotate_left
        ·simp only [Act.put, List.setIfInBounds_toArray, List.set_cons_zero, List.set_cons_succ, i64_w, i32_w]
         rfl
        refine take_ (i := 6) (N := some 55) (v := ?_) (a' := ?_) #[true, true, true, true, true, true, true, false, false, false, false, false, false, false] rfl rfl (take_ofW HT_.out HW_.out (by kernel_rfl)) (fun _ _ _ h => h) (Or.inl ⟨by rfl, ?_⟩) hHeld ?_ ?_
        rotate_left
        ·rintro w' ⟨s0, s1, s2, s3, s4, s5, s6⟩
         go_simp
         with_reducible rfl
        rotate_left
        ·simp only [Act.put, List.setIfInBounds_toArray, List.set_cons_zero, List.set_cons_succ, i64_w, i32_w]
         rfl
        refine join_ (σ := Value × Nat) 2 #[true, true, true, true, true, true, true, true, true, true, true, true, false, false] (fun s_ => [(56, .tuple #[.agg #[s_.1, .int .i64 t634, .int .i64 t635], .int .i64 t636]), (13, .pointer (some ⟨s_.2, 0, none⟩)), (48, .tuple #[.agg #[s_.1, .int .i64 t634, .int .i64 t635], .int .i64 t636]), (57, .agg #[s_.1, .int .i64 t634, .int .i64 t635]), (58, .int .i64 t636)]) (fun s_ w' => (w'.cell? ⟨gb620, 0, none⟩ = some (.slice (some ad630) l0_0.length c0_0) ∧ w'.cell? ⟨gb620, 1, none⟩ = some (.int .i64 a0_1) ∧ w'.cell? ⟨gb620, 2, none⟩ = some (.int .i64 a0_2) ∧ w'.cell? (ad630.add (((ji29)).toNat * 4)) = some (.string ((rd_T42 l0_0 (ji29)).f0)) ∧ w'.cell? ⟨(ad630.add (((ji29)).toNat * 4)).block, (ad630.add (((ji29)).toNat * 4)).off + 1, none⟩ = some (.int .i64 ((rd_T42 l0_0 (ji29)).f1)) ∧ w'.cell? ⟨(ad630.add (((ji29)).toNat * 4)).block, (ad630.add (((ji29)).toNat * 4)).off + 2, none⟩ = some (.int .i64 ((rd_T42 l0_0 (ji29)).f2)) ∧ w'.cell? ⟨(ad630.add (((ji29)).toNat * 4)).block, (ad630.add (((ji29)).toNat * 4)).off + 3, none⟩ = some (.int .i64 ((rd_T42 l0_0 (ji29)).f3))) ∧ (Kd.R k42 42 w' w.heap.size (fun _ => True) s_.1 t631) ∧ (w'.heap[gb620]? = some (.cells #[.slice (some ad630) l0_0.length c0_0, .int .i64 a0_1, .int .i64 a0_2] 24 (0, 0))) ∧ (w'.heap[gb621]? = some (.cells #[.slice none 0 0, .int .i64 0, .int .i64 0] 24 (0, 0))) ∧ (w'.heap[s_.2]? = some (.cells #[.slice none 0 0, .int .i64 0, .int .i64 0] 24 (0, 0))) ∧ (w.heap.size ≤ s_.2) ∧ (w.heap.size ≤ s_.2) ∧ (gb620 ≠ s_.2) ∧ (s_.2 ≠ gb620) ∧ (gb621 ≠ s_.2) ∧ (s_.2 ≠ gb621) ∧ (Below w.heap.size w w')) ?_ ?_
        rotate_left
        ·intro hCont
         refine two_ (i := 7) (j := 11) (Ni := some 56) (Nj := some 13) #[true, true, true, true, true, true, true, true, false, false, false, false, false, false] #[true, true, true, true, true, true, true, false, false, false, false, true, false, false] rfl rfl rfl rfl (two_of HT_.out (by kernel_rfl)) (by decide) (by decide) (fun K hK => ?_) (fun K hK => ?_)
         ·skip
          refine goes_ Try.func27 (by kernel_rfl) rfl #[.agg #[.slice (some ad630) l0_0.length c0_0, .int .i64 a0_1, .int .i64 a0_2], .string ((rd_T42 l0_0 (ji29)).f0)] (by rfl) rfl rfl (by (try simp only [List.map_toArray, List.map_cons, List.map_nil]); first | done | (simp only [hji29]; rfl) | rfl | (simp only [List.length_drop, List.length_take]; rfl)) ?_
          with_reducible refine (queue_Drop.calls kj17 _ _ l0_0 a0_1 a0_2 ((rd_T42 l0_0 (ji29)).f0) t631 t634 t635 t636 _ ?side1 ?side2 A32.out).mono ?_
          (case side1 => repeat (first | exact (Kd.C_below HR0_0.out HB.out) | (with_reducible refine Kd.C_alloc ?_ _) | (with_reducible refine Kd.C_drewN ?_ _) | (with_reducible refine Kd.C_drew ?_)))
          (case side2 => exact HC0_0.out)
          rintro e w34 ⟨v632, rfl, ho0, hb⟩
          refine ⟨_, rfl, ?_⟩
          have n0_ := Aside0.mk (Kd.R_lower ho0 (below_size (by repeat (first | (with_reducible first | exact HB.out | apply below_alloc | apply pw_below_drewN | apply below_drew1 | refine below_set ?_ GE620.out | refine below_set ?_ GE621.out) | exact HB.out))))
          have n1_ := Aside0.mk (blk_below (g := gb620) (o := .cells #[.slice (some ad630) l0_0.length c0_0, .int .i64 a0_1, .int .i64 a0_2] 24 (0, 0)) (by (with_reducible repeat (first | refine blk_drewN ?_ _ | refine blk_drew ?_ | refine blk_alloc ?_ _)); exact BK620.out) hb)
          have n2_ := Aside0.mk (blk_below (g := gb621) (o := .cells #[.slice none 0 0, .int .i64 0, .int .i64 0] 24 (0, 0)) (by (with_reducible repeat (first | refine blk_drewN ?_ _ | refine blk_drew ?_ | refine blk_alloc ?_ _)); exact BK621.out) hb)
          have n3_ := Aside0.mk (below_step (by repeat (first | (with_reducible first | exact HB.out | apply below_alloc | apply pw_below_drewN | apply below_drew1 | refine below_set ?_ GE620.out | refine below_set ?_ GE621.out) | exact HB.out)) hb)
          clear BK620
          clear BK621
          clear HB
          have HO633 := n0_
          have BK620 := n1_
          have BK621 := n2_
          have HB := n3_
          clear n0_ n1_ n2_ n3_
          (try clear hb)
          (try clear hb2)
          (try clear hk)
          (try clear hi)
          (try clear ho0)
          refine hK.out _ _ ⟨(blk_cell BK620.out 0).trans rfl, (blk_cell BK620.out 1).trans rfl, (blk_cell BK620.out 2).trans rfl, ((HB.out.cell (World.block_lt_of_cell? w _ hw630_0)).trans hw630_0), ((HB.out.cell (World.block_lt_of_cell? w _ hw630_1)).trans hw630_1), ((HB.out.cell (World.block_lt_of_cell? w _ hw630_2)).trans hw630_2), ((HB.out.cell (World.block_lt_of_cell? w _ hw630_3)).trans hw630_3)⟩ (fun hHeld => ?_)
          clear hK K
          refine norm_ (a' := ?_) ?_ ?_
          rotate_left
          ·show Act.put _ (some 56) _ = _
           simp only [Act.put, List.setIfInBounds_toArray, List.set_cons_zero, List.set_cons_succ, i64_w, i32_w]
           rfl
          refine pure_ (i := 8) (N := some 48) (v := ?_) (a' := ?_) #[true, true, true, true, true, true, true, true, true, false, false, false, false, false] rfl rfl (any_of HT_.out (by kernel_rfl)) (fun _ _ _ h => h) (Or.inl ⟨by rfl, ?_⟩) ?_ ?_
          rotate_left
          ·intro w'
           go_simp
           with_reducible rfl
          rotate_left
          ·simp only [Act.put, List.setIfInBounds_toArray, List.set_cons_zero, List.set_cons_succ, i64_w, i32_w]
           rfl
          refine pure_ (i := 9) (N := some 57) (v := ?_) (a' := ?_) #[true, true, true, true, true, true, true, true, true, true, false, false, false, false] rfl rfl (any_of HT_.out (by kernel_rfl)) (fun _ _ _ h => h) (Or.inl ⟨by rfl, ?_⟩) ?_ ?_
          rotate_left
          ·intro w'
           go_simp
           with_reducible rfl
          rotate_left
          ·simp only [Act.put, List.setIfInBounds_toArray, List.set_cons_zero, List.set_cons_succ, i64_w, i32_w]
           rfl
          refine pure_ (i := 10) (N := some 58) (v := ?_) (a' := ?_) #[true, true, true, true, true, true, true, true, true, true, true, false, false, false] rfl rfl (any_of HT_.out (by kernel_rfl)) (fun _ _ _ h => h) (Or.inl ⟨by rfl, ?_⟩) ?_ ?_
          rotate_left
          ·intro w'
           go_simp
           with_reducible rfl
          rotate_left
          ·simp only [Act.put, List.setIfInBounds_toArray, List.set_cons_zero, List.set_cons_succ, i64_w, i32_w]
           rfl
          refine one_ (i := 11) (N := some 13) #[true, true, true, true, true, true, true, true, true, true, true, true, false, false] rfl rfl (one_of HT_.out (by kernel_rfl)) (by decide) (fun K hK => ?_)
          refine box_step ?hg (N := 13) ?hd (cs := #[.slice none 0 0, .int .i64 0, .int .i64 0]) (t := 24) ?hr ?_; (case hd => rfl); (case hg => rfl); (case hr => first | (go_simp; done) | (go_simp; rfl))
          intro gb637 hg w35 hbox hb
          have n0_ := Aside0.mk (Kd.R_below (by (with_reducible repeat (first | apply Kd.R_alloc | apply Kd.R_drewN | apply Kd.R_drew)); exact HO633.out) hb)
          have n1_ := Aside0.mk (blk_below (g := gb620) (o := .cells #[.slice (some ad630) l0_0.length c0_0, .int .i64 a0_1, .int .i64 a0_2] 24 (0, 0)) (by (with_reducible repeat (first | refine blk_drewN ?_ _ | refine blk_drew ?_ | refine blk_alloc ?_ _)); exact BK620.out) hb)
          have n2_ := Aside0.mk (blk_below (g := gb621) (o := .cells #[.slice none 0 0, .int .i64 0, .int .i64 0] 24 (0, 0)) (by (with_reducible repeat (first | refine blk_drewN ?_ _ | refine blk_drew ?_ | refine blk_alloc ?_ _)); exact BK621.out) hb)
          have n3_ := Aside0.mk (below_step (by repeat (first | (with_reducible first | exact HB.out | apply below_alloc | apply pw_below_drewN | apply below_drew1 | refine below_set ?_ GE620.out | refine below_set ?_ GE621.out) | exact HB.out)) hb)
          have n4_ := Aside0.mk (hbox)
          have n5_ := Aside0.mk ((by rw [hg]; exact (below_size (by repeat (first | (with_reducible first | exact HB.out | apply below_alloc | apply pw_below_drewN | apply below_drew1 | refine below_set ?_ GE620.out | refine below_set ?_ GE621.out) | exact HB.out))) : w.heap.size ≤ gb637))
          have n6_ := Aside0.mk ((by rw [hg]; exact (below_size (by repeat (first | (with_reducible first | exact HB.out | apply below_alloc | apply pw_below_drewN | apply below_drew1 | refine below_set ?_ GE620.out | refine below_set ?_ GE621.out) | exact HB.out))) : w.heap.size ≤ gb637))
          have n7_ := Aside0.mk ((by rw [hg]; exact Nat.ne_of_lt (blk_lt (g := gb620) (o := .cells #[.slice (some ad630) l0_0.length c0_0, .int .i64 a0_1, .int .i64 a0_2] 24 (0, 0)) (by (with_reducible repeat (first | refine blk_drewN ?_ _ | refine blk_drew ?_ | refine blk_alloc ?_ _)); exact BK620.out)) : gb620 ≠ gb637))
          have n8_ := Aside0.mk ((by rw [hg]; exact Nat.ne_of_gt (blk_lt (g := gb620) (o := .cells #[.slice (some ad630) l0_0.length c0_0, .int .i64 a0_1, .int .i64 a0_2] 24 (0, 0)) (by (with_reducible repeat (first | refine blk_drewN ?_ _ | refine blk_drew ?_ | refine blk_alloc ?_ _)); exact BK620.out)) : gb637 ≠ gb620))
          have n9_ := Aside0.mk ((by rw [hg]; exact Nat.ne_of_lt (blk_lt (g := gb621) (o := .cells #[.slice none 0 0, .int .i64 0, .int .i64 0] 24 (0, 0)) (by (with_reducible repeat (first | refine blk_drewN ?_ _ | refine blk_drew ?_ | refine blk_alloc ?_ _)); exact BK621.out)) : gb621 ≠ gb637))
          have n10_ := Aside0.mk ((by rw [hg]; exact Nat.ne_of_gt (blk_lt (g := gb621) (o := .cells #[.slice none 0 0, .int .i64 0, .int .i64 0] 24 (0, 0)) (by (with_reducible repeat (first | refine blk_drewN ?_ _ | refine blk_drew ?_ | refine blk_alloc ?_ _)); exact BK621.out)) : gb637 ≠ gb621))
          clear HO633
          clear BK620
          clear BK621
          clear HB
          have HO633 := n0_
          have BK620 := n1_
          have BK621 := n2_
          have HB := n3_
          have BK637 := n4_
          have GW637 := n5_
          have GE637 := n6_
          have NB620_637 := n7_
          have NB637_620 := n8_
          have NB621_637 := n9_
          have NB637_621 := n10_
          clear n0_ n1_ n2_ n3_ n4_ n5_ n6_ n7_ n8_ n9_ n10_
          clear hb hbox hg
          refine hK.out _ _ ⟨(blk_cell BK620.out 0).trans rfl, (blk_cell BK620.out 1).trans rfl, (blk_cell BK620.out 2).trans rfl, ((HB.out.cell (World.block_lt_of_cell? w _ hw630_0)).trans hw630_0), ((HB.out.cell (World.block_lt_of_cell? w _ hw630_1)).trans hw630_1), ((HB.out.cell (World.block_lt_of_cell? w _ hw630_2)).trans hw630_2), ((HB.out.cell (World.block_lt_of_cell? w _ hw630_3)).trans hw630_3)⟩ (fun hHeld => ?_)
          clear hK K
          refine norm_ (a' := ?_) ?_ ?_
          rotate_left
          ·show Act.put _ (some 13) _ = _
           simp only [Act.put, List.setIfInBounds_toArray, List.set_cons_zero, List.set_cons_succ, i64_w, i32_w]
           rfl
          exact norm_ (by simp only [putAll, Act.put, List.setIfInBounds_toArray, List.set_cons_zero, List.set_cons_succ]) (hCont (v632, gb637) _ ⟨hHeld, (by (with_reducible repeat (first | apply Kd.R_alloc | apply Kd.R_drewN | apply Kd.R_drew)); exact HO633.out), (by (with_reducible repeat (first | refine blk_drewN ?_ _ | refine blk_drew ?_ | refine blk_alloc ?_ _)); exact BK620.out), (by (with_reducible repeat (first | refine blk_drewN ?_ _ | refine blk_drew ?_ | refine blk_alloc ?_ _)); exact BK621.out), (by (with_reducible repeat (first | refine blk_drewN ?_ _ | refine blk_drew ?_ | refine blk_alloc ?_ _)); exact BK637.out), GW637.out, GE637.out, NB620_637.out, NB637_620.out, NB621_637.out, NB637_621.out, (by repeat (first | (with_reducible first | exact HB.out | apply below_alloc | apply pw_below_drewN | apply below_drew1 | refine below_set ?_ GE620.out | refine below_set ?_ GE621.out | refine below_set ?_ GE637.out) | exact HB.out))⟩)
         ·skip
          refine box_step ?hg (N := 13) ?hd (cs := #[.slice none 0 0, .int .i64 0, .int .i64 0]) (t := 24) ?hr ?_; (case hd => rfl); (case hg => rfl); (case hr => first | (go_simp; done) | (go_simp; rfl))
          intro gb637 hg w34 hbox hb
          have n0_ := Aside0.mk (blk_below (g := gb620) (o := .cells #[.slice (some ad630) l0_0.length c0_0, .int .i64 a0_1, .int .i64 a0_2] 24 (0, 0)) (by (with_reducible repeat (first | refine blk_drewN ?_ _ | refine blk_drew ?_ | refine blk_alloc ?_ _)); exact BK620.out) hb)
          have n1_ := Aside0.mk (blk_below (g := gb621) (o := .cells #[.slice none 0 0, .int .i64 0, .int .i64 0] 24 (0, 0)) (by (with_reducible repeat (first | refine blk_drewN ?_ _ | refine blk_drew ?_ | refine blk_alloc ?_ _)); exact BK621.out) hb)
          have n2_ := Aside0.mk (below_step (by repeat (first | (with_reducible first | exact HB.out | apply below_alloc | apply pw_below_drewN | apply below_drew1 | refine below_set ?_ GE620.out | refine below_set ?_ GE621.out) | exact HB.out)) hb)
          have n3_ := Aside0.mk (hbox)
          have n4_ := Aside0.mk ((by rw [hg]; exact (below_size (by repeat (first | (with_reducible first | exact HB.out | apply below_alloc | apply pw_below_drewN | apply below_drew1 | refine below_set ?_ GE620.out | refine below_set ?_ GE621.out) | exact HB.out))) : w.heap.size ≤ gb637))
          have n5_ := Aside0.mk ((by rw [hg]; exact (below_size (by repeat (first | (with_reducible first | exact HB.out | apply below_alloc | apply pw_below_drewN | apply below_drew1 | refine below_set ?_ GE620.out | refine below_set ?_ GE621.out) | exact HB.out))) : w.heap.size ≤ gb637))
          have n6_ := Aside0.mk ((by rw [hg]; exact Nat.ne_of_lt (blk_lt (g := gb620) (o := .cells #[.slice (some ad630) l0_0.length c0_0, .int .i64 a0_1, .int .i64 a0_2] 24 (0, 0)) (by (with_reducible repeat (first | refine blk_drewN ?_ _ | refine blk_drew ?_ | refine blk_alloc ?_ _)); exact BK620.out)) : gb620 ≠ gb637))
          have n7_ := Aside0.mk ((by rw [hg]; exact Nat.ne_of_gt (blk_lt (g := gb620) (o := .cells #[.slice (some ad630) l0_0.length c0_0, .int .i64 a0_1, .int .i64 a0_2] 24 (0, 0)) (by (with_reducible repeat (first | refine blk_drewN ?_ _ | refine blk_drew ?_ | refine blk_alloc ?_ _)); exact BK620.out)) : gb637 ≠ gb620))
          have n8_ := Aside0.mk ((by rw [hg]; exact Nat.ne_of_lt (blk_lt (g := gb621) (o := .cells #[.slice none 0 0, .int .i64 0, .int .i64 0] 24 (0, 0)) (by (with_reducible repeat (first | refine blk_drewN ?_ _ | refine blk_drew ?_ | refine blk_alloc ?_ _)); exact BK621.out)) : gb621 ≠ gb637))
          have n9_ := Aside0.mk ((by rw [hg]; exact Nat.ne_of_gt (blk_lt (g := gb621) (o := .cells #[.slice none 0 0, .int .i64 0, .int .i64 0] 24 (0, 0)) (by (with_reducible repeat (first | refine blk_drewN ?_ _ | refine blk_drew ?_ | refine blk_alloc ?_ _)); exact BK621.out)) : gb637 ≠ gb621))
          clear BK620
          clear BK621
          clear HB
          have BK620 := n0_
          have BK621 := n1_
          have HB := n2_
          have BK637 := n3_
          have GW637 := n4_
          have GE637 := n5_
          have NB620_637 := n6_
          have NB637_620 := n7_
          have NB621_637 := n8_
          have NB637_621 := n9_
          clear n0_ n1_ n2_ n3_ n4_ n5_ n6_ n7_ n8_ n9_
          clear hb hbox hg
          refine hK.out _ _ ⟨(blk_cell BK620.out 0).trans rfl, (blk_cell BK620.out 1).trans rfl, (blk_cell BK620.out 2).trans rfl, ((HB.out.cell (World.block_lt_of_cell? w _ hw630_0)).trans hw630_0), ((HB.out.cell (World.block_lt_of_cell? w _ hw630_1)).trans hw630_1), ((HB.out.cell (World.block_lt_of_cell? w _ hw630_2)).trans hw630_2), ((HB.out.cell (World.block_lt_of_cell? w _ hw630_3)).trans hw630_3)⟩ (fun hHeld => ?_)
          clear hK K
          refine norm_ (a' := ?_) ?_ ?_
          rotate_left
          ·show Act.put _ (some 13) _ = _
           simp only [Act.put, List.setIfInBounds_toArray, List.set_cons_zero, List.set_cons_succ, i64_w, i32_w]
           rfl
          refine one_ (i := 7) (N := some 56) #[true, true, true, true, true, true, true, true, false, false, false, true, false, false] rfl rfl (one_of HT_.out (by kernel_rfl)) (by decide) (fun K hK => ?_)
          refine goes_ Try.func27 (by kernel_rfl) rfl #[.agg #[.slice (some ad630) l0_0.length c0_0, .int .i64 a0_1, .int .i64 a0_2], .string ((rd_T42 l0_0 (ji29)).f0)] (by rfl) rfl rfl (by (try simp only [List.map_toArray, List.map_cons, List.map_nil]); first | done | (simp only [hji29]; rfl) | rfl | (simp only [List.length_drop, List.length_take]; rfl)) ?_
          with_reducible refine (queue_Drop.calls kj17 _ _ l0_0 a0_1 a0_2 ((rd_T42 l0_0 (ji29)).f0) t631 t634 t635 t636 _ ?side1 ?side2 A32.out).mono ?_
          (case side1 => repeat (first | exact (Kd.C_below HR0_0.out HB.out) | (with_reducible refine Kd.C_alloc ?_ _) | (with_reducible refine Kd.C_drewN ?_ _) | (with_reducible refine Kd.C_drew ?_)))
          (case side2 => exact HC0_0.out)
          rintro e w35 ⟨v632, rfl, ho0, hb⟩
          refine ⟨_, rfl, ?_⟩
          have n0_ := Aside0.mk (Kd.R_lower ho0 (below_size (by repeat (first | (with_reducible first | exact HB.out | apply below_alloc | apply pw_below_drewN | apply below_drew1 | refine below_set ?_ GE620.out | refine below_set ?_ GE621.out | refine below_set ?_ GE637.out) | exact HB.out))))
          have n1_ := Aside0.mk (blk_below (g := gb620) (o := .cells #[.slice (some ad630) l0_0.length c0_0, .int .i64 a0_1, .int .i64 a0_2] 24 (0, 0)) (by (with_reducible repeat (first | refine blk_drewN ?_ _ | refine blk_drew ?_ | refine blk_alloc ?_ _)); exact BK620.out) hb)
          have n2_ := Aside0.mk (blk_below (g := gb621) (o := .cells #[.slice none 0 0, .int .i64 0, .int .i64 0] 24 (0, 0)) (by (with_reducible repeat (first | refine blk_drewN ?_ _ | refine blk_drew ?_ | refine blk_alloc ?_ _)); exact BK621.out) hb)
          have n3_ := Aside0.mk (blk_below (g := gb637) (o := .cells #[.slice none 0 0, .int .i64 0, .int .i64 0] 24 (0, 0)) (by (with_reducible repeat (first | refine blk_drewN ?_ _ | refine blk_drew ?_ | refine blk_alloc ?_ _)); exact BK637.out) hb)
          have n4_ := Aside0.mk (below_step (by repeat (first | (with_reducible first | exact HB.out | apply below_alloc | apply pw_below_drewN | apply below_drew1 | refine below_set ?_ GE620.out | refine below_set ?_ GE621.out | refine below_set ?_ GE637.out) | exact HB.out)) hb)
          clear BK620
          clear BK621
          clear BK637
          clear HB
          have HO633 := n0_
          have BK620 := n1_
          have BK621 := n2_
          have BK637 := n3_
          have HB := n4_
          clear n0_ n1_ n2_ n3_ n4_
          (try clear hb)
          (try clear hb2)
          (try clear hk)
          (try clear hi)
          (try clear ho0)
          refine hK.out _ _ ⟨(blk_cell BK620.out 0).trans rfl, (blk_cell BK620.out 1).trans rfl, (blk_cell BK620.out 2).trans rfl, ((HB.out.cell (World.block_lt_of_cell? w _ hw630_0)).trans hw630_0), ((HB.out.cell (World.block_lt_of_cell? w _ hw630_1)).trans hw630_1), ((HB.out.cell (World.block_lt_of_cell? w _ hw630_2)).trans hw630_2), ((HB.out.cell (World.block_lt_of_cell? w _ hw630_3)).trans hw630_3)⟩ (fun hHeld => ?_)
          clear hK K
          refine norm_ (a' := ?_) ?_ ?_
          rotate_left
          ·show Act.put _ (some 56) _ = _
           simp only [Act.put, List.setIfInBounds_toArray, List.set_cons_zero, List.set_cons_succ, i64_w, i32_w]
           rfl
          refine pure_ (i := 8) (N := some 48) (v := ?_) (a' := ?_) #[true, true, true, true, true, true, true, true, true, false, false, true, false, false] rfl rfl (any_of HT_.out (by kernel_rfl)) (fun _ _ _ h => h) (Or.inl ⟨by rfl, ?_⟩) ?_ ?_
          rotate_left
          ·intro w'
           go_simp
           with_reducible rfl
          rotate_left
          ·simp only [Act.put, List.setIfInBounds_toArray, List.set_cons_zero, List.set_cons_succ, i64_w, i32_w]
           rfl
          refine pure_ (i := 9) (N := some 57) (v := ?_) (a' := ?_) #[true, true, true, true, true, true, true, true, true, true, false, true, false, false] rfl rfl (any_of HT_.out (by kernel_rfl)) (fun _ _ _ h => h) (Or.inl ⟨by rfl, ?_⟩) ?_ ?_
          rotate_left
          ·intro w'
           go_simp
           with_reducible rfl
          rotate_left
          ·simp only [Act.put, List.setIfInBounds_toArray, List.set_cons_zero, List.set_cons_succ, i64_w, i32_w]
           rfl
          refine pure_ (i := 10) (N := some 58) (v := ?_) (a' := ?_) #[true, true, true, true, true, true, true, true, true, true, true, true, false, false] rfl rfl (any_of HT_.out (by kernel_rfl)) (fun _ _ _ h => h) (Or.inl ⟨by rfl, ?_⟩) ?_ ?_
          rotate_left
          ·intro w'
           go_simp
           with_reducible rfl
          rotate_left
          ·simp only [Act.put, List.setIfInBounds_toArray, List.set_cons_zero, List.set_cons_succ, i64_w, i32_w]
           rfl
          exact norm_ (by simp only [putAll, Act.put, List.setIfInBounds_toArray, List.set_cons_zero, List.set_cons_succ]) (hCont (v632, gb637) _ ⟨hHeld, (by (with_reducible repeat (first | apply Kd.R_alloc | apply Kd.R_drewN | apply Kd.R_drew)); exact HO633.out), (by (with_reducible repeat (first | refine blk_drewN ?_ _ | refine blk_drew ?_ | refine blk_alloc ?_ _)); exact BK620.out), (by (with_reducible repeat (first | refine blk_drewN ?_ _ | refine blk_drew ?_ | refine blk_alloc ?_ _)); exact BK621.out), (by (with_reducible repeat (first | refine blk_drewN ?_ _ | refine blk_drew ?_ | refine blk_alloc ?_ _)); exact BK637.out), GW637.out, GE637.out, NB620_637.out, NB637_620.out, NB621_637.out, NB637_621.out, (by repeat (first | (with_reducible first | exact HB.out | apply below_alloc | apply pw_below_drewN | apply below_drew1 | refine below_set ?_ GE620.out | refine below_set ?_ GE621.out | refine below_set ?_ GE637.out) | exact HB.out))⟩)
        rintro ⟨v632, gb637⟩ w36 ⟨hS_, h0_, h1_, h2_, h3_, h4_, h5_, h6_, h7_, h8_, h9_, h10_⟩
        have n0_ : Aside0 (Kd.R k42 42 w36 w.heap.size (fun _ => True) v632 t631) := ⟨h0_⟩
        have n1_ : Aside0 (w36.heap[gb620]? = some (.cells #[.slice (some ad630) l0_0.length c0_0, .int .i64 a0_1, .int .i64 a0_2] 24 (0, 0))) := ⟨h1_⟩
        have n2_ : Aside0 (w36.heap[gb621]? = some (.cells #[.slice none 0 0, .int .i64 0, .int .i64 0] 24 (0, 0))) := ⟨h2_⟩
        have n3_ : Aside0 (w36.heap[gb637]? = some (.cells #[.slice none 0 0, .int .i64 0, .int .i64 0] 24 (0, 0))) := ⟨h3_⟩
        have n4_ : Aside0 (w.heap.size ≤ gb637) := ⟨h4_⟩
        have n5_ : Aside0 (w.heap.size ≤ gb637) := ⟨h5_⟩
        have n6_ : Aside0 (gb620 ≠ gb637) := ⟨h6_⟩
        have n7_ : Aside0 (gb637 ≠ gb620) := ⟨h7_⟩
        have n8_ : Aside0 (gb621 ≠ gb637) := ⟨h8_⟩
        have n9_ : Aside0 (gb637 ≠ gb621) := ⟨h9_⟩
        have n10_ : Aside0 (Below w.heap.size w w36) := ⟨h10_⟩
        clear BK620
        clear BK621
        clear HB
        clear h0_ h1_ h2_ h3_ h4_ h5_ h6_ h7_ h8_ h9_ h10_
        have HO633 := n0_
        have BK620 := n1_
        have BK621 := n2_
        have BK637 := n3_
        have GW637 := n4_
        have GE637 := n5_
        have NB620_637 := n6_
        have NB637_620 := n7_
        have NB621_637 := n8_
        have NB637_621 := n9_
        have HB := n10_
        clear n0_ n1_ n2_ n3_ n4_ n5_ n6_ n7_ n8_ n9_ n10_
        have hHeld : w36.cell? ⟨gb620, 0, none⟩ = some (.slice (some ad630) l0_0.length c0_0) ∧ w36.cell? ⟨gb620, 1, none⟩ = some (.int .i64 a0_1) ∧ w36.cell? ⟨gb620, 2, none⟩ = some (.int .i64 a0_2) ∧ w36.cell? (ad630.add (((ji29)).toNat * 4)) = some (.string ((rd_T42 l0_0 (ji29)).f0)) ∧ w36.cell? ⟨(ad630.add (((ji29)).toNat * 4)).block, (ad630.add (((ji29)).toNat * 4)).off + 1, none⟩ = some (.int .i64 ((rd_T42 l0_0 (ji29)).f1)) ∧ w36.cell? ⟨(ad630.add (((ji29)).toNat * 4)).block, (ad630.add (((ji29)).toNat * 4)).off + 2, none⟩ = some (.int .i64 ((rd_T42 l0_0 (ji29)).f2)) ∧ w36.cell? ⟨(ad630.add (((ji29)).toNat * 4)).block, (ad630.add (((ji29)).toNat * 4)).off + 3, none⟩ = some (.int .i64 ((rd_T42 l0_0 (ji29)).f3)) := hS_
        obtain ⟨Ao37, co37, eo37⟩ := Kd.R_slice HO633.out
        (first | subst eo37 | (injection eo37 with f1_ f2_ f3_; have f4_ := f1_.symm; have f5_ := f3_.symm; clear f1_ f2_ f3_; subst f4_; subst f5_))
        refine norm_ (a' := ?_) ?_ ?_
        rotate_left
        ·simp only [putAll, Act.put, List.setIfInBounds_toArray, List.set_cons_zero, List.set_cons_succ]
         rfl
        refine one_ (i := 12) (N := none) #[true, true, true, true, true, true, true, true, true, true, true, true, true, false] rfl rfl (one_of HT_.out (by kernel_rfl)) (by decide) (fun K hK => ?_)
        have hs38 : w36.cell? ⟨gb637, 0, none⟩ = some (.slice none 0 0) := (blk_cell BK637.out 0).trans rfl
        have hfs38 := blk_frozen BK637.out 0
        have hns38_0 := NB620_637.out
        have hns38_1 := NB621_637.out
        have hms38_0 := NB637_620.out
        have hms38_1 := NB637_621.out
        have hs39 : w36.cell? ⟨gb637, 1, none⟩ = some (.int .i64 0) := (blk_cell BK637.out 1).trans rfl
        have hfs39 := blk_frozen BK637.out 1
        have hns39_0 := NB620_637.out
        have hns39_1 := NB621_637.out
        have hms39_0 := NB637_620.out
        have hms39_1 := NB637_621.out
        have hs40 : w36.cell? ⟨gb637, 2, none⟩ = some (.int .i64 0) := (blk_cell BK637.out 2).trans rfl
        have hfs40 := blk_frozen BK637.out 2
        have hns40_0 := NB620_637.out
        have hns40_1 := NB621_637.out
        have hms40_0 := NB637_620.out
        have hms40_1 := NB637_621.out
        refine skip_ (w1 := ?_) (by rfl) rfl ?_ ?_
        rotate_left
        ·go_simp
         rfl
        refine hK.out _ _ ⟨((cell_far (p := ⟨gb637, _, none⟩) NB620_637.out _).trans (((cell_far (p := ⟨gb637, _, none⟩) NB620_637.out _).trans (((cell_far (p := ⟨gb637, _, none⟩) NB620_637.out _).trans (hHeld.1)))))), ((cell_far (p := ⟨gb637, _, none⟩) NB620_637.out _).trans (((cell_far (p := ⟨gb637, _, none⟩) NB620_637.out _).trans (((cell_far (p := ⟨gb637, _, none⟩) NB620_637.out _).trans (hHeld.2.1)))))), ((cell_far (p := ⟨gb637, _, none⟩) NB620_637.out _).trans (((cell_far (p := ⟨gb637, _, none⟩) NB620_637.out _).trans (((cell_far (p := ⟨gb637, _, none⟩) NB620_637.out _).trans (hHeld.2.2.1)))))), ((cell_far (p := ⟨gb637, _, none⟩) (by first | exact Nat.ne_of_lt (Nat.lt_of_lt_of_le (by have := World.block_lt_of_cell? _ _ hw630_0; first | rwa [add_block] at this | exact this) GW637.out) | (rw [add_block]; exact Nat.ne_of_lt (Nat.lt_of_lt_of_le (by have := World.block_lt_of_cell? _ _ hw630_0; first | rwa [add_block] at this | exact this) GW637.out)) | (show (Addr.add _ _).block ≠ _; rw [add_block]; exact Nat.ne_of_lt (Nat.lt_of_lt_of_le (by have := World.block_lt_of_cell? _ _ hw630_0; first | rwa [add_block] at this | exact this) GW637.out)) | (dsimp only; exact Nat.ne_of_lt (Nat.lt_of_lt_of_le (by have := World.block_lt_of_cell? _ _ hw630_0; first | rwa [add_block] at this | exact this) GW637.out))) _).trans (((cell_far (p := ⟨gb637, _, none⟩) (by first | exact Nat.ne_of_lt (Nat.lt_of_lt_of_le (by have := World.block_lt_of_cell? _ _ hw630_0; first | rwa [add_block] at this | exact this) GW637.out) | (rw [add_block]; exact Nat.ne_of_lt (Nat.lt_of_lt_of_le (by have := World.block_lt_of_cell? _ _ hw630_0; first | rwa [add_block] at this | exact this) GW637.out)) | (show (Addr.add _ _).block ≠ _; rw [add_block]; exact Nat.ne_of_lt (Nat.lt_of_lt_of_le (by have := World.block_lt_of_cell? _ _ hw630_0; first | rwa [add_block] at this | exact this) GW637.out)) | (dsimp only; exact Nat.ne_of_lt (Nat.lt_of_lt_of_le (by have := World.block_lt_of_cell? _ _ hw630_0; first | rwa [add_block] at this | exact this) GW637.out))) _).trans (((cell_far (p := ⟨gb637, _, none⟩) (by first | exact Nat.ne_of_lt (Nat.lt_of_lt_of_le (by have := World.block_lt_of_cell? _ _ hw630_0; first | rwa [add_block] at this | exact this) GW637.out) | (rw [add_block]; exact Nat.ne_of_lt (Nat.lt_of_lt_of_le (by have := World.block_lt_of_cell? _ _ hw630_0; first | rwa [add_block] at this | exact this) GW637.out)) | (show (Addr.add _ _).block ≠ _; rw [add_block]; exact Nat.ne_of_lt (Nat.lt_of_lt_of_le (by have := World.block_lt_of_cell? _ _ hw630_0; first | rwa [add_block] at this | exact this) GW637.out)) | (dsimp only; exact Nat.ne_of_lt (Nat.lt_of_lt_of_le (by have := World.block_lt_of_cell? _ _ hw630_0; first | rwa [add_block] at this | exact this) GW637.out))) _).trans (hHeld.2.2.2.1)))))), ((cell_far (p := ⟨gb637, _, none⟩) (by first | exact Nat.ne_of_lt (Nat.lt_of_lt_of_le (by have := World.block_lt_of_cell? _ _ hw630_1; first | rwa [add_block] at this | exact this) GW637.out) | (rw [add_block]; exact Nat.ne_of_lt (Nat.lt_of_lt_of_le (by have := World.block_lt_of_cell? _ _ hw630_1; first | rwa [add_block] at this | exact this) GW637.out)) | (show (Addr.add _ _).block ≠ _; rw [add_block]; exact Nat.ne_of_lt (Nat.lt_of_lt_of_le (by have := World.block_lt_of_cell? _ _ hw630_1; first | rwa [add_block] at this | exact this) GW637.out)) | (dsimp only; exact Nat.ne_of_lt (Nat.lt_of_lt_of_le (by have := World.block_lt_of_cell? _ _ hw630_1; first | rwa [add_block] at this | exact this) GW637.out))) _).trans (((cell_far (p := ⟨gb637, _, none⟩) (by first | exact Nat.ne_of_lt (Nat.lt_of_lt_of_le (by have := World.block_lt_of_cell? _ _ hw630_1; first | rwa [add_block] at this | exact this) GW637.out) | (rw [add_block]; exact Nat.ne_of_lt (Nat.lt_of_lt_of_le (by have := World.block_lt_of_cell? _ _ hw630_1; first | rwa [add_block] at this | exact this) GW637.out)) | (show (Addr.add _ _).block ≠ _; rw [add_block]; exact Nat.ne_of_lt (Nat.lt_of_lt_of_le (by have := World.block_lt_of_cell? _ _ hw630_1; first | rwa [add_block] at this | exact this) GW637.out)) | (dsimp only; exact Nat.ne_of_lt (Nat.lt_of_lt_of_le (by have := World.block_lt_of_cell? _ _ hw630_1; first | rwa [add_block] at this | exact this) GW637.out))) _).trans (((cell_far (p := ⟨gb637, _, none⟩) (by first | exact Nat.ne_of_lt (Nat.lt_of_lt_of_le (by have := World.block_lt_of_cell? _ _ hw630_1; first | rwa [add_block] at this | exact this) GW637.out) | (rw [add_block]; exact Nat.ne_of_lt (Nat.lt_of_lt_of_le (by have := World.block_lt_of_cell? _ _ hw630_1; first | rwa [add_block] at this | exact this) GW637.out)) | (show (Addr.add _ _).block ≠ _; rw [add_block]; exact Nat.ne_of_lt (Nat.lt_of_lt_of_le (by have := World.block_lt_of_cell? _ _ hw630_1; first | rwa [add_block] at this | exact this) GW637.out)) | (dsimp only; exact Nat.ne_of_lt (Nat.lt_of_lt_of_le (by have := World.block_lt_of_cell? _ _ hw630_1; first | rwa [add_block] at this | exact this) GW637.out))) _).trans (hHeld.2.2.2.2.1)))))), ((cell_far (p := ⟨gb637, _, none⟩) (by first | exact Nat.ne_of_lt (Nat.lt_of_lt_of_le (by have := World.block_lt_of_cell? _ _ hw630_2; first | rwa [add_block] at this | exact this) GW637.out) | (rw [add_block]; exact Nat.ne_of_lt (Nat.lt_of_lt_of_le (by have := World.block_lt_of_cell? _ _ hw630_2; first | rwa [add_block] at this | exact this) GW637.out)) | (show (Addr.add _ _).block ≠ _; rw [add_block]; exact Nat.ne_of_lt (Nat.lt_of_lt_of_le (by have := World.block_lt_of_cell? _ _ hw630_2; first | rwa [add_block] at this | exact this) GW637.out)) | (dsimp only; exact Nat.ne_of_lt (Nat.lt_of_lt_of_le (by have := World.block_lt_of_cell? _ _ hw630_2; first | rwa [add_block] at this | exact this) GW637.out))) _).trans (((cell_far (p := ⟨gb637, _, none⟩) (by first | exact Nat.ne_of_lt (Nat.lt_of_lt_of_le (by have := World.block_lt_of_cell? _ _ hw630_2; first | rwa [add_block] at this | exact this) GW637.out) | (rw [add_block]; exact Nat.ne_of_lt (Nat.lt_of_lt_of_le (by have := World.block_lt_of_cell? _ _ hw630_2; first | rwa [add_block] at this | exact this) GW637.out)) | (show (Addr.add _ _).block ≠ _; rw [add_block]; exact Nat.ne_of_lt (Nat.lt_of_lt_of_le (by have := World.block_lt_of_cell? _ _ hw630_2; first | rwa [add_block] at this | exact this) GW637.out)) | (dsimp only; exact Nat.ne_of_lt (Nat.lt_of_lt_of_le (by have := World.block_lt_of_cell? _ _ hw630_2; first | rwa [add_block] at this | exact this) GW637.out))) _).trans (((cell_far (p := ⟨gb637, _, none⟩) (by first | exact Nat.ne_of_lt (Nat.lt_of_lt_of_le (by have := World.block_lt_of_cell? _ _ hw630_2; first | rwa [add_block] at this | exact this) GW637.out) | (rw [add_block]; exact Nat.ne_of_lt (Nat.lt_of_lt_of_le (by have := World.block_lt_of_cell? _ _ hw630_2; first | rwa [add_block] at this | exact this) GW637.out)) | (show (Addr.add _ _).block ≠ _; rw [add_block]; exact Nat.ne_of_lt (Nat.lt_of_lt_of_le (by have := World.block_lt_of_cell? _ _ hw630_2; first | rwa [add_block] at this | exact this) GW637.out)) | (dsimp only; exact Nat.ne_of_lt (Nat.lt_of_lt_of_le (by have := World.block_lt_of_cell? _ _ hw630_2; first | rwa [add_block] at this | exact this) GW637.out))) _).trans (hHeld.2.2.2.2.2.1)))))), ((cell_far (p := ⟨gb637, _, none⟩) (by first | exact Nat.ne_of_lt (Nat.lt_of_lt_of_le (by have := World.block_lt_of_cell? _ _ hw630_3; first | rwa [add_block] at this | exact this) GW637.out) | (rw [add_block]; exact Nat.ne_of_lt (Nat.lt_of_lt_of_le (by have := World.block_lt_of_cell? _ _ hw630_3; first | rwa [add_block] at this | exact this) GW637.out)) | (show (Addr.add _ _).block ≠ _; rw [add_block]; exact Nat.ne_of_lt (Nat.lt_of_lt_of_le (by have := World.block_lt_of_cell? _ _ hw630_3; first | rwa [add_block] at this | exact this) GW637.out)) | (dsimp only; exact Nat.ne_of_lt (Nat.lt_of_lt_of_le (by have := World.block_lt_of_cell? _ _ hw630_3; first | rwa [add_block] at this | exact this) GW637.out))) _).trans (((cell_far (p := ⟨gb637, _, none⟩) (by first | exact Nat.ne_of_lt (Nat.lt_of_lt_of_le (by have := World.block_lt_of_cell? _ _ hw630_3; first | rwa [add_block] at this | exact this) GW637.out) | (rw [add_block]; exact Nat.ne_of_lt (Nat.lt_of_lt_of_le (by have := World.block_lt_of_cell? _ _ hw630_3; first | rwa [add_block] at this | exact this) GW637.out)) | (show (Addr.add _ _).block ≠ _; rw [add_block]; exact Nat.ne_of_lt (Nat.lt_of_lt_of_le (by have := World.block_lt_of_cell? _ _ hw630_3; first | rwa [add_block] at this | exact this) GW637.out)) | (dsimp only; exact Nat.ne_of_lt (Nat.lt_of_lt_of_le (by have := World.block_lt_of_cell? _ _ hw630_3; first | rwa [add_block] at this | exact this) GW637.out))) _).trans (((cell_far (p := ⟨gb637, _, none⟩) (by first | exact Nat.ne_of_lt (Nat.lt_of_lt_of_le (by have := World.block_lt_of_cell? _ _ hw630_3; first | rwa [add_block] at this | exact this) GW637.out) | (rw [add_block]; exact Nat.ne_of_lt (Nat.lt_of_lt_of_le (by have := World.block_lt_of_cell? _ _ hw630_3; first | rwa [add_block] at this | exact this) GW637.out)) | (show (Addr.add _ _).block ≠ _; rw [add_block]; exact Nat.ne_of_lt (Nat.lt_of_lt_of_le (by have := World.block_lt_of_cell? _ _ hw630_3; first | rwa [add_block] at this | exact this) GW637.out)) | (dsimp only; exact Nat.ne_of_lt (Nat.lt_of_lt_of_le (by have := World.block_lt_of_cell? _ _ hw630_3; first | rwa [add_block] at this | exact this) GW637.out))) _).trans (hHeld.2.2.2.2.2.2))))))⟩ (fun hHeld => ?_)
        clear hK K
        refine pure_ (i := 13) (N := some 14) (v := ?_) (a' := ?_) #[true, true, true, true, true, true, true, true, true, true, true, true, true, true] rfl rfl (any_of HT_.out (by kernel_rfl)) (fun _ _ _ h => h) (Or.inl ⟨by rfl, ?_⟩) ?_ ?_
        rotate_left
        ·intro w'
         go_simp
         with_reducible rfl
        rotate_left
        ·simp only [Act.put, List.setIfInBounds_toArray, List.set_cons_zero, List.set_cons_succ, i64_w, i32_w]
         rfl
        refine done_ (done_of HT_.out (by kernel_rfl)) ?_
        have hnb41 := NB637_620.out
        have hnc41 := NB620_637.out
        have hnb42 := NB637_621.out
        have hnc42 := NB621_637.out
        have hcz43_0 : w36.cell? ⟨gb637, 0, none⟩ = some (.slice none 0 0) := (blk_cell BK637.out 0).trans rfl
        have hcz43_1 : w36.cell? ⟨gb637, 1, none⟩ = some (.int .i64 0) := (blk_cell BK637.out 1).trans rfl
        have hcz43_2 : w36.cell? ⟨gb637, 2, none⟩ = some (.int .i64 0) := (blk_cell BK637.out 2).trans rfl
        have hfz43_0 := blk_frozen BK637.out 0
        have hfz43_1 := blk_frozen BK637.out 1
        have hfz43_2 := blk_frozen BK637.out 2
        have hnb44 := NB621_620.out
        have hnc44 := NB620_621.out
        have hcz45_0 : w36.cell? ⟨gb621, 0, none⟩ = some (.slice none 0 0) := (blk_cell BK621.out 0).trans rfl
        have hcz45_1 : w36.cell? ⟨gb621, 1, none⟩ = some (.int .i64 0) := (blk_cell BK621.out 1).trans rfl
        have hcz45_2 : w36.cell? ⟨gb621, 2, none⟩ = some (.int .i64 0) := (blk_cell BK621.out 2).trans rfl
        have hfz45_0 := blk_frozen BK621.out 0
        have hfz45_1 := blk_frozen BK621.out 1
        have hfz45_2 := blk_frozen BK621.out 2
        try go_wp2
        refine bodyPost_ret (results_ctt rfl _ _ gb621 24 #[.slice Ao37 t631.length co37, .int .i64 t634, .int .i64 t635] (0, 0) _ rfl (by (with_reducible repeat (first | refine blk_drewN ?_ _ | refine blk_drew ?_ | refine blk_alloc ?_ _)); refine blk_put (cs := #[.slice Ao37 t631.length co37, .int .i64 t634, .int .i64 0]) ?_ 2 _ rfl; (with_reducible repeat (first | refine blk_drewN ?_ _ | refine blk_drew ?_ | refine blk_alloc ?_ _)); refine blk_put (cs := #[.slice Ao37 t631.length co37, .int .i64 0, .int .i64 0]) ?_ 1 _ rfl; (with_reducible repeat (first | refine blk_drewN ?_ _ | refine blk_drew ?_ | refine blk_alloc ?_ _)); refine blk_put (cs := #[.slice none 0 0, .int .i64 0, .int .i64 0]) ?_ 0 _ rfl; (with_reducible repeat (first | refine blk_drewN ?_ _ | refine blk_drew ?_ | refine blk_alloc ?_ _)); refine blk_far ?_ NB621_637.out _; (with_reducible repeat (first | refine blk_drewN ?_ _ | refine blk_drew ?_ | refine blk_alloc ?_ _)); refine blk_far ?_ NB621_637.out _; (with_reducible repeat (first | refine blk_drewN ?_ _ | refine blk_drew ?_ | refine blk_alloc ?_ _)); refine blk_far ?_ NB621_637.out _; (with_reducible repeat (first | refine blk_drewN ?_ _ | refine blk_drew ?_ | refine blk_alloc ?_ _)); exact BK621.out) Try.underlying24 rfl (by kernel_rfl)) rfl ?_
        exact ⟨_, by first | rfl | (simp [errW_none, errW_some] <;> rfl) | (simp only [← hji29]; first | rfl | (simp [errW_none, errW_some] <;> rfl)) | (simp [*, errW_none, errW_some] <;> rfl), by (with_reducible repeat (first | apply Kd.R_alloc | apply Kd.R_drewN | apply Kd.R_drew)); exact Kd.R_mono (Kd.R_far (p := ⟨gb621, 2, none⟩) (Kd.R_far (p := ⟨gb621, 1, none⟩) (Kd.R_far (p := ⟨gb621, 0, none⟩) (Kd.R_far (p := ⟨gb637, 2, none⟩) (Kd.R_far (p := ⟨gb637, 1, none⟩) (Kd.R_far (p := ⟨gb637, 0, none⟩) (Kd.R_types (Kd.R_types HO633.out BK637.out (by decide)) BK621.out (by decide)) (fun _ hk => hk.1.2) (.slice Ao37 t631.length co37)) (fun _ hk => hk.1.2) (.int .i64 t634)) (fun _ hk => hk.1.2) (.int .i64 t635)) (fun _ hk => hk.2) (.slice Ao37 t631.length co37)) (fun _ hk => hk.2) (.int .i64 t634)) (fun _ hk => hk.2) (.int .i64 t635)) (fun _ hk => trivial), by repeat (first | (with_reducible first | exact HB.out | apply below_alloc | apply pw_below_drewN | apply below_drew1 | refine below_set ?_ GE620.out | refine below_set ?_ GE621.out | refine below_set ?_ GE637.out) | exact HB.out)⟩
       ·rw [if_neg c31] at H
        exact absurd H (by simp)
      ·rw [if_neg c30] at H
       exact absurd H (by simp)
     ·replace c28 := Bool.eq_false_iff.mpr c28
      subst c28
      have H1 : (if 0 ≤ (Int.tmod (wrap64 ((-1) - a1)) (l0_0.length : Int)) then (if (Int.tmod (wrap64 ((-1) - a1)) (l0_0.length : Int)) < (l0_0.length : Int) then (if (l0_0.length : Int) = 0 then (none) else ((queue_Ask.f kj17 l0_0 a0_1 a0_2 ((rd_T42 l0_0 (Int.tmod (wrap64 ((-1) - a1)) (l0_0.length : Int))).f0) (wrap64 (1 + (Int.tmod (wrap64 (Int.tdiv (wrap64 ((-1) - a1)) (l0_0.length : Int))) 5)))).bind fun bt639 => (some (bt639.1, bt639.2.1, bt639.2.2.1, (-1), (bt639.2.2.2 == 0))))) else (none)) else (none)) = some (r1, r2, r3, r4, r5) := by first | (with_reducible rfl) | (rw [if_neg (show ¬ (false = true) by decide)] at H; exact H)
      clear H
      have H := H1
      clear H1
      obtain ⟨ji46, hji46⟩ : ∃ j_ : Int, (Int.tmod (wrap64 ((-1) - a1)) (l0_0.length : Int)) = j_ := ⟨_, rfl⟩
      replace H : (if 0 ≤ (ji46) then (if (ji46) < (l0_0.length : Int) then (if (l0_0.length : Int) = 0 then (none) else ((queue_Ask.f kj17 l0_0 a0_1 a0_2 ((rd_T42 l0_0 (ji46)).f0) (wrap64 (1 + (Int.tmod (wrap64 (Int.tdiv (wrap64 ((-1) - a1)) (l0_0.length : Int))) 5)))).bind fun bt639 => (some (bt639.1, bt639.2.1, bt639.2.2.1, (-1), (bt639.2.2.2 == 0))))) else (none)) else (none)) = some (r1, r2, r3, r4, r5) := by first | (rw [hji46] at H; exact H) | (simp only [hji46] at H ⊢; exact H)
      by_cases c47 : 0 ≤ (ji46)
      ·rw [if_pos c47] at H
       have c47b0 : decide (0 ≤ (ji46)) = true := decide_eq_true c47
       clear c47
       by_cases c48 : (ji46) < (l0_0.length : Int)
       ·rw [if_pos c48] at H
        have c48b0 : decide ((ji46) < (l0_0.length : Int)) = true := decide_eq_true c48
        clear c48
        by_cases c49 : (l0_0.length : Int) = 0
        ·rw [if_pos c49] at H
         exact absurd H (by simp)
        ·rw [if_neg c49] at H
         have c49b0 : ((l0_0.length : Int) == 0) = false := beq_eq_false_iff_ne.mpr c49
         have c49b1 : ((l0_0.length : Int) != 0) = true := bne_iff_ne.mpr c49
         have c49b2 : ¬ (l0_0 = []) := fun h_ => c49 (by rw [h_]; rfl)
         replace H := Option.bind_eq_some_iff.mp H
         obtain ⟨⟨t639, t642, t643, t644⟩, A500, H⟩ := H
         replace H : (some (t639, t642, t643, (-1), (t644 == 0))) = some (r1, r2, r3, r4, r5) := H
         have A50 := Aside0.mk A500
         clear A500
         simp only [Option.some.injEq, Prod.mk.injEq] at H
         obtain ⟨rfl, rfl, rfl, rfl, rfl⟩ := H
         try go_wp2
         have n0_ := Aside0.mk (blk_drew BK620.out)
         have n1_ := Aside0.mk (blk_drew BK621.out)
         have n2_ := Aside0.mk (below_drew1 HB.out)
         clear BK620
         clear BK621
         clear HB
         have BK620 := n0_
         have BK621 := n1_
         have HB := n2_
         clear n0_ n1_ n2_
         have p638 : 0 ≤ ((ji46) : Int) := of_decide_eq_true (by first | (with_reducible assumption) | assumption)
         have q638 : (ji46) < (l0_0.length : Int) := of_decide_eq_true (by first | (with_reducible assumption) | assumption)
         obtain ⟨ad638, e638, hx638_0, hx638_1, hx638_2, hx638_3⟩ := at_T42 HR0_0.out (ji46) p638 q638
         have hw638_3 := hx638_3
         have hw638_2 := hx638_2
         have hw638_1 := hx638_1
         have hw638_0 := hx638_0
         cases e638
         replace hx638_0 := (HB.out.cell (World.block_lt_of_cell? w _ hx638_0)).trans hx638_0
         replace hx638_1 := (HB.out.cell (World.block_lt_of_cell? w _ hx638_1)).trans hx638_1
         replace hx638_2 := (HB.out.cell (World.block_lt_of_cell? w _ hx638_2)).trans hx638_2
         replace hx638_3 := (HB.out.cell (World.block_lt_of_cell? w _ hx638_3)).trans hx638_3
         replace p638 := eq_true p638
         replace q638 := eq_true q638
         refine start_ (n := 22) (S := fun w' => w'.cell? ⟨gb620, 0, none⟩ = some (.slice (some ad638) l0_0.length c0_0) ∧ w'.cell? ⟨gb620, 1, none⟩ = some (.int .i64 a0_1) ∧ w'.cell? ⟨gb620, 2, none⟩ = some (.int .i64 a0_2) ∧ w'.cell? (ad638.add (((ji46)).toNat * 4)) = some (.string ((rd_T42 l0_0 (ji46)).f0)) ∧ w'.cell? ⟨(ad638.add (((ji46)).toNat * 4)).block, (ad638.add (((ji46)).toNat * 4)).off + 1, none⟩ = some (.int .i64 ((rd_T42 l0_0 (ji46)).f1)) ∧ w'.cell? ⟨(ad638.add (((ji46)).toNat * 4)).block, (ad638.add (((ji46)).toNat * 4)).off + 2, none⟩ = some (.int .i64 ((rd_T42 l0_0 (ji46)).f2)) ∧ w'.cell? ⟨(ad638.add (((ji46)).toNat * 4)).block, (ad638.add (((ji46)).toNat * 4)).off + 3, none⟩ = some (.int .i64 ((rd_T42 l0_0 (ji46)).f3))) (ds := []) #[false, false, false, false, false, false, false, false, false, false, false, false, false, false, false, false, false, false, false, false, false, false] (by kernel_rfl) rfl rfl ⟨(blk_cell BK620.out 0).trans rfl, (blk_cell BK620.out 1).trans rfl, (blk_cell BK620.out 2).trans rfl, ((HB.out.cell (World.block_lt_of_cell? w _ hw638_0)).trans hw638_0), ((HB.out.cell (World.block_lt_of_cell? w _ hw638_1)).trans hw638_1), ((HB.out.cell (World.block_lt_of_cell? w _ hw638_2)).trans hw638_2), ((HB.out.cell (World.block_lt_of_cell? w _ hw638_3)).trans hw638_3)⟩ (fun hHeld => ?_); refine with_tabW fringelaw42_done.tab8 fringelaw42_done.bits8 (fun HT_ HW_ => ?_)
         generalize wc.drew = w51 at BK620 BK621 HB hx638_0 hx638_1 hx638_2 hx638_3 hHeld ⊢
         refine pure_ (i := 1) (N := some 64) (v := ?_) (a' := ?_) #[false, true, false, false, false, false, false, false, false, false, false, false, false, false, false, false, false, false, false, false, false, false] rfl rfl (any_of HT_.out (by kernel_rfl)) (fun _ _ _ h => h) (Or.inl ⟨by rfl, ?_⟩) ?_ ?_
         rotate_left
         ·intro w'
          go_simp
          with_reducible rfl
         rotate_left
         ·simp only [Act.put, List.setIfInBounds_toArray, List.set_cons_zero, List.set_cons_succ, i64_w, i32_w]
          rfl
         refine pure_ (i := 3) (N := some 66) (v := ?_) (a' := ?_) #[false, true, false, true, false, false, false, false, false, false, false, false, false, false, false, false, false, false, false, false, false, false] rfl rfl (any_of HT_.out (by kernel_rfl)) (fun _ _ _ h => h) (Or.inl ⟨by rfl, ?_⟩) ?_ ?_
         rotate_left
         ·intro w'
          go_simp
          with_reducible rfl
         rotate_left
         ·simp only [Act.put, List.setIfInBounds_toArray, List.set_cons_zero, List.set_cons_succ, i64_w, i32_w]
          rfl
         refine pure_ (i := 7) (N := some 70) (v := ?_) (a' := ?_) #[false, true, false, true, false, false, false, true, false, false, false, false, false, false, false, false, false, false, false, false, false, false] rfl rfl (any_of HT_.out (by kernel_rfl)) (fun _ _ _ h => h) (Or.inl ⟨by rfl, ?_⟩) ?_ ?_
         rotate_left
         ·intro w'
          go_simp
          with_reducible rfl
         rotate_left
         ·simp only [Act.put, List.setIfInBounds_toArray, List.set_cons_zero, List.set_cons_succ, i64_w, i32_w]
          rfl
         refine pure_ (i := 8) (N := some 71) (v := ?_) (a' := ?_) #[false, true, false, true, false, false, false, true, true, false, false, false, false, false, false, false, false, false, false, false, false, false] rfl rfl (any_of HT_.out (by kernel_rfl)) (fun _ _ _ h => h) (Or.inl ⟨by rfl, ?_⟩) ?_ ?_
         rotate_left
         ·intro w'
          go_simp
          with_reducible rfl
         rotate_left
         ·simp only [Act.put, List.setIfInBounds_toArray, List.set_cons_zero, List.set_cons_succ, i64_w, i32_w]
          rfl
         refine pure_ (i := 9) (N := some 72) (v := ?_) (a' := ?_) #[false, true, false, true, false, false, false, true, true, true, false, false, false, false, false, false, false, false, false, false, false, false] rfl rfl (any_of HT_.out (by kernel_rfl)) (fun _ _ _ h => h) (Or.inl ⟨by rfl, ?_⟩) ?_ ?_
         rotate_left
         ·intro w'
          go_simp
          with_reducible rfl
         rotate_left
         ·simp only [Act.put, List.setIfInBounds_toArray, List.set_cons_zero, List.set_cons_succ, i64_w, i32_w]
          rfl
         refine take_ (i := 0) (N := some 63) (v := ?_) (a' := ?_) #[true, true, false, true, false, false, false, true, true, true, false, false, false, false, false, false, false, false, false, false, false, false] rfl rfl (take_ofW HT_.out HW_.out (by kernel_rfl)) (fun _ _ _ h => h) (Or.inl ⟨by rfl, ?_⟩) hHeld ?_ ?_
         rotate_left
         ·rintro w' ⟨s0, s1, s2, s3, s4, s5, s6⟩
          go_simp
          with_reducible rfl
         rotate_left
         ·simp only [Act.put, List.setIfInBounds_toArray, List.set_cons_zero, List.set_cons_succ, i64_w, i32_w]
          rfl
         refine take_ (i := 2) (N := some 65) (v := ?_) (a' := ?_) #[true, true, true, true, false, false, false, true, true, true, false, false, false, false, false, false, false, false, false, false, false, false] rfl rfl (take_ofW HT_.out HW_.out (by kernel_rfl)) (fun _ _ _ h => h) (Or.inl ⟨by rfl, ?_⟩) hHeld ?_ ?_
         rotate_left
         ·rintro w' ⟨s0, s1, s2, s3, s4, s5, s6⟩
          go_simp
          with_reducible rfl
         rotate_left
         ·simp only [Act.put, List.setIfInBounds_toArray, List.set_cons_zero, List.set_cons_succ, i64_w, i32_w]
          rfl
         refine pure_ (i := 4) (N := some 67) (v := ?_) (a' := ?_) #[true, true, true, true, true, false, false, true, true, true, false, false, false, false, false, false, false, false, false, false, false, false] rfl rfl (any_of HT_.out (by kernel_rfl)) (fun _ _ _ h => h) (Or.inl ⟨by rfl, ?_⟩) ?_ ?_
         rotate_left
         ·intro w'
          go_simp
          with_reducible rfl
         rotate_left
         ·simp only [Act.put, List.setIfInBounds_toArray, List.set_cons_zero, List.set_cons_succ, i64_w, i32_w]
          rfl
         refine pure_ (i := 5) (N := some 68) (v := ?_) (a' := ?_) #[true, true, true, true, true, true, false, true, true, true, false, false, false, false, false, false, false, false, false, false, false, false] rfl rfl (any_of HT_.out (by kernel_rfl)) (fun _ _ _ h => h) (Or.inl ⟨by rfl, ?_⟩) ?_ ?_
         rotate_left
         ·intro w'
          go_simp
          with_reducible rfl
         rotate_left
         ·simp only [Act.put, List.setIfInBounds_toArray, List.set_cons_zero, List.set_cons_succ, i64_w, i32_w]
          rfl
         refine take_ (i := 6) (N := some 69) (v := ?_) (a' := ?_) #[true, true, true, true, true, true, true, true, true, true, false, false, false, false, false, false, false, false, false, false, false, false] rfl rfl (take_ofW HT_.out HW_.out (by kernel_rfl)) (fun _ _ _ h => h) (Or.inl ⟨by rfl, ?_⟩) hHeld ?_ ?_
         rotate_left
         ·rintro w' ⟨s0, s1, s2, s3, s4, s5, s6⟩
          go_simp
          with_reducible rfl
         rotate_left
         ·simp only [Act.put, List.setIfInBounds_toArray, List.set_cons_zero, List.set_cons_succ, i64_w, i32_w]
          rfl
         refine take_ (i := 10) (N := some 73) (v := ?_) (a' := ?_) #[true, true, true, true, true, true, true, true, true, true, true, false, false, false, false, false, false, false, false, false, false, false] rfl rfl (take_ofW HT_.out HW_.out (by kernel_rfl)) (fun _ _ _ h => h) (Or.inl ⟨by rfl, ?_⟩) hHeld ?_ ?_
         rotate_left
         ·rintro w' ⟨s0, s1, s2, s3, s4, s5, s6⟩
          go_simp
          with_reducible rfl
         rotate_left
         ·simp only [Act.put, List.setIfInBounds_toArray, List.set_cons_zero, List.set_cons_succ, i64_w, i32_w]
          rfl
         refine pure_ (i := 11) (N := some 74) (v := ?_) (a' := ?_) #[true, true, true, true, true, true, true, true, true, true, true, true, false, false, false, false, false, false, false, false, false, false] rfl rfl (any_of HT_.out (by kernel_rfl)) (fun _ _ _ h => h) (Or.inl ⟨by rfl, ?_⟩) ?_ ?_
         rotate_left
         ·intro w'
          go_simp
          with_reducible rfl
         rotate_left
         ·simp only [Act.put, List.setIfInBounds_toArray, List.set_cons_zero, List.set_cons_succ, i64_w, i32_w]
          rfl
         refine pure_ (i := 12) (N := some 75) (v := ?_) (a' := ?_) #[true, true, true, true, true, true, true, true, true, true, true, true, true, false, false, false, false, false, false, false, false, false] rfl rfl (any_of HT_.out (by kernel_rfl)) (fun _ _ _ h => h) (Or.inl ⟨by rfl, ?_⟩) ?_ ?_
         rotate_left
         ·intro w'
          go_simp
          with_reducible rfl
         rotate_left
         ·simp only [Act.put, List.setIfInBounds_toArray, List.set_cons_zero, List.set_cons_succ, i64_w, i32_w]
          rfl
         refine pure_ (i := 13) (N := some 76) (v := ?_) (a' := ?_) #[true, true, true, true, true, true, true, true, true, true, true, true, true, true, false, false, false, false, false, false, false, false] rfl rfl (any_of HT_.out (by kernel_rfl)) (fun _ _ _ h => h) (Or.inl ⟨by rfl, ?_⟩) ?_ ?_
         rotate_left
         ·intro w'
          go_simp
          with_reducible rfl
         rotate_left
         ·simp only [Act.put, List.setIfInBounds_toArray, List.set_cons_zero, List.set_cons_succ, i64_w, i32_w]
          rfl
         refine pure_ (i := 14) (N := some 77) (v := ?_) (a' := ?_) #[true, true, true, true, true, true, true, true, true, true, true, true, true, true, true, false, false, false, false, false, false, false] rfl rfl (any_of HT_.out (by kernel_rfl)) (fun _ _ _ h => h) (Or.inl ⟨by rfl, ?_⟩) ?_ ?_
         rotate_left
         ·intro w'
          go_simp
          with_reducible rfl
         rotate_left
         ·simp only [Act.put, List.setIfInBounds_toArray, List.set_cons_zero, List.set_cons_succ, i64_w, i32_w]
          rfl
         refine join_ (σ := Value × Nat) 2 #[true, true, true, true, true, true, true, true, true, true, true, true, true, true, true, true, true, true, true, true, false, false] (fun s_ => [(78, .tuple #[.agg #[s_.1, .int .i64 t642, .int .i64 t643], .int .i64 t644]), (15, .pointer (some ⟨s_.2, 0, none⟩)), (62, .tuple #[.agg #[s_.1, .int .i64 t642, .int .i64 t643], .int .i64 t644]), (79, .agg #[s_.1, .int .i64 t642, .int .i64 t643]), (80, .int .i64 t644)]) (fun s_ w' => (w'.cell? ⟨gb620, 0, none⟩ = some (.slice (some ad638) l0_0.length c0_0) ∧ w'.cell? ⟨gb620, 1, none⟩ = some (.int .i64 a0_1) ∧ w'.cell? ⟨gb620, 2, none⟩ = some (.int .i64 a0_2) ∧ w'.cell? (ad638.add (((ji46)).toNat * 4)) = some (.string ((rd_T42 l0_0 (ji46)).f0)) ∧ w'.cell? ⟨(ad638.add (((ji46)).toNat * 4)).block, (ad638.add (((ji46)).toNat * 4)).off + 1, none⟩ = some (.int .i64 ((rd_T42 l0_0 (ji46)).f1)) ∧ w'.cell? ⟨(ad638.add (((ji46)).toNat * 4)).block, (ad638.add (((ji46)).toNat * 4)).off + 2, none⟩ = some (.int .i64 ((rd_T42 l0_0 (ji46)).f2)) ∧ w'.cell? ⟨(ad638.add (((ji46)).toNat * 4)).block, (ad638.add (((ji46)).toNat * 4)).off + 3, none⟩ = some (.int .i64 ((rd_T42 l0_0 (ji46)).f3))) ∧ (Kd.R k42 42 w' w.heap.size (fun _ => True) s_.1 t639) ∧ (w'.heap[gb620]? = some (.cells #[.slice (some ad638) l0_0.length c0_0, .int .i64 a0_1, .int .i64 a0_2] 24 (0, 0))) ∧ (w'.heap[gb621]? = some (.cells #[.slice none 0 0, .int .i64 0, .int .i64 0] 24 (0, 0))) ∧ (w'.heap[s_.2]? = some (.cells #[.slice none 0 0, .int .i64 0, .int .i64 0] 24 (0, 0))) ∧ (w.heap.size ≤ s_.2) ∧ (w.heap.size ≤ s_.2) ∧ (gb620 ≠ s_.2) ∧ (s_.2 ≠ gb620) ∧ (gb621 ≠ s_.2) ∧ (s_.2 ≠ gb621) ∧ (Below w.heap.size w w')) ?_ ?_
         rotate_left
         ·intro hCont
          refine two_ (i := 15) (j := 19) (Ni := some 78) (Nj := some 15) #[true, true, true, true, true, true, true, true, true, true, true, true, true, true, true, true, false, false, false, false, false, false] #[true, true, true, true, true, true, true, true, true, true, true, true, true, true, true, false, false, false, false, true, false, false] rfl rfl rfl rfl (two_of HT_.out (by kernel_rfl)) (by decide) (by decide) (fun K hK => ?_) (fun K hK => ?_)
          ·skip
           refine goes_ Try.func26 (by kernel_rfl) rfl #[.agg #[.slice (some ad638) l0_0.length c0_0, .int .i64 a0_1, .int .i64 a0_2], .string ((rd_T42 l0_0 (ji46)).f0), .int .i64 (wrap64 (1 + (Int.tmod (wrap64 (Int.tdiv (wrap64 ((-1) - a1)) (l0_0.length : Int))) 5)))] (by rfl) rfl rfl (by (try simp only [List.map_toArray, List.map_cons, List.map_nil]); first | done | (simp only [hji46]; rfl) | rfl | (simp only [List.length_drop, List.length_take]; rfl)) ?_
           with_reducible refine (queue_Ask.calls kj17 _ _ l0_0 a0_1 a0_2 ((rd_T42 l0_0 (ji46)).f0) (wrap64 (1 + (Int.tmod (wrap64 (Int.tdiv (wrap64 ((-1) - a1)) (l0_0.length : Int))) 5))) t639 t642 t643 t644 _ ?side1 ?side2 A50.out).mono ?_
           (case side1 => repeat (first | exact (Kd.C_below HR0_0.out HB.out) | (with_reducible refine Kd.C_alloc ?_ _) | (with_reducible refine Kd.C_drewN ?_ _) | (with_reducible refine Kd.C_drew ?_)))
           (case side2 => exact HC0_0.out)
           rintro e w52 ⟨v640, rfl, ho0, hb⟩
           refine ⟨_, rfl, ?_⟩
           have n0_ := Aside0.mk (Kd.R_lower ho0 (below_size (by repeat (first | (with_reducible first | exact HB.out | apply below_alloc | apply pw_below_drewN | apply below_drew1 | refine below_set ?_ GE620.out | refine below_set ?_ GE621.out) | exact HB.out))))
           have n1_ := Aside0.mk (blk_below (g := gb620) (o := .cells #[.slice (some ad638) l0_0.length c0_0, .int .i64 a0_1, .int .i64 a0_2] 24 (0, 0)) (by (with_reducible repeat (first | refine blk_drewN ?_ _ | refine blk_drew ?_ | refine blk_alloc ?_ _)); exact BK620.out) hb)
           have n2_ := Aside0.mk (blk_below (g := gb621) (o := .cells #[.slice none 0 0, .int .i64 0, .int .i64 0] 24 (0, 0)) (by (with_reducible repeat (first | refine blk_drewN ?_ _ | refine blk_drew ?_ | refine blk_alloc ?_ _)); exact BK621.out) hb)
           have n3_ := Aside0.mk (below_step (by repeat (first | (with_reducible first | exact HB.out | apply below_alloc | apply pw_below_drewN | apply below_drew1 | refine below_set ?_ GE620.out | refine below_set ?_ GE621.out) | exact HB.out)) hb)
           clear BK620
           clear BK621
           clear HB
           have HO641 := n0_
           have BK620 := n1_
           have BK621 := n2_
           have HB := n3_
           clear n0_ n1_ n2_ n3_
           (try clear hb)
           (try clear hb2)
           (try clear hk)
           (try clear hi)
           (try clear ho0)
           refine hK.out _ _ ⟨(blk_cell BK620.out 0).trans rfl, (blk_cell BK620.out 1).trans rfl, (blk_cell BK620.out 2).trans rfl, ((HB.out.cell (World.block_lt_of_cell? w _ hw638_0)).trans hw638_0), ((HB.out.cell (World.block_lt_of_cell? w _ hw638_1)).trans hw638_1), ((HB.out.cell (World.block_lt_of_cell? w _ hw638_2)).trans hw638_2), ((HB.out.cell (World.block_lt_of_cell? w _ hw638_3)).trans hw638_3)⟩ (fun hHeld => ?_)
           clear hK K
           refine norm_ (a' := ?_) ?_ ?_
           rotate_left
           ·show Act.put _ (some 78) _ = _
            simp only [Act.put, List.setIfInBounds_toArray, List.set_cons_zero, List.set_cons_succ, i64_w, i32_w]
            rfl
           refine pure_ (i := 16) (N := some 62) (v := ?_) (a' := ?_) #[true, true, true, true, true, true, true, true, true, true, true, true, true, true, true, true, true, false, false, false, false, false] rfl rfl (any_of HT_.out (by kernel_rfl)) (fun _ _ _ h => h) (Or.inl ⟨by rfl, ?_⟩) ?_ ?_
           rotate_left
           ·intro w'
            go_simp
            with_reducible rfl
           rotate_left
           ·simp only [Act.put, List.setIfInBounds_toArray, List.set_cons_zero, List.set_cons_succ, i64_w, i32_w]
            rfl
           refine pure_ (i := 17) (N := some 79) (v := ?_) (a' := ?_) #[true, true, true, true, true, true, true, true, true, true, true, true, true, true, true, true, true, true, false, false, false, false] rfl rfl (any_of HT_.out (by kernel_rfl)) (fun _ _ _ h => h) (Or.inl ⟨by rfl, ?_⟩) ?_ ?_
           rotate_left
           ·intro w'
            go_simp
            with_reducible rfl
           rotate_left
           ·simp only [Act.put, List.setIfInBounds_toArray, List.set_cons_zero, List.set_cons_succ, i64_w, i32_w]
            rfl
           refine pure_ (i := 18) (N := some 80) (v := ?_) (a' := ?_) #[true, true, true, true, true, true, true, true, true, true, true, true, true, true, true, true, true, true, true, false, false, false] rfl rfl (any_of HT_.out (by kernel_rfl)) (fun _ _ _ h => h) (Or.inl ⟨by rfl, ?_⟩) ?_ ?_
           rotate_left
           ·intro w'
            go_simp
            with_reducible rfl
           rotate_left
           ·simp only [Act.put, List.setIfInBounds_toArray, List.set_cons_zero, List.set_cons_succ, i64_w, i32_w]
            rfl
           refine one_ (i := 19) (N := some 15) #[true, true, true, true, true, true, true, true, true, true, true, true, true, true, true, true, true, true, true, true, false, false] rfl rfl (one_of HT_.out (by kernel_rfl)) (by decide) (fun K hK => ?_)
           refine box_step ?hg (N := 15) ?hd (cs := #[.slice none 0 0, .int .i64 0, .int .i64 0]) (t := 24) ?hr ?_; (case hd => rfl); (case hg => rfl); (case hr => first | (go_simp; done) | (go_simp; rfl))
           intro gb645 hg w53 hbox hb
           have n0_ := Aside0.mk (Kd.R_below (by (with_reducible repeat (first | apply Kd.R_alloc | apply Kd.R_drewN | apply Kd.R_drew)); exact HO641.out) hb)
           have n1_ := Aside0.mk (blk_below (g := gb620) (o := .cells #[.slice (some ad638) l0_0.length c0_0, .int .i64 a0_1, .int .i64 a0_2] 24 (0, 0)) (by (with_reducible repeat (first | refine blk_drewN ?_ _ | refine blk_drew ?_ | refine blk_alloc ?_ _)); exact BK620.out) hb)
           have n2_ := Aside0.mk (blk_below (g := gb621) (o := .cells #[.slice none 0 0, .int .i64 0, .int .i64 0] 24 (0, 0)) (by (with_reducible repeat (first | refine blk_drewN ?_ _ | refine blk_drew ?_ | refine blk_alloc ?_ _)); exact BK621.out) hb)
           have n3_ := Aside0.mk (below_step (by repeat (first | (with_reducible first | exact HB.out | apply below_alloc | apply pw_below_drewN | apply below_drew1 | refine below_set ?_ GE620.out | refine below_set ?_ GE621.out) | exact HB.out)) hb)
           have n4_ := Aside0.mk (hbox)
           have n5_ := Aside0.mk ((by rw [hg]; exact (below_size (by repeat (first | (with_reducible first | exact HB.out | apply below_alloc | apply pw_below_drewN | apply below_drew1 | refine below_set ?_ GE620.out | refine below_set ?_ GE621.out) | exact HB.out))) : w.heap.size ≤ gb645))
           have n6_ := Aside0.mk ((by rw [hg]; exact (below_size (by repeat (first | (with_reducible first | exact HB.out | apply below_alloc | apply pw_below_drewN | apply below_drew1 | refine below_set ?_ GE620.out | refine below_set ?_ GE621.out) | exact HB.out))) : w.heap.size ≤ gb645))
           have n7_ := Aside0.mk ((by rw [hg]; exact Nat.ne_of_lt (blk_lt (g := gb620) (o := .cells #[.slice (some ad638) l0_0.length c0_0, .int .i64 a0_1, .int .i64 a0_2] 24 (0, 0)) (by (with_reducible repeat (first | refine blk_drewN ?_ _ | refine blk_drew ?_ | refine blk_alloc ?_ _)); exact BK620.out)) : gb620 ≠ gb645))
           have n8_ := Aside0.mk ((by rw [hg]; exact Nat.ne_of_gt (blk_lt (g := gb620) (o := .cells #[.slice (some ad638) l0_0.length c0_0, .int .i64 a0_1, .int .i64 a0_2] 24 (0, 0)) (by (with_reducible repeat (first | refine blk_drewN ?_ _ | refine blk_drew ?_ | refine blk_alloc ?_ _)); exact BK620.out)) : gb645 ≠ gb620))
           have n9_ := Aside0.mk ((by rw [hg]; exact Nat.ne_of_lt (blk_lt (g := gb621) (o := .cells #[.slice none 0 0, .int .i64 0, .int .i64 0] 24 (0, 0)) (by (with_reducible repeat (first | refine blk_drewN ?_ _ | refine blk_drew ?_ | refine blk_alloc ?_ _)); exact BK621.out)) : gb621 ≠ gb645))
           have n10_ := Aside0.mk ((by rw [hg]; exact Nat.ne_of_gt (blk_lt (g := gb621) (o := .cells #[.slice none 0 0, .int .i64 0, .int .i64 0] 24 (0, 0)) (by (with_reducible repeat (first | refine blk_drewN ?_ _ | refine blk_drew ?_ | refine blk_alloc ?_ _)); exact BK621.out)) : gb645 ≠ gb621))
           clear HO641
           clear BK620
           clear BK621
           clear HB
           have HO641 := n0_
           have BK620 := n1_
           have BK621 := n2_
           have HB := n3_
           have BK645 := n4_
           have GW645 := n5_
           have GE645 := n6_
           have NB620_645 := n7_
           have NB645_620 := n8_
           have NB621_645 := n9_
           have NB645_621 := n10_
           clear n0_ n1_ n2_ n3_ n4_ n5_ n6_ n7_ n8_ n9_ n10_
           clear hb hbox hg
           refine hK.out _ _ ⟨(blk_cell BK620.out 0).trans rfl, (blk_cell BK620.out 1).trans rfl, (blk_cell BK620.out 2).trans rfl, ((HB.out.cell (World.block_lt_of_cell? w _ hw638_0)).trans hw638_0), ((HB.out.cell (World.block_lt_of_cell? w _ hw638_1)).trans hw638_1), ((HB.out.cell (World.block_lt_of_cell? w _ hw638_2)).trans hw638_2), ((HB.out.cell (World.block_lt_of_cell? w _ hw638_3)).trans hw638_3)⟩ (fun hHeld => ?_)
           clear hK K
           refine norm_ (a' := ?_) ?_ ?_
           rotate_left
           ·show Act.put _ (some 15) _ = _
            simp only [Act.put, List.setIfInBounds_toArray, List.set_cons_zero, List.set_cons_succ, i64_w, i32_w]
            rfl
           exact norm_ (by simp only [putAll, Act.put, List.setIfInBounds_toArray, List.set_cons_zero, List.set_cons_succ]) (hCont (v640, gb645) _ ⟨hHeld, (by (with_reducible repeat (first | apply Kd.R_alloc | apply Kd.R_drewN | apply Kd.R_drew)); exact HO641.out), (by (with_reducible repeat (first | refine blk_drewN ?_ _ | refine blk_drew ?_ | refine blk_alloc ?_ _)); exact BK620.out), (by (with_reducible repeat (first | refine blk_drewN ?_ _ | refine blk_drew ?_ | refine blk_alloc ?_ _)); exact BK621.out), (by (with_reducible repeat (first | refine blk_drewN ?_ _ | refine blk_drew ?_ | refine blk_alloc ?_ _)); exact BK645.out), GW645.out, GE645.out, NB620_645.out, NB645_620.out, NB621_645.out, NB645_621.out, (by repeat (first | (with_reducible first | exact HB.out | apply below_alloc | apply pw_below_drewN | apply below_drew1 | refine below_set ?_ GE620.out | refine below_set ?_ GE621.out | refine below_set ?_ GE645.out) | exact HB.out))⟩)
          ·skip
           refine box_step ?hg (N := 15) ?hd (cs := #[.slice none 0 0, .int .i64 0, .int .i64 0]) (t := 24) ?hr ?_; (case hd => rfl); (case hg => rfl); (case hr => first | (go_simp; done) | (go_simp; rfl))
           intro gb645 hg w52 hbox hb
           have n0_ := Aside0.mk (blk_below (g := gb620) (o := .cells #[.slice (some ad638) l0_0.length c0_0, .int .i64 a0_1, .int .i64 a0_2] 24 (0, 0)) (by (with_reducible repeat (first | refine blk_drewN ?_ _ | refine blk_drew ?_ | refine blk_alloc ?_ _)); exact BK620.out) hb)
           have n1_ := Aside0.mk (blk_below (g := gb621) (o := .cells #[.slice none 0 0, .int .i64 0, .int .i64 0] 24 (0, 0)) (by (with_reducible repeat (first | refine blk_drewN ?_ _ | refine blk_drew ?_ | refine blk_alloc ?_ _)); exact BK621.out) hb)
           have n2_ := Aside0.mk (below_step (by repeat (first | (with_reducible first | exact HB.out | apply below_alloc | apply pw_below_drewN | apply below_drew1 | refine below_set ?_ GE620.out | refine below_set ?_ GE621.out) | exact HB.out)) hb)
           have n3_ := Aside0.mk (hbox)
           have n4_ := Aside0.mk ((by rw [hg]; exact (below_size (by repeat (first | (with_reducible first | exact HB.out | apply below_alloc | apply pw_below_drewN | apply below_drew1 | refine below_set ?_ GE620.out | refine below_set ?_ GE621.out) | exact HB.out))) : w.heap.size ≤ gb645))
           have n5_ := Aside0.mk ((by rw [hg]; exact (below_size (by repeat (first | (with_reducible first | exact HB.out | apply below_alloc | apply pw_below_drewN | apply below_drew1 | refine below_set ?_ GE620.out | refine below_set ?_ GE621.out) | exact HB.out))) : w.heap.size ≤ gb645))
           have n6_ := Aside0.mk ((by rw [hg]; exact Nat.ne_of_lt (blk_lt (g := gb620) (o := .cells #[.slice (some ad638) l0_0.length c0_0, .int .i64 a0_1, .int .i64 a0_2] 24 (0, 0)) (by (with_reducible repeat (first | refine blk_drewN ?_ _ | refine blk_drew ?_ | refine blk_alloc ?_ _)); exact BK620.out)) : gb620 ≠ gb645))
           have n7_ := Aside0.mk ((by rw [hg]; exact Nat.ne_of_gt (blk_lt (g := gb620) (o := .cells #[.slice (some ad638) l0_0.length c0_0, .int .i64 a0_1, .int .i64 a0_2] 24 (0, 0)) (by (with_reducible repeat (first | refine blk_drewN ?_ _ | refine blk_drew ?_ | refine blk_alloc ?_ _)); exact BK620.out)) : gb645 ≠ gb620))
           have n8_ := Aside0.mk ((by rw [hg]; exact Nat.ne_of_lt (blk_lt (g := gb621) (o := .cells #[.slice none 0 0, .int .i64 0, .int .i64 0] 24 (0, 0)) (by (with_reducible repeat (first | refine blk_drewN ?_ _ | refine blk_drew ?_ | refine blk_alloc ?_ _)); exact BK621.out)) : gb621 ≠ gb645))
           have n9_ := Aside0.mk ((by rw [hg]; exact Nat.ne_of_gt (blk_lt (g := gb621) (o := .cells #[.slice none 0 0, .int .i64 0, .int .i64 0] 24 (0, 0)) (by (with_reducible repeat (first | refine blk_drewN ?_ _ | refine blk_drew ?_ | refine blk_alloc ?_ _)); exact BK621.out)) : gb645 ≠ gb621))
           clear BK620
           clear BK621
           clear HB
           have BK620 := n0_
           have BK621 := n1_
           have HB := n2_
           have BK645 := n3_
           have GW645 := n4_
           have GE645 := n5_
           have NB620_645 := n6_
           have NB645_620 := n7_
           have NB621_645 := n8_
           have NB645_621 := n9_
           clear n0_ n1_ n2_ n3_ n4_ n5_ n6_ n7_ n8_ n9_
           clear hb hbox hg
           refine hK.out _ _ ⟨(blk_cell BK620.out 0).trans rfl, (blk_cell BK620.out 1).trans rfl, (blk_cell BK620.out 2).trans rfl, ((HB.out.cell (World.block_lt_of_cell? w _ hw638_0)).trans hw638_0), ((HB.out.cell (World.block_lt_of_cell? w _ hw638_1)).trans hw638_1), ((HB.out.cell (World.block_lt_of_cell? w _ hw638_2)).trans hw638_2), ((HB.out.cell (World.block_lt_of_cell? w _ hw638_3)).trans hw638_3)⟩ (fun hHeld => ?_)
           clear hK K
           refine norm_ (a' := ?_) ?_ ?_
           rotate_left
           ·show Act.put _ (some 15) _ = _
            simp only [Act.put, List.setIfInBounds_toArray, List.set_cons_zero, List.set_cons_succ, i64_w, i32_w]
            rfl
           refine one_ (i := 15) (N := some 78) #[true, true, true, true, true, true, true, true, true, true, true, true, true, true, true, true, false, false, false, true, false, false] rfl rfl (one_of HT_.out (by kernel_rfl)) (by decide) (fun K hK => ?_)
           refine goes_ Try.func26 (by kernel_rfl) rfl #[.agg #[.slice (some ad638) l0_0.length c0_0, .int .i64 a0_1, .int .i64 a0_2], .string ((rd_T42 l0_0 (ji46)).f0), .int .i64 (wrap64 (1 + (Int.tmod (wrap64 (Int.tdiv (wrap64 ((-1) - a1)) (l0_0.length : Int))) 5)))] (by rfl) rfl rfl (by (try simp only [List.map_toArray, List.map_cons, List.map_nil]); first | done | (simp only [hji46]; rfl) | rfl | (simp only [List.length_drop, List.length_take]; rfl)) ?_
           with_reducible refine (queue_Ask.calls kj17 _ _ l0_0 a0_1 a0_2 ((rd_T42 l0_0 (ji46)).f0) (wrap64 (1 + (Int.tmod (wrap64 (Int.tdiv (wrap64 ((-1) - a1)) (l0_0.length : Int))) 5))) t639 t642 t643 t644 _ ?side1 ?side2 A50.out).mono ?_
           (case side1 => repeat (first | exact (Kd.C_below HR0_0.out HB.out) | (with_reducible refine Kd.C_alloc ?_ _) | (with_reducible refine Kd.C_drewN ?_ _) | (with_reducible refine Kd.C_drew ?_)))
           (case side2 => exact HC0_0.out)
           rintro e w53 ⟨v640, rfl, ho0, hb⟩
           refine ⟨_, rfl, ?_⟩
           have n0_ := Aside0.mk (Kd.R_lower ho0 (below_size (by repeat (first | (with_reducible first | exact HB.out | apply below_alloc | apply pw_below_drewN | apply below_drew1 | refine below_set ?_ GE620.out | refine below_set ?_ GE621.out | refine below_set ?_ GE645.out) | exact HB.out))))
           have n1_ := Aside0.mk (blk_below (g := gb620) (o := .cells #[.slice (some ad638) l0_0.length c0_0, .int .i64 a0_1, .int .i64 a0_2] 24 (0, 0)) (by (with_reducible repeat (first | refine blk_drewN ?_ _ | refine blk_drew ?_ | refine blk_alloc ?_ _)); exact BK620.out) hb)
           have n2_ := Aside0.mk (blk_below (g := gb621) (o := .cells #[.slice none 0 0, .int .i64 0, .int .i64 0] 24 (0, 0)) (by (with_reducible repeat (first | refine blk_drewN ?_ _ | refine blk_drew ?_ | refine blk_alloc ?_ _)); exact BK621.out) hb)
           have n3_ := Aside0.mk (blk_below (g := gb645) (o := .cells #[.slice none 0 0, .int .i64 0, .int .i64 0] 24 (0, 0)) (by (with_reducible repeat (first | refine blk_drewN ?_ _ | refine blk_drew ?_ | refine blk_alloc ?_ _)); exact BK645.out) hb)
           have n4_ := Aside0.mk (below_step (by repeat (first | (with_reducible first | exact HB.out | apply below_alloc | apply pw_below_drewN | apply below_drew1 | refine below_set ?_ GE620.out | refine below_set ?_ GE621.out | refine below_set ?_ GE645.out) | exact HB.out)) hb)
           clear BK620
           clear BK621
           clear BK645
           clear HB
           have HO641 := n0_
           have BK620 := n1_
           have BK621 := n2_
           have BK645 := n3_
           have HB := n4_
           clear n0_ n1_ n2_ n3_ n4_
           (try clear hb)
           (try clear hb2)
           (try clear hk)
           (try clear hi)
           (try clear ho0)
           refine hK.out _ _ ⟨(blk_cell BK620.out 0).trans rfl, (blk_cell BK620.out 1).trans rfl, (blk_cell BK620.out 2).trans rfl, ((HB.out.cell (World.block_lt_of_cell? w _ hw638_0)).trans hw638_0), ((HB.out.cell (World.block_lt_of_cell? w _ hw638_1)).trans hw638_1), ((HB.out.cell (World.block_lt_of_cell? w _ hw638_2)).trans hw638_2), ((HB.out.cell (World.block_lt_of_cell? w _ hw638_3)).trans hw638_3)⟩ (fun hHeld => ?_)
           clear hK K
           refine norm_ (a' := ?_) ?_ ?_
           rotate_left
           ·show Act.put _ (some 78) _ = _
            simp only [Act.put, List.setIfInBounds_toArray, List.set_cons_zero, List.set_cons_succ, i64_w, i32_w]
            rfl
           refine pure_ (i := 16) (N := some 62) (v := ?_) (a' := ?_) #[true, true, true, true, true, true, true, true, true, true, true, true, true, true, true, true, true, false, false, true, false, false] rfl rfl (any_of HT_.out (by kernel_rfl)) (fun _ _ _ h => h) (Or.inl ⟨by rfl, ?_⟩) ?_ ?_
           rotate_left
           ·intro w'
            go_simp
            with_reducible rfl
           rotate_left
           ·simp only [Act.put, List.setIfInBounds_toArray, List.set_cons_zero, List.set_cons_succ, i64_w, i32_w]
            rfl
           refine pure_ (i := 17) (N := some 79) (v := ?_) (a' := ?_) #[true, true, true, true, true, true, true, true, true, true, true, true, true, true, true, true, true, true, false, true, false, false] rfl rfl (any_of HT_.out (by kernel_rfl)) (fun _ _ _ h => h) (Or.inl ⟨by rfl, ?_⟩) ?_ ?_
           rotate_left
           ·intro w'
            go_simp
            with_reducible rfl
           rotate_left
           ·simp only [Act.put, List.setIfInBounds_toArray, List.set_cons_zero, List.set_cons_succ, i64_w, i32_w]
            rfl
           refine pure_ (i := 18) (N := some 80) (v := ?_) (a' := ?_) #[true, true, true, true, true, true, true, true, true, true, true, true, true, true, true, true, true, true, true, true, false, false] rfl rfl (any_of HT_.out (by kernel_rfl)) (fun _ _ _ h => h) (Or.inl ⟨by rfl, ?_⟩) ?_ ?_
           rotate_left
           ·intro w'
            go_simp
            with_reducible rfl
           rotate_left
           ·simp only [Act.put, List.setIfInBounds_toArray, List.set_cons_zero, List.set_cons_succ, i64_w, i32_w]
            rfl
           exact norm_ (by simp only [putAll, Act.put, List.setIfInBounds_toArray, List.set_cons_zero, List.set_cons_succ]) (hCont (v640, gb645) _ ⟨hHeld, (by (with_reducible repeat (first | apply Kd.R_alloc | apply Kd.R_drewN | apply Kd.R_drew)); exact HO641.out), (by (with_reducible repeat (first | refine blk_drewN ?_ _ | refine blk_drew ?_ | refine blk_alloc ?_ _)); exact BK620.out), (by (with_reducible repeat (first | refine blk_drewN ?_ _ | refine blk_drew ?_ | refine blk_alloc ?_ _)); exact BK621.out), (by (with_reducible repeat (first | refine blk_drewN ?_ _ | refine blk_drew ?_ | refine blk_alloc ?_ _)); exact BK645.out), GW645.out, GE645.out, NB620_645.out, NB645_620.out, NB621_645.out, NB645_621.out, (by repeat (first | (with_reducible first | exact HB.out | apply below_alloc | apply pw_below_drewN | apply below_drew1 | refine below_set ?_ GE620.out | refine below_set ?_ GE621.out | refine below_set ?_ GE645.out) | exact HB.out))⟩)
         rintro ⟨v640, gb645⟩ w54 ⟨hS_, h0_, h1_, h2_, h3_, h4_, h5_, h6_, h7_, h8_, h9_, h10_⟩
         have n0_ : Aside0 (Kd.R k42 42 w54 w.heap.size (fun _ => True) v640 t639) := ⟨h0_⟩
         have n1_ : Aside0 (w54.heap[gb620]? = some (.cells #[.slice (some ad638) l0_0.length c0_0, .int .i64 a0_1, .int .i64 a0_2] 24 (0, 0))) := ⟨h1_⟩
         have n2_ : Aside0 (w54.heap[gb621]? = some (.cells #[.slice none 0 0, .int .i64 0, .int .i64 0] 24 (0, 0))) := ⟨h2_⟩
         have n3_ : Aside0 (w54.heap[gb645]? = some (.cells #[.slice none 0 0, .int .i64 0, .int .i64 0] 24 (0, 0))) := ⟨h3_⟩
         have n4_ : Aside0 (w.heap.size ≤ gb645) := ⟨h4_⟩
         have n5_ : Aside0 (w.heap.size ≤ gb645) := ⟨h5_⟩
         have n6_ : Aside0 (gb620 ≠ gb645) := ⟨h6_⟩
         have n7_ : Aside0 (gb645 ≠ gb620) := ⟨h7_⟩
         have n8_ : Aside0 (gb621 ≠ gb645) := ⟨h8_⟩
         have n9_ : Aside0 (gb645 ≠ gb621) := ⟨h9_⟩
         have n10_ : Aside0 (Below w.heap.size w w54) := ⟨h10_⟩
         clear BK620
         clear BK621
         clear HB
         clear h0_ h1_ h2_ h3_ h4_ h5_ h6_ h7_ h8_ h9_ h10_
         have HO641 := n0_
         have BK620 := n1_
         have BK621 := n2_
         have BK645 := n3_
         have GW645 := n4_
         have GE645 := n5_
         have NB620_645 := n6_
         have NB645_620 := n7_
         have NB621_645 := n8_
         have NB645_621 := n9_
         have HB := n10_
         clear n0_ n1_ n2_ n3_ n4_ n5_ n6_ n7_ n8_ n9_ n10_
         have hHeld : w54.cell? ⟨gb620, 0, none⟩ = some (.slice (some ad638) l0_0.length c0_0) ∧ w54.cell? ⟨gb620, 1, none⟩ = some (.int .i64 a0_1) ∧ w54.cell? ⟨gb620, 2, none⟩ = some (.int .i64 a0_2) ∧ w54.cell? (ad638.add (((ji46)).toNat * 4)) = some (.string ((rd_T42 l0_0 (ji46)).f0)) ∧ w54.cell? ⟨(ad638.add (((ji46)).toNat * 4)).block, (ad638.add (((ji46)).toNat * 4)).off + 1, none⟩ = some (.int .i64 ((rd_T42 l0_0 (ji46)).f1)) ∧ w54.cell? ⟨(ad638.add (((ji46)).toNat * 4)).block, (ad638.add (((ji46)).toNat * 4)).off + 2, none⟩ = some (.int .i64 ((rd_T42 l0_0 (ji46)).f2)) ∧ w54.cell? ⟨(ad638.add (((ji46)).toNat * 4)).block, (ad638.add (((ji46)).toNat * 4)).off + 3, none⟩ = some (.int .i64 ((rd_T42 l0_0 (ji46)).f3)) := hS_
         obtain ⟨Ao55, co55, eo55⟩ := Kd.R_slice HO641.out
         (first | subst eo55 | (injection eo55 with f1_ f2_ f3_; have f4_ := f1_.symm; have f5_ := f3_.symm; clear f1_ f2_ f3_; subst f4_; subst f5_))
         refine norm_ (a' := ?_) ?_ ?_
         rotate_left
         ·simp only [putAll, Act.put, List.setIfInBounds_toArray, List.set_cons_zero, List.set_cons_succ]
          rfl
         refine one_ (i := 20) (N := none) #[true, true, true, true, true, true, true, true, true, true, true, true, true, true, true, true, true, true, true, true, true, false] rfl rfl (one_of HT_.out (by kernel_rfl)) (by decide) (fun K hK => ?_)
         have hs56 : w54.cell? ⟨gb645, 0, none⟩ = some (.slice none 0 0) := (blk_cell BK645.out 0).trans rfl
         have hfs56 := blk_frozen BK645.out 0
         have hns56_0 := NB620_645.out
         have hns56_1 := NB621_645.out
         have hms56_0 := NB645_620.out
         have hms56_1 := NB645_621.out
         have hs57 : w54.cell? ⟨gb645, 1, none⟩ = some (.int .i64 0) := (blk_cell BK645.out 1).trans rfl
         have hfs57 := blk_frozen BK645.out 1
         have hns57_0 := NB620_645.out
         have hns57_1 := NB621_645.out
         have hms57_0 := NB645_620.out
         have hms57_1 := NB645_621.out
         have hs58 : w54.cell? ⟨gb645, 2, none⟩ = some (.int .i64 0) := (blk_cell BK645.out 2).trans rfl
         have hfs58 := blk_frozen BK645.out 2
         have hns58_0 := NB620_645.out
         have hns58_1 := NB621_645.out
         have hms58_0 := NB645_620.out
         have hms58_1 := NB645_621.out
         refine skip_ (w1 := ?_) (by rfl) rfl ?_ ?_
         rotate_left
         ·go_simp
          rfl
         refine hK.out _ _ ⟨((cell_far (p := ⟨gb645, _, none⟩) NB620_645.out _).trans (((cell_far (p := ⟨gb645, _, none⟩) NB620_645.out _).trans (((cell_far (p := ⟨gb645, _, none⟩) NB620_645.out _).trans (hHeld.1)))))), ((cell_far (p := ⟨gb645, _, none⟩) NB620_645.out _).trans (((cell_far (p := ⟨gb645, _, none⟩) NB620_645.out _).trans (((cell_far (p := ⟨gb645, _, none⟩) NB620_645.out _).trans (hHeld.2.1)))))), ((cell_far (p := ⟨gb645, _, none⟩) NB620_645.out _).trans (((cell_far (p := ⟨gb645, _, none⟩) NB620_645.out _).trans (((cell_far (p := ⟨gb645, _, none⟩) NB620_645.out _).trans (hHeld.2.2.1)))))), ((cell_far (p := ⟨gb645, _, none⟩) (by first | exact Nat.ne_of_lt (Nat.lt_of_lt_of_le (by have := World.block_lt_of_cell? _ _ hw638_0; first | rwa [add_block] at this | exact this) GW645.out) | (rw [add_block]; exact Nat.ne_of_lt (Nat.lt_of_lt_of_le (by have := World.block_lt_of_cell? _ _ hw638_0; first | rwa [add_block] at this | exact this) GW645.out)) | (show (Addr.add _ _).block ≠ _; rw [add_block]; exact Nat.ne_of_lt (Nat.lt_of_lt_of_le (by have := World.block_lt_of_cell? _ _ hw638_0; first | rwa [add_block] at this | exact this) GW645.out)) | (dsimp only; exact Nat.ne_of_lt (Nat.lt_of_lt_of_le (by have := World.block_lt_of_cell? _ _ hw638_0; first | rwa [add_block] at this | exact this) GW645.out))) _).trans (((cell_far (p := ⟨gb645, _, none⟩) (by first | exact Nat.ne_of_lt (Nat.lt_of_lt_of_le (by have := World.block_lt_of_cell? _ _ hw638_0; first | rwa [add_block] at this | exact this) GW645.out) | (rw [add_block]; exact Nat.ne_of_lt (Nat.lt_of_lt_of_le (by have := World.block_lt_of_cell? _ _ hw638_0; first | rwa [add_block] at this | exact this) GW645.out)) | (show (Addr.add _ _).block ≠ _; rw [add_block]; exact Nat.ne_of_lt (Nat.lt_of_lt_of_le (by have := World.block_lt_of_cell? _ _ hw638_0; first | rwa [add_block] at this | exact this) GW645.out)) | (dsimp only; exact Nat.ne_of_lt (Nat.lt_of_lt_of_le (by have := World.block_lt_of_cell? _ _ hw638_0; first | rwa [add_block] at this | exact this) GW645.out))) _).trans (((cell_far (p := ⟨gb645, _, none⟩) (by first | exact Nat.ne_of_lt (Nat.lt_of_lt_of_le (by have := World.block_lt_of_cell? _ _ hw638_0; first | rwa [add_block] at this | exact this) GW645.out) | (rw [add_block]; exact Nat.ne_of_lt (Nat.lt_of_lt_of_le (by have := World.block_lt_of_cell? _ _ hw638_0; first | rwa [add_block] at this | exact this) GW645.out)) | (show (Addr.add _ _).block ≠ _; rw [add_block]; exact Nat.ne_of_lt (Nat.lt_of_lt_of_le (by have := World.block_lt_of_cell? _ _ hw638_0; first | rwa [add_block] at this | exact this) GW645.out)) | (dsimp only; exact Nat.ne_of_lt (Nat.lt_of_lt_of_le (by have := World.block_lt_of_cell? _ _ hw638_0; first | rwa [add_block] at this | exact this) GW645.out))) _).trans (hHeld.2.2.2.1)))))), ((cell_far (p := ⟨gb645, _, none⟩) (by first | exact Nat.ne_of_lt (Nat.lt_of_lt_of_le (by have := World.block_lt_of_cell? _ _ hw638_1; first | rwa [add_block] at this | exact this) GW645.out) | (rw [add_block]; exact Nat.ne_of_lt (Nat.lt_of_lt_of_le (by have := World.block_lt_of_cell? _ _ hw638_1; first | rwa [add_block] at this | exact this) GW645.out)) | (show (Addr.add _ _).block ≠ _; rw [add_block]; exact Nat.ne_of_lt (Nat.lt_of_lt_of_le (by have := World.block_lt_of_cell? _ _ hw638_1; first | rwa [add_block] at this | exact this) GW645.out)) | (dsimp only; exact Nat.ne_of_lt (Nat.lt_of_lt_of_le (by have := World.block_lt_of_cell? _ _ hw638_1; first | rwa [add_block] at this | exact this) GW645.out))) _).trans (((cell_far (p := ⟨gb645, _, none⟩) (by first | exact Nat.ne_of_lt (Nat.lt_of_lt_of_le (by have := World.block_lt_of_cell? _ _ hw638_1; first | rwa [add_block] at this | exact this) GW645.out) | (rw [add_block]; exact Nat.ne_of_lt (Nat.lt_of_lt_of_le (by have := World.block_lt_of_cell? _ _ hw638_1; first | rwa [add_block] at this | exact this) GW645.out)) | (show (Addr.add _ _).block ≠ _; rw [add_block]; exact Nat.ne_of_lt (Nat.lt_of_lt_of_le (by have := World.block_lt_of_cell? _ _ hw638_1; first | rwa [add_block] at this | exact this) GW645.out)) | (dsimp only; exact Nat.ne_of_lt (Nat.lt_of_lt_of_le (by have := World.block_lt_of_cell? _ _ hw638_1; first | rwa [add_block] at this | exact this) GW645.out))) _).trans (((cell_far (p := ⟨gb645, _, none⟩) (by first | exact Nat.ne_of_lt (Nat.lt_of_lt_of_le (by have := World.block_lt_of_cell? _ _ hw638_1; first | rwa [add_block] at this | exact this) GW645.out) | (rw [add_block]; exact Nat.ne_of_lt (Nat.lt_of_lt_of_le (by have := World.block_lt_of_cell? _ _ hw638_1; first | rwa [add_block] at this | exact this) GW645.out)) | (show (Addr.add _ _).block ≠ _; rw [add_block]; exact Nat.ne_of_lt (Nat.lt_of_lt_of_le (by have := World.block_lt_of_cell? _ _ hw638_1; first | rwa [add_block] at this | exact this) GW645.out)) | (dsimp only; exact Nat.ne_of_lt (Nat.lt_of_lt_of_le (by have := World.block_lt_of_cell? _ _ hw638_1; first | rwa [add_block] at this | exact this) GW645.out))) _).trans (hHeld.2.2.2.2.1)))))), ((cell_far (p := ⟨gb645, _, none⟩) (by first | exact Nat.ne_of_lt (Nat.lt_of_lt_of_le (by have := World.block_lt_of_cell? _ _ hw638_2; first | rwa [add_block] at this | exact this) GW645.out) | (rw [add_block]; exact Nat.ne_of_lt (Nat.lt_of_lt_of_le (by have := World.block_lt_of_cell? _ _ hw638_2; first | rwa [add_block] at this | exact this) GW645.out)) | (show (Addr.add _ _).block ≠ _; rw [add_block]; exact Nat.ne_of_lt (Nat.lt_of_lt_of_le (by have := World.block_lt_of_cell? _ _ hw638_2; first | rwa [add_block] at this | exact this) GW645.out)) | (dsimp only; exact Nat.ne_of_lt (Nat.lt_of_lt_of_le (by have := World.block_lt_of_cell? _ _ hw638_2; first | rwa [add_block] at this | exact this) GW645.out))) _).trans (((cell_far (p := ⟨gb645, _, none⟩) (by first | exact Nat.ne_of_lt (Nat.lt_of_lt_of_le (by have := World.block_lt_of_cell? _ _ hw638_2; first | rwa [add_block] at this | exact this) GW645.out) | (rw [add_block]; exact Nat.ne_of_lt (Nat.lt_of_lt_of_le (by have := World.block_lt_of_cell? _ _ hw638_2; first | rwa [add_block] at this | exact this) GW645.out)) | (show (Addr.add _ _).block ≠ _; rw [add_block]; exact Nat.ne_of_lt (Nat.lt_of_lt_of_le (by have := World.block_lt_of_cell? _ _ hw638_2; first | rwa [add_block] at this | exact this) GW645.out)) | (dsimp only; exact Nat.ne_of_lt (Nat.lt_of_lt_of_le (by have := World.block_lt_of_cell? _ _ hw638_2; first | rwa [add_block] at this | exact this) GW645.out))) _).trans (((cell_far (p := ⟨gb645, _, none⟩) (by first | exact Nat.ne_of_lt (Nat.lt_of_lt_of_le (by have := World.block_lt_of_cell? _ _ hw638_2; first | rwa [add_block] at this | exact this) GW645.out) | (rw [add_block]; exact Nat.ne_of_lt (Nat.lt_of_lt_of_le (by have := World.block_lt_of_cell? _ _ hw638_2; first | rwa [add_block] at this | exact this) GW645.out)) | (show (Addr.add _ _).block ≠ _; rw [add_block]; exact Nat.ne_of_lt (Nat.lt_of_lt_of_le (by have := World.block_lt_of_cell? _ _ hw638_2; first | rwa [add_block] at this | exact this) GW645.out)) | (dsimp only; exact Nat.ne_of_lt (Nat.lt_of_lt_of_le (by have := World.block_lt_of_cell? _ _ hw638_2; first | rwa [add_block] at this | exact this) GW645.out))) _).trans (hHeld.2.2.2.2.2.1)))))), ((cell_far (p := ⟨gb645, _, none⟩) (by first | exact Nat.ne_of_lt (Nat.lt_of_lt_of_le (by have := World.block_lt_of_cell? _ _ hw638_3; first | rwa [add_block] at this | exact this) GW645.out) | (rw [add_block]; exact Nat.ne_of_lt (Nat.lt_of_lt_of_le (by have := World.block_lt_of_cell? _ _ hw638_3; first | rwa [add_block] at this | exact this) GW645.out)) | (show (Addr.add _ _).block ≠ _; rw [add_block]; exact Nat.ne_of_lt (Nat.lt_of_lt_of_le (by have := World.block_lt_of_cell? _ _ hw638_3; first | rwa [add_block] at this | exact this) GW645.out)) | (dsimp only; exact Nat.ne_of_lt (Nat.lt_of_lt_of_le (by have := World.block_lt_of_cell? _ _ hw638_3; first | rwa [add_block] at this | exact this) GW645.out))) _).trans (((cell_far (p := ⟨gb645, _, none⟩) (by first | exact Nat.ne_of_lt (Nat.lt_of_lt_of_le (by have := World.block_lt_of_cell? _ _ hw638_3; first | rwa [add_block] at this | exact this) GW645.out) | (rw [add_block]; exact Nat.ne_of_lt (Nat.lt_of_lt_of_le (by have := World.block_lt_of_cell? _ _ hw638_3; first | rwa [add_block] at this | exact this) GW645.out)) | (show (Addr.add _ _).block ≠ _; rw [add_block]; exact Nat.ne_of_lt (Nat.lt_of_lt_of_le (by have := World.block_lt_of_cell? _ _ hw638_3; first | rwa [add_block] at this | exact this) GW645.out)) | (dsimp only; exact Nat.ne_of_lt (Nat.lt_of_lt_of_le (by have := World.block_lt_of_cell? _ _ hw638_3; first | rwa [add_block] at this | exact this) GW645.out))) _).trans (((cell_far (p := ⟨gb645, _, none⟩) (by first | exact Nat.ne_of_lt (Nat.lt_of_lt_of_le (by have := World.block_lt_of_cell? _ _ hw638_3; first | rwa [add_block] at this | exact this) GW645.out) | (rw [add_block]; exact Nat.ne_of_lt (Nat.lt_of_lt_of_le (by have := World.block_lt_of_cell? _ _ hw638_3; first | rwa [add_block] at this | exact this) GW645.out)) | (show (Addr.add _ _).block ≠ _; rw [add_block]; exact Nat.ne_of_lt (Nat.lt_of_lt_of_le (by have := World.block_lt_of_cell? _ _ hw638_3; first | rwa [add_block] at this | exact this) GW645.out)) | (dsimp only; exact Nat.ne_of_lt (Nat.lt_of_lt_of_le (by have := World.block_lt_of_cell? _ _ hw638_3; first | rwa [add_block] at this | exact this) GW645.out))) _).trans (hHeld.2.2.2.2.2.2))))))⟩ (fun hHeld => ?_)
         clear hK K
         refine pure_ (i := 21) (N := some 16) (v := ?_) (a' := ?_) #[true, true, true, true, true, true, true, true, true, true, true, true, true, true, true, true, true, true, true, true, true, true] rfl rfl (any_of HT_.out (by kernel_rfl)) (fun _ _ _ h => h) (Or.inl ⟨by rfl, ?_⟩) ?_ ?_
         rotate_left
         ·intro w'
          go_simp
          with_reducible rfl
         rotate_left
         ·simp only [Act.put, List.setIfInBounds_toArray, List.set_cons_zero, List.set_cons_succ, i64_w, i32_w]
          rfl
         refine done_ (done_of HT_.out (by kernel_rfl)) ?_
         have hnb59 := NB645_620.out
         have hnc59 := NB620_645.out
         have hnb60 := NB645_621.out
         have hnc60 := NB621_645.out
         have hcz61_0 : w54.cell? ⟨gb645, 0, none⟩ = some (.slice none 0 0) := (blk_cell BK645.out 0).trans rfl
         have hcz61_1 : w54.cell? ⟨gb645, 1, none⟩ = some (.int .i64 0) := (blk_cell BK645.out 1).trans rfl
         have hcz61_2 : w54.cell? ⟨gb645, 2, none⟩ = some (.int .i64 0) := (blk_cell BK645.out 2).trans rfl
         have hfz61_0 := blk_frozen BK645.out 0
         have hfz61_1 := blk_frozen BK645.out 1
         have hfz61_2 := blk_frozen BK645.out 2
         have hnb62 := NB621_620.out
         have hnc62 := NB620_621.out
         have hcz63_0 : w54.cell? ⟨gb621, 0, none⟩ = some (.slice none 0 0) := (blk_cell BK621.out 0).trans rfl
         have hcz63_1 : w54.cell? ⟨gb621, 1, none⟩ = some (.int .i64 0) := (blk_cell BK621.out 1).trans rfl
         have hcz63_2 : w54.cell? ⟨gb621, 2, none⟩ = some (.int .i64 0) := (blk_cell BK621.out 2).trans rfl
         have hfz63_0 := blk_frozen BK621.out 0
         have hfz63_1 := blk_frozen BK621.out 1
         have hfz63_2 := blk_frozen BK621.out 2
         try go_wp2
         refine bodyPost_ret (results_ctt rfl _ _ gb621 24 #[.slice Ao55 t639.length co55, .int .i64 t642, .int .i64 t643] (0, 0) _ rfl (by (with_reducible repeat (first | refine blk_drewN ?_ _ | refine blk_drew ?_ | refine blk_alloc ?_ _)); refine blk_put (cs := #[.slice Ao55 t639.length co55, .int .i64 t642, .int .i64 0]) ?_ 2 _ rfl; (with_reducible repeat (first | refine blk_drewN ?_ _ | refine blk_drew ?_ | refine blk_alloc ?_ _)); refine blk_put (cs := #[.slice Ao55 t639.length co55, .int .i64 0, .int .i64 0]) ?_ 1 _ rfl; (with_reducible repeat (first | refine blk_drewN ?_ _ | refine blk_drew ?_ | refine blk_alloc ?_ _)); refine blk_put (cs := #[.slice none 0 0, .int .i64 0, .int .i64 0]) ?_ 0 _ rfl; (with_reducible repeat (first | refine blk_drewN ?_ _ | refine blk_drew ?_ | refine blk_alloc ?_ _)); refine blk_far ?_ NB621_645.out _; (with_reducible repeat (first | refine blk_drewN ?_ _ | refine blk_drew ?_ | refine blk_alloc ?_ _)); refine blk_far ?_ NB621_645.out _; (with_reducible repeat (first | refine blk_drewN ?_ _ | refine blk_drew ?_ | refine blk_alloc ?_ _)); refine blk_far ?_ NB621_645.out _; (with_reducible repeat (first | refine blk_drewN ?_ _ | refine blk_drew ?_ | refine blk_alloc ?_ _)); exact BK621.out) Try.underlying24 rfl (by kernel_rfl)) rfl ?_
         exact ⟨_, by first | rfl | (simp [errW_none, errW_some] <;> rfl) | (simp only [← hji46]; first | rfl | (simp [errW_none, errW_some] <;> rfl)) | (simp [*, errW_none, errW_some] <;> rfl), by (with_reducible repeat (first | apply Kd.R_alloc | apply Kd.R_drewN | apply Kd.R_drew)); exact Kd.R_mono (Kd.R_far (p := ⟨gb621, 2, none⟩) (Kd.R_far (p := ⟨gb621, 1, none⟩) (Kd.R_far (p := ⟨gb621, 0, none⟩) (Kd.R_far (p := ⟨gb645, 2, none⟩) (Kd.R_far (p := ⟨gb645, 1, none⟩) (Kd.R_far (p := ⟨gb645, 0, none⟩) (Kd.R_types (Kd.R_types HO641.out BK645.out (by decide)) BK621.out (by decide)) (fun _ hk => hk.1.2) (.slice Ao55 t639.length co55)) (fun _ hk => hk.1.2) (.int .i64 t642)) (fun _ hk => hk.1.2) (.int .i64 t643)) (fun _ hk => hk.2) (.slice Ao55 t639.length co55)) (fun _ hk => hk.2) (.int .i64 t642)) (fun _ hk => hk.2) (.int .i64 t643)) (fun _ hk => trivial), by repeat (first | (with_reducible first | exact HB.out | apply below_alloc | apply pw_below_drewN | apply below_drew1 | refine below_set ?_ GE620.out | refine below_set ?_ GE621.out | refine below_set ?_ GE645.out) | exact HB.out)⟩
       ·rw [if_neg c48] at H
        exact absurd H (by simp)
      ·rw [if_neg c47] at H
       exact absurd H (by simp)

end Go.Proofs.Ytelmcaenemjppaa.Q
