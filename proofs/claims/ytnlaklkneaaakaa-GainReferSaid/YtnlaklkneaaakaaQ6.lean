-- Written by qprint.py (a program of this session) over the program of the kit that prints contracts. Not trusted: Lean checks it.
import Derived.Test.YtnlaklkneaaakaaQ0
import Derived.Test.YtnlaklkneaaakaaQ2
import Derived.Test.YtnlaklkneaaakaaQ4
import Derived.Test.YtnlaklkneaaakaaQ5
namespace Go.Proofs.Ytnlaklkneaaakaa.Q
open Go.RowKit Go.Proofs.YtnlaklkneaaakaaW.PrintWords Go.Proofs.YtnlaklkneaaakaaW.PrintLast Go.Proofs.YtnlaklkneaaakaaW.PrintMore
attribute [local go_sem] max2_int min2_int max_two min_two max_three min_three max_four min_four   -- for this text's walks alone
set_option linter.unusedVariables false
set_option linter.unusedSimpArgs false

attribute [local go_sem high] eqA38
/-! ### cx_Mul: function 34 -/
def cx_Mul.f (k : Nat) (a0_0 : Int) (a0_1 : Int) (a0_2 : Int) (a1_0 : Int) (a1_1 : Int) (a1_2 : Int) : Option (Int × Int × Int × Int) := (cx_check.f k a0_0 a0_1 a0_2 a1_0 a1_1 a1_2).bind fun t126 => (if t126 = 0 then ((cx_reduced.f k (wrap64 ((wrap64 (a0_0 * a1_0)) - (wrap64 (a0_1 * a1_1)))) (wrap64 ((wrap64 (a0_0 * a1_1)) + (wrap64 (a0_1 * a1_0)))) (wrap64 (a0_2 * a1_2))).bind fun bt127 => (some (bt127.1, bt127.2.1, bt127.2.2.1, bt127.2.2.2))) else (some (0, 0, 0, t126)))
theorem cx_Mul.mono : ∀ a0 a1 a2 a3 a4 a5 k, LeO (cx_Mul.f k a0 a1 a2 a3 a4 a5) (cx_Mul.f (k + 1) a0 a1 a2 a3 a4 a5) := by
 intro a0 a1 a2 a3 a4 a5 k
 unfold cx_Mul.f
 repeat' first
   | (with_reducible exact cx_check.mono _ _ _ _ _ _ _)
   | (with_reducible exact cx_reduced.mono _ _ _ _)
   | (with_reducible exact LeO.refl _)
   | (with_reducible exact LeO.none _)
   | (with_reducible refine LeO.ite ?_ ?_)
   | (with_reducible refine LeO.bind ?_ (fun _ => ?_))
   | exact cx_check.mono _ _ _ _ _ _ _
   | exact cx_reduced.mono _ _ _ _
   | exact LeO.none _
   | refine LeO.ite ?_ ?_
   | refine LeO.bind ?_ (fun _ => ?_)
set_option maxHeartbeats 8000000 in
set_option maxRecDepth 100000 in
theorem cx_Mul.calls (k : Nat) (a0_0 : Int) (a0_1 : Int) (a0_2 : Int) (a1_0 : Int) (a1_1 : Int) (a1_2 : Int) (r1 : Int) (r2 : Int) (r3 : Int) (r4 : Int) (w : World) (h : cx_Mul.f k a0_0 a0_1 a0_2 a1_0 a1_1 a1_2 = some (r1, r2, r3, r4)) :
  Calls Try.prog 34 #[.agg #[.int .i64 a0_0, .int .i64 a0_1, .int .i64 a0_2], .agg #[.int .i64 a1_0, .int .i64 a1_1, .int .i64 a1_2]] w fun e w' => e = .returned (.tuple #[.agg #[.int .i64 r1, .int .i64 r2, .int .i64 r3], .int .i64 r4]) ∧ Below w.heap.size w w' := by
 have hu36 := Try.underlying36
 have HB := Aside0.mk (Below.refl w.heap.size w)
 have H : ((cx_check.f k a0_0 a0_1 a0_2 a1_0 a1_1 a1_2).bind fun t126 => (if t126 = 0 then ((cx_reduced.f k (wrap64 ((wrap64 (a0_0 * a1_0)) - (wrap64 (a0_1 * a1_1)))) (wrap64 ((wrap64 (a0_0 * a1_1)) + (wrap64 (a0_1 * a1_0)))) (wrap64 (a0_2 * a1_2))).bind fun bt127 => (some (bt127.1, bt127.2.1, bt127.2.2.1, bt127.2.2.2))) else (some (0, 0, 0, t126)))) = some (r1, r2, r3, r4) := h
 clear h
 replace H := Option.bind_eq_some_iff.mp H
 obtain ⟨t126, A30, H⟩ := H
 replace H : (if t126 = 0 then ((cx_reduced.f k (wrap64 ((wrap64 (a0_0 * a1_0)) - (wrap64 (a0_1 * a1_1)))) (wrap64 ((wrap64 (a0_0 * a1_1)) + (wrap64 (a0_1 * a1_0)))) (wrap64 (a0_2 * a1_2))).bind fun bt127 => (some (bt127.1, bt127.2.1, bt127.2.2.1, bt127.2.2.2))) else (some (0, 0, 0, t126))) = some (r1, r2, r3, r4) := H
 have A3 := Aside0.mk A30
 clear A30
 by_cases c4 : t126 = 0
 ·rw [if_pos c4] at H
  have c4b0 : (t126 == 0) = true := beq_iff_eq.mpr c4
  have c4b1 : (t126 != 0) = false := bne_eq_false_iff_eq.mpr c4
  clear c4
  replace H := Option.bind_eq_some_iff.mp H
  obtain ⟨⟨t127, t128, t129, t130⟩, A50, H⟩ := H
  replace H : (some (t127, t128, t129, t130)) = some (r1, r2, r3, r4) := H
  have A5 := Aside0.mk A50
  clear A50
  simp only [Option.some.injEq, Prod.mk.injEq] at H
  obtain ⟨rfl, rfl, rfl, rfl⟩ := H
  go_enter Try.func34, Try.ntmps34
  go_wp2_with (first | ((with_reducible refine gate_dst (N := 2) rfl ?_); refine box_event ?hg (N := 2) ?hd (cs := #[.int .i64 a0_0, .int .i64 a0_1, .int .i64 a0_2]) (t := 36) ?hr ?_; (case hd => rfl); (case hg => rfl); (case hr => first | (go_simp; done) | (go_simp; rfl)); intro gb123 hg w6 hbox hb; have n0_ := Aside0.mk (below_step (by repeat (first | (with_reducible first | exact HB.out | apply below_alloc | apply pw_below_drewN | apply below_drew1) | exact HB.out)) hb); have n1_ := Aside0.mk (hbox); have n2_ := Aside0.mk ((by rw [hg]; exact (below_size (by repeat (first | (with_reducible first | exact HB.out | apply below_alloc | apply pw_below_drewN | apply below_drew1) | exact HB.out))) : w.heap.size ≤ gb123)); have n3_ := Aside0.mk ((by rw [hg]; exact (below_size (by repeat (first | (with_reducible first | exact HB.out | apply below_alloc | apply pw_below_drewN | apply below_drew1) | exact HB.out))) : w.heap.size ≤ gb123)); clear HB; have HB := n0_; have BK123 := n1_; have GW123 := n2_; have GE123 := n3_; clear n0_ n1_ n2_ n3_; clear hb hbox hg) | ((with_reducible refine gate_dst (N := 3) rfl ?_); refine box_event ?hg (N := 3) ?hd (cs := #[.int .i64 a1_0, .int .i64 a1_1, .int .i64 a1_2]) (t := 36) ?hr ?_; (case hd => rfl); (case hg => rfl); (case hr => first | (go_simp; done) | (go_simp; rfl)); intro gb124 hg w7 hbox hb; have n0_ := Aside0.mk (blk_below (g := gb123) (o := .cells #[.int .i64 a0_0, .int .i64 a0_1, .int .i64 a0_2] 36 (0, 0)) (by (with_reducible repeat (first | refine blk_drewN ?_ _ | refine blk_drew ?_ | refine blk_alloc ?_ _)); exact BK123.out) hb); have n1_ := Aside0.mk (below_step (by repeat (first | (with_reducible first | exact HB.out | apply below_alloc | apply pw_below_drewN | apply below_drew1 | refine below_set ?_ GE123.out) | exact HB.out)) hb); have n2_ := Aside0.mk (hbox); have n3_ := Aside0.mk ((by rw [hg]; exact (below_size (by repeat (first | (with_reducible first | exact HB.out | apply below_alloc | apply pw_below_drewN | apply below_drew1 | refine below_set ?_ GE123.out) | exact HB.out))) : w.heap.size ≤ gb124)); have n4_ := Aside0.mk ((by rw [hg]; exact (below_size (by repeat (first | (with_reducible first | exact HB.out | apply below_alloc | apply pw_below_drewN | apply below_drew1 | refine below_set ?_ GE123.out) | exact HB.out))) : w.heap.size ≤ gb124)); have n5_ := Aside0.mk ((by rw [hg]; exact Nat.ne_of_lt (blk_lt (g := gb123) (o := .cells #[.int .i64 a0_0, .int .i64 a0_1, .int .i64 a0_2] 36 (0, 0)) (by (with_reducible repeat (first | refine blk_drewN ?_ _ | refine blk_drew ?_ | refine blk_alloc ?_ _)); exact BK123.out)) : gb123 ≠ gb124)); have n6_ := Aside0.mk ((by rw [hg]; exact Nat.ne_of_gt (blk_lt (g := gb123) (o := .cells #[.int .i64 a0_0, .int .i64 a0_1, .int .i64 a0_2] 36 (0, 0)) (by (with_reducible repeat (first | refine blk_drewN ?_ _ | refine blk_drew ?_ | refine blk_alloc ?_ _)); exact BK123.out)) : gb124 ≠ gb123)); clear BK123; clear HB; have BK123 := n0_; have HB := n1_; have BK124 := n2_; have GW124 := n3_; have GE124 := n4_; have NB123_124 := n5_; have NB124_123 := n6_; clear n0_ n1_ n2_ n3_ n4_ n5_ n6_; clear hb hbox hg) | ((with_reducible refine gate_dst (N := 4) rfl ?_); refine box_event ?hg (N := 4) ?hd (cs := #[.int .i64 0, .int .i64 0, .int .i64 0]) (t := 36) ?hr ?_; (case hd => rfl); (case hg => rfl); (case hr => first | (go_simp; done) | (go_simp; rfl)); intro gb125 hg w8 hbox hb; have n0_ := Aside0.mk (blk_below (g := gb123) (o := .cells #[.int .i64 a0_0, .int .i64 a0_1, .int .i64 a0_2] 36 (0, 0)) (by (with_reducible repeat (first | refine blk_drewN ?_ _ | refine blk_drew ?_ | refine blk_alloc ?_ _)); exact BK123.out) hb); have n1_ := Aside0.mk (blk_below (g := gb124) (o := .cells #[.int .i64 a1_0, .int .i64 a1_1, .int .i64 a1_2] 36 (0, 0)) (by (with_reducible repeat (first | refine blk_drewN ?_ _ | refine blk_drew ?_ | refine blk_alloc ?_ _)); exact BK124.out) hb); have n2_ := Aside0.mk (below_step (by repeat (first | (with_reducible first | exact HB.out | apply below_alloc | apply pw_below_drewN | apply below_drew1 | refine below_set ?_ GE123.out | refine below_set ?_ GE124.out) | exact HB.out)) hb); have n3_ := Aside0.mk (hbox); have n4_ := Aside0.mk ((by rw [hg]; exact (below_size (by repeat (first | (with_reducible first | exact HB.out | apply below_alloc | apply pw_below_drewN | apply below_drew1 | refine below_set ?_ GE123.out | refine below_set ?_ GE124.out) | exact HB.out))) : w.heap.size ≤ gb125)); have n5_ := Aside0.mk ((by rw [hg]; exact (below_size (by repeat (first | (with_reducible first | exact HB.out | apply below_alloc | apply pw_below_drewN | apply below_drew1 | refine below_set ?_ GE123.out | refine below_set ?_ GE124.out) | exact HB.out))) : w.heap.size ≤ gb125)); have n6_ := Aside0.mk ((by rw [hg]; exact Nat.ne_of_lt (blk_lt (g := gb123) (o := .cells #[.int .i64 a0_0, .int .i64 a0_1, .int .i64 a0_2] 36 (0, 0)) (by (with_reducible repeat (first | refine blk_drewN ?_ _ | refine blk_drew ?_ | refine blk_alloc ?_ _)); exact BK123.out)) : gb123 ≠ gb125)); have n7_ := Aside0.mk ((by rw [hg]; exact Nat.ne_of_gt (blk_lt (g := gb123) (o := .cells #[.int .i64 a0_0, .int .i64 a0_1, .int .i64 a0_2] 36 (0, 0)) (by (with_reducible repeat (first | refine blk_drewN ?_ _ | refine blk_drew ?_ | refine blk_alloc ?_ _)); exact BK123.out)) : gb125 ≠ gb123)); have n8_ := Aside0.mk ((by rw [hg]; exact Nat.ne_of_lt (blk_lt (g := gb124) (o := .cells #[.int .i64 a1_0, .int .i64 a1_1, .int .i64 a1_2] 36 (0, 0)) (by (with_reducible repeat (first | refine blk_drewN ?_ _ | refine blk_drew ?_ | refine blk_alloc ?_ _)); exact BK124.out)) : gb124 ≠ gb125)); have n9_ := Aside0.mk ((by rw [hg]; exact Nat.ne_of_gt (blk_lt (g := gb124) (o := .cells #[.int .i64 a1_0, .int .i64 a1_1, .int .i64 a1_2] 36 (0, 0)) (by (with_reducible repeat (first | refine blk_drewN ?_ _ | refine blk_drew ?_ | refine blk_alloc ?_ _)); exact BK124.out)) : gb125 ≠ gb124)); clear BK123; clear BK124; clear HB; have BK123 := n0_; have BK124 := n1_; have HB := n2_; have BK125 := n3_; have GW125 := n4_; have GE125 := n5_; have NB123_125 := n6_; have NB125_123 := n7_; have NB124_125 := n8_; have NB125_124 := n9_; clear n0_ n1_ n2_ n3_ n4_ n5_ n6_ n7_ n8_ n9_; clear hb hbox hg; have hnb9 := NB123_124.out; have hnc9 := NB124_123.out; have hnb10 := NB123_125.out; have hnc10 := NB125_123.out; have hcz11_0 : w8.cell? ⟨gb123, 0, none⟩ = some (.int .i64 a0_0) := (blk_cell BK123.out 0).trans rfl; have hcz11_1 : w8.cell? ⟨gb123, 1, none⟩ = some (.int .i64 a0_1) := (blk_cell BK123.out 1).trans rfl; have hcz11_2 : w8.cell? ⟨gb123, 2, none⟩ = some (.int .i64 a0_2) := (blk_cell BK123.out 2).trans rfl; have hfz11_0 := blk_frozen BK123.out 0; have hfz11_1 := blk_frozen BK123.out 1; have hfz11_2 := blk_frozen BK123.out 2; have hnb12 := NB124_125.out; have hnc12 := NB125_124.out; have hcz13_0 : w8.cell? ⟨gb124, 0, none⟩ = some (.int .i64 a1_0) := (blk_cell BK124.out 0).trans rfl; have hcz13_1 : w8.cell? ⟨gb124, 1, none⟩ = some (.int .i64 a1_1) := (blk_cell BK124.out 1).trans rfl; have hcz13_2 : w8.cell? ⟨gb124, 2, none⟩ = some (.int .i64 a1_2) := (blk_cell BK124.out 2).trans rfl; have hfz13_0 := blk_frozen BK124.out 0; have hfz13_1 := blk_frozen BK124.out 1; have hfz13_2 := blk_frozen BK124.out 2) | ((with_reducible refine gate_callee (f := 58) rfl ?_); refine goesL_ (some 9) rfl rfl Try.func58 (by kernel_rfl) rfl #[.agg #[.int .i64 a0_0, .int .i64 a0_1, .int .i64 a0_2], .agg #[.int .i64 a1_0, .int .i64 a1_1, .int .i64 a1_2]] rfl (by (try simp only [List.map_toArray, List.map_cons, List.map_nil]); first | done | rfl | (simp only [List.length_drop, List.length_take]; rfl)) ?_; (with_reducible refine (cx_check.calls k a0_0 a0_1 a0_2 a1_0 a1_1 a1_2 t126 _ A3.out).mono ?_); rintro e w14 ⟨rfl, hb⟩; refine ⟨_, rfl, ?_⟩; have n0_ := Aside0.mk (blk_below (g := gb123) (o := .cells #[.int .i64 a0_0, .int .i64 a0_1, .int .i64 a0_2] 36 (0, 0)) (by (with_reducible repeat (first | refine blk_drewN ?_ _ | refine blk_drew ?_ | refine blk_alloc ?_ _)); exact BK123.out) hb); have n1_ := Aside0.mk (blk_below (g := gb124) (o := .cells #[.int .i64 a1_0, .int .i64 a1_1, .int .i64 a1_2] 36 (0, 0)) (by (with_reducible repeat (first | refine blk_drewN ?_ _ | refine blk_drew ?_ | refine blk_alloc ?_ _)); exact BK124.out) hb); have n2_ := Aside0.mk (blk_below (g := gb125) (o := .cells #[.int .i64 0, .int .i64 0, .int .i64 0] 36 (0, 0)) (by (with_reducible repeat (first | refine blk_drewN ?_ _ | refine blk_drew ?_ | refine blk_alloc ?_ _)); exact BK125.out) hb); have n3_ := Aside0.mk (below_step (by repeat (first | (with_reducible first | exact HB.out | apply below_alloc | apply pw_below_drewN | apply below_drew1 | refine below_set ?_ GE123.out | refine below_set ?_ GE124.out | refine below_set ?_ GE125.out) | exact HB.out)) hb); clear BK123; clear BK124; clear BK125; clear HB; have BK123 := n0_; have BK124 := n1_; have BK125 := n2_; have HB := n3_; clear n0_ n1_ n2_ n3_; (try clear hb); (try clear hb2); (try clear hk); (try clear hi); have hcz15_0 : w14.cell? ⟨gb123, 0, none⟩ = some (.int .i64 a0_0) := (blk_cell BK123.out 0).trans rfl; have hcz15_1 : w14.cell? ⟨gb123, 1, none⟩ = some (.int .i64 a0_1) := (blk_cell BK123.out 1).trans rfl; have hcz15_2 : w14.cell? ⟨gb123, 2, none⟩ = some (.int .i64 a0_2) := (blk_cell BK123.out 2).trans rfl; have hfz15_0 := blk_frozen BK123.out 0; have hfz15_1 := blk_frozen BK123.out 1; have hfz15_2 := blk_frozen BK123.out 2; have hcz16_0 : w14.cell? ⟨gb124, 0, none⟩ = some (.int .i64 a1_0) := (blk_cell BK124.out 0).trans rfl; have hcz16_1 : w14.cell? ⟨gb124, 1, none⟩ = some (.int .i64 a1_1) := (blk_cell BK124.out 1).trans rfl; have hcz16_2 : w14.cell? ⟨gb124, 2, none⟩ = some (.int .i64 a1_2) := (blk_cell BK124.out 2).trans rfl; have hfz16_0 := blk_frozen BK124.out 0; have hfz16_1 := blk_frozen BK124.out 1; have hfz16_2 := blk_frozen BK124.out 2) | ((with_reducible refine gate_callee (f := 59) rfl ?_); refine goesL_ (some 41) rfl rfl Try.func59 (by kernel_rfl) rfl #[.int .i64 (wrap64 ((wrap64 (a0_0 * a1_0)) - (wrap64 (a0_1 * a1_1)))), .int .i64 (wrap64 ((wrap64 (a0_0 * a1_1)) + (wrap64 (a0_1 * a1_0)))), .int .i64 (wrap64 (a0_2 * a1_2))] rfl (by (try simp only [List.map_toArray, List.map_cons, List.map_nil]); first | done | rfl | (simp only [List.length_drop, List.length_take]; rfl)) ?_; (with_reducible refine (cx_reduced.calls k (wrap64 ((wrap64 (a0_0 * a1_0)) - (wrap64 (a0_1 * a1_1)))) (wrap64 ((wrap64 (a0_0 * a1_1)) + (wrap64 (a0_1 * a1_0)))) (wrap64 (a0_2 * a1_2)) t127 t128 t129 t130 _ A5.out).mono ?_); rintro e w17 ⟨rfl, hb⟩; refine ⟨_, rfl, ?_⟩; have n0_ := Aside0.mk (blk_below (g := gb123) (o := .cells #[.int .i64 a0_0, .int .i64 a0_1, .int .i64 a0_2] 36 (0, 0)) (by (with_reducible repeat (first | refine blk_drewN ?_ _ | refine blk_drew ?_ | refine blk_alloc ?_ _)); exact BK123.out) hb); have n1_ := Aside0.mk (blk_below (g := gb124) (o := .cells #[.int .i64 a1_0, .int .i64 a1_1, .int .i64 a1_2] 36 (0, 0)) (by (with_reducible repeat (first | refine blk_drewN ?_ _ | refine blk_drew ?_ | refine blk_alloc ?_ _)); exact BK124.out) hb); have n2_ := Aside0.mk (blk_below (g := gb125) (o := .cells #[.int .i64 0, .int .i64 0, .int .i64 0] 36 (0, 0)) (by (with_reducible repeat (first | refine blk_drewN ?_ _ | refine blk_drew ?_ | refine blk_alloc ?_ _)); exact BK125.out) hb); have n3_ := Aside0.mk (below_step (by repeat (first | (with_reducible first | exact HB.out | apply below_alloc | apply pw_below_drewN | apply below_drew1 | refine below_set ?_ GE123.out | refine below_set ?_ GE124.out | refine below_set ?_ GE125.out) | exact HB.out)) hb); clear BK123; clear BK124; clear BK125; clear HB; have BK123 := n0_; have BK124 := n1_; have BK125 := n2_; have HB := n3_; clear n0_ n1_ n2_ n3_; (try clear hb); (try clear hb2); (try clear hk); (try clear hi); have hcz18_0 : w17.cell? ⟨gb125, 0, none⟩ = some (.int .i64 0) := (blk_cell BK125.out 0).trans rfl; have hcz18_1 : w17.cell? ⟨gb125, 1, none⟩ = some (.int .i64 0) := (blk_cell BK125.out 1).trans rfl; have hcz18_2 : w17.cell? ⟨gb125, 2, none⟩ = some (.int .i64 0) := (blk_cell BK125.out 2).trans rfl; have hfz18_0 := blk_frozen BK125.out 0; have hfz18_1 := blk_frozen BK125.out 1; have hfz18_2 := blk_frozen BK125.out 2))
  refine bodyPost_ret (results_ct rfl _ _ gb125 36 #[.int .i64 t127, .int .i64 t128, .int .i64 t129] (0, 0) _ rfl (by (with_reducible repeat (first | refine blk_drewN ?_ _ | refine blk_drew ?_ | refine blk_alloc ?_ _)); refine blk_put (cs := #[.int .i64 t127, .int .i64 t128, .int .i64 0]) ?_ 2 _ rfl; (with_reducible repeat (first | refine blk_drewN ?_ _ | refine blk_drew ?_ | refine blk_alloc ?_ _)); refine blk_put (cs := #[.int .i64 t127, .int .i64 0, .int .i64 0]) ?_ 1 _ rfl; (with_reducible repeat (first | refine blk_drewN ?_ _ | refine blk_drew ?_ | refine blk_alloc ?_ _)); refine blk_put (cs := #[.int .i64 0, .int .i64 0, .int .i64 0]) ?_ 0 _ rfl; (with_reducible repeat (first | refine blk_drewN ?_ _ | refine blk_drew ?_ | refine blk_alloc ?_ _)); exact BK125.out) Try.underlying36 rfl (by kernel_rfl)) rfl ?_
  exact ⟨by first | rfl | (simp [errW_none, errW_some] <;> rfl) | (simp [*, errW_none, errW_some] <;> rfl), by repeat (first | (with_reducible first | exact HB.out | apply below_alloc | apply pw_below_drewN | apply below_drew1 | refine below_set ?_ GE123.out | refine below_set ?_ GE124.out | refine below_set ?_ GE125.out) | exact HB.out)⟩
 ·rw [if_neg c4] at H
  have c4b0 : (t126 == 0) = false := beq_eq_false_iff_ne.mpr c4
  have c4b1 : (t126 != 0) = true := bne_iff_ne.mpr c4
  simp only [Option.some.injEq, Prod.mk.injEq] at H
  obtain ⟨rfl, rfl, rfl, rfl⟩ := H
  go_enter Try.func34, Try.ntmps34
  go_wp2_with (first | ((with_reducible refine gate_dst (N := 2) rfl ?_); refine box_event ?hg (N := 2) ?hd (cs := #[.int .i64 a0_0, .int .i64 a0_1, .int .i64 a0_2]) (t := 36) ?hr ?_; (case hd => rfl); (case hg => rfl); (case hr => first | (go_simp; done) | (go_simp; rfl)); intro gb123 hg w19 hbox hb; have n0_ := Aside0.mk (below_step (by repeat (first | (with_reducible first | exact HB.out | apply below_alloc | apply pw_below_drewN | apply below_drew1) | exact HB.out)) hb); have n1_ := Aside0.mk (hbox); have n2_ := Aside0.mk ((by rw [hg]; exact (below_size (by repeat (first | (with_reducible first | exact HB.out | apply below_alloc | apply pw_below_drewN | apply below_drew1) | exact HB.out))) : w.heap.size ≤ gb123)); have n3_ := Aside0.mk ((by rw [hg]; exact (below_size (by repeat (first | (with_reducible first | exact HB.out | apply below_alloc | apply pw_below_drewN | apply below_drew1) | exact HB.out))) : w.heap.size ≤ gb123)); clear HB; have HB := n0_; have BK123 := n1_; have GW123 := n2_; have GE123 := n3_; clear n0_ n1_ n2_ n3_; clear hb hbox hg) | ((with_reducible refine gate_dst (N := 3) rfl ?_); refine box_event ?hg (N := 3) ?hd (cs := #[.int .i64 a1_0, .int .i64 a1_1, .int .i64 a1_2]) (t := 36) ?hr ?_; (case hd => rfl); (case hg => rfl); (case hr => first | (go_simp; done) | (go_simp; rfl)); intro gb124 hg w20 hbox hb; have n0_ := Aside0.mk (blk_below (g := gb123) (o := .cells #[.int .i64 a0_0, .int .i64 a0_1, .int .i64 a0_2] 36 (0, 0)) (by (with_reducible repeat (first | refine blk_drewN ?_ _ | refine blk_drew ?_ | refine blk_alloc ?_ _)); exact BK123.out) hb); have n1_ := Aside0.mk (below_step (by repeat (first | (with_reducible first | exact HB.out | apply below_alloc | apply pw_below_drewN | apply below_drew1 | refine below_set ?_ GE123.out) | exact HB.out)) hb); have n2_ := Aside0.mk (hbox); have n3_ := Aside0.mk ((by rw [hg]; exact (below_size (by repeat (first | (with_reducible first | exact HB.out | apply below_alloc | apply pw_below_drewN | apply below_drew1 | refine below_set ?_ GE123.out) | exact HB.out))) : w.heap.size ≤ gb124)); have n4_ := Aside0.mk ((by rw [hg]; exact (below_size (by repeat (first | (with_reducible first | exact HB.out | apply below_alloc | apply pw_below_drewN | apply below_drew1 | refine below_set ?_ GE123.out) | exact HB.out))) : w.heap.size ≤ gb124)); have n5_ := Aside0.mk ((by rw [hg]; exact Nat.ne_of_lt (blk_lt (g := gb123) (o := .cells #[.int .i64 a0_0, .int .i64 a0_1, .int .i64 a0_2] 36 (0, 0)) (by (with_reducible repeat (first | refine blk_drewN ?_ _ | refine blk_drew ?_ | refine blk_alloc ?_ _)); exact BK123.out)) : gb123 ≠ gb124)); have n6_ := Aside0.mk ((by rw [hg]; exact Nat.ne_of_gt (blk_lt (g := gb123) (o := .cells #[.int .i64 a0_0, .int .i64 a0_1, .int .i64 a0_2] 36 (0, 0)) (by (with_reducible repeat (first | refine blk_drewN ?_ _ | refine blk_drew ?_ | refine blk_alloc ?_ _)); exact BK123.out)) : gb124 ≠ gb123)); clear BK123; clear HB; have BK123 := n0_; have HB := n1_; have BK124 := n2_; have GW124 := n3_; have GE124 := n4_; have NB123_124 := n5_; have NB124_123 := n6_; clear n0_ n1_ n2_ n3_ n4_ n5_ n6_; clear hb hbox hg) | ((with_reducible refine gate_dst (N := 4) rfl ?_); refine box_event ?hg (N := 4) ?hd (cs := #[.int .i64 0, .int .i64 0, .int .i64 0]) (t := 36) ?hr ?_; (case hd => rfl); (case hg => rfl); (case hr => first | (go_simp; done) | (go_simp; rfl)); intro gb125 hg w21 hbox hb; have n0_ := Aside0.mk (blk_below (g := gb123) (o := .cells #[.int .i64 a0_0, .int .i64 a0_1, .int .i64 a0_2] 36 (0, 0)) (by (with_reducible repeat (first | refine blk_drewN ?_ _ | refine blk_drew ?_ | refine blk_alloc ?_ _)); exact BK123.out) hb); have n1_ := Aside0.mk (blk_below (g := gb124) (o := .cells #[.int .i64 a1_0, .int .i64 a1_1, .int .i64 a1_2] 36 (0, 0)) (by (with_reducible repeat (first | refine blk_drewN ?_ _ | refine blk_drew ?_ | refine blk_alloc ?_ _)); exact BK124.out) hb); have n2_ := Aside0.mk (below_step (by repeat (first | (with_reducible first | exact HB.out | apply below_alloc | apply pw_below_drewN | apply below_drew1 | refine below_set ?_ GE123.out | refine below_set ?_ GE124.out) | exact HB.out)) hb); have n3_ := Aside0.mk (hbox); have n4_ := Aside0.mk ((by rw [hg]; exact (below_size (by repeat (first | (with_reducible first | exact HB.out | apply below_alloc | apply pw_below_drewN | apply below_drew1 | refine below_set ?_ GE123.out | refine below_set ?_ GE124.out) | exact HB.out))) : w.heap.size ≤ gb125)); have n5_ := Aside0.mk ((by rw [hg]; exact (below_size (by repeat (first | (with_reducible first | exact HB.out | apply below_alloc | apply pw_below_drewN | apply below_drew1 | refine below_set ?_ GE123.out | refine below_set ?_ GE124.out) | exact HB.out))) : w.heap.size ≤ gb125)); have n6_ := Aside0.mk ((by rw [hg]; exact Nat.ne_of_lt (blk_lt (g := gb123) (o := .cells #[.int .i64 a0_0, .int .i64 a0_1, .int .i64 a0_2] 36 (0, 0)) (by (with_reducible repeat (first | refine blk_drewN ?_ _ | refine blk_drew ?_ | refine blk_alloc ?_ _)); exact BK123.out)) : gb123 ≠ gb125)); have n7_ := Aside0.mk ((by rw [hg]; exact Nat.ne_of_gt (blk_lt (g := gb123) (o := .cells #[.int .i64 a0_0, .int .i64 a0_1, .int .i64 a0_2] 36 (0, 0)) (by (with_reducible repeat (first | refine blk_drewN ?_ _ | refine blk_drew ?_ | refine blk_alloc ?_ _)); exact BK123.out)) : gb125 ≠ gb123)); have n8_ := Aside0.mk ((by rw [hg]; exact Nat.ne_of_lt (blk_lt (g := gb124) (o := .cells #[.int .i64 a1_0, .int .i64 a1_1, .int .i64 a1_2] 36 (0, 0)) (by (with_reducible repeat (first | refine blk_drewN ?_ _ | refine blk_drew ?_ | refine blk_alloc ?_ _)); exact BK124.out)) : gb124 ≠ gb125)); have n9_ := Aside0.mk ((by rw [hg]; exact Nat.ne_of_gt (blk_lt (g := gb124) (o := .cells #[.int .i64 a1_0, .int .i64 a1_1, .int .i64 a1_2] 36 (0, 0)) (by (with_reducible repeat (first | refine blk_drewN ?_ _ | refine blk_drew ?_ | refine blk_alloc ?_ _)); exact BK124.out)) : gb125 ≠ gb124)); clear BK123; clear BK124; clear HB; have BK123 := n0_; have BK124 := n1_; have HB := n2_; have BK125 := n3_; have GW125 := n4_; have GE125 := n5_; have NB123_125 := n6_; have NB125_123 := n7_; have NB124_125 := n8_; have NB125_124 := n9_; clear n0_ n1_ n2_ n3_ n4_ n5_ n6_ n7_ n8_ n9_; clear hb hbox hg; have hnb22 := NB123_124.out; have hnc22 := NB124_123.out; have hnb23 := NB123_125.out; have hnc23 := NB125_123.out; have hcz24_0 : w21.cell? ⟨gb123, 0, none⟩ = some (.int .i64 a0_0) := (blk_cell BK123.out 0).trans rfl; have hcz24_1 : w21.cell? ⟨gb123, 1, none⟩ = some (.int .i64 a0_1) := (blk_cell BK123.out 1).trans rfl; have hcz24_2 : w21.cell? ⟨gb123, 2, none⟩ = some (.int .i64 a0_2) := (blk_cell BK123.out 2).trans rfl; have hfz24_0 := blk_frozen BK123.out 0; have hfz24_1 := blk_frozen BK123.out 1; have hfz24_2 := blk_frozen BK123.out 2; have hnb25 := NB124_125.out; have hnc25 := NB125_124.out; have hcz26_0 : w21.cell? ⟨gb124, 0, none⟩ = some (.int .i64 a1_0) := (blk_cell BK124.out 0).trans rfl; have hcz26_1 : w21.cell? ⟨gb124, 1, none⟩ = some (.int .i64 a1_1) := (blk_cell BK124.out 1).trans rfl; have hcz26_2 : w21.cell? ⟨gb124, 2, none⟩ = some (.int .i64 a1_2) := (blk_cell BK124.out 2).trans rfl; have hfz26_0 := blk_frozen BK124.out 0; have hfz26_1 := blk_frozen BK124.out 1; have hfz26_2 := blk_frozen BK124.out 2) | ((with_reducible refine gate_callee (f := 58) rfl ?_); refine goesL_ (some 9) rfl rfl Try.func58 (by kernel_rfl) rfl #[.agg #[.int .i64 a0_0, .int .i64 a0_1, .int .i64 a0_2], .agg #[.int .i64 a1_0, .int .i64 a1_1, .int .i64 a1_2]] rfl (by (try simp only [List.map_toArray, List.map_cons, List.map_nil]); first | done | rfl | (simp only [List.length_drop, List.length_take]; rfl)) ?_; (with_reducible refine (cx_check.calls k a0_0 a0_1 a0_2 a1_0 a1_1 a1_2 t126 _ A3.out).mono ?_); rintro e w27 ⟨rfl, hb⟩; refine ⟨_, rfl, ?_⟩; have n0_ := Aside0.mk (blk_below (g := gb123) (o := .cells #[.int .i64 a0_0, .int .i64 a0_1, .int .i64 a0_2] 36 (0, 0)) (by (with_reducible repeat (first | refine blk_drewN ?_ _ | refine blk_drew ?_ | refine blk_alloc ?_ _)); exact BK123.out) hb); have n1_ := Aside0.mk (blk_below (g := gb124) (o := .cells #[.int .i64 a1_0, .int .i64 a1_1, .int .i64 a1_2] 36 (0, 0)) (by (with_reducible repeat (first | refine blk_drewN ?_ _ | refine blk_drew ?_ | refine blk_alloc ?_ _)); exact BK124.out) hb); have n2_ := Aside0.mk (blk_below (g := gb125) (o := .cells #[.int .i64 0, .int .i64 0, .int .i64 0] 36 (0, 0)) (by (with_reducible repeat (first | refine blk_drewN ?_ _ | refine blk_drew ?_ | refine blk_alloc ?_ _)); exact BK125.out) hb); have n3_ := Aside0.mk (below_step (by repeat (first | (with_reducible first | exact HB.out | apply below_alloc | apply pw_below_drewN | apply below_drew1 | refine below_set ?_ GE123.out | refine below_set ?_ GE124.out | refine below_set ?_ GE125.out) | exact HB.out)) hb); clear BK123; clear BK124; clear BK125; clear HB; have BK123 := n0_; have BK124 := n1_; have BK125 := n2_; have HB := n3_; clear n0_ n1_ n2_ n3_; (try clear hb); (try clear hb2); (try clear hk); (try clear hi); have hcz28_0 : w27.cell? ⟨gb125, 0, none⟩ = some (.int .i64 0) := (blk_cell BK125.out 0).trans rfl; have hcz28_1 : w27.cell? ⟨gb125, 1, none⟩ = some (.int .i64 0) := (blk_cell BK125.out 1).trans rfl; have hcz28_2 : w27.cell? ⟨gb125, 2, none⟩ = some (.int .i64 0) := (blk_cell BK125.out 2).trans rfl; have hfz28_0 := blk_frozen BK125.out 0; have hfz28_1 := blk_frozen BK125.out 1; have hfz28_2 := blk_frozen BK125.out 2))
  refine bodyPost_ret (results_ct rfl _ _ gb125 36 #[.int .i64 0, .int .i64 0, .int .i64 0] (0, 0) _ rfl (by (with_reducible repeat (first | refine blk_drewN ?_ _ | refine blk_drew ?_ | refine blk_alloc ?_ _)); refine blk_put (cs := #[.int .i64 0, .int .i64 0, .int .i64 0]) ?_ 2 _ rfl; (with_reducible repeat (first | refine blk_drewN ?_ _ | refine blk_drew ?_ | refine blk_alloc ?_ _)); refine blk_put (cs := #[.int .i64 0, .int .i64 0, .int .i64 0]) ?_ 1 _ rfl; (with_reducible repeat (first | refine blk_drewN ?_ _ | refine blk_drew ?_ | refine blk_alloc ?_ _)); refine blk_put (cs := #[.int .i64 0, .int .i64 0, .int .i64 0]) ?_ 0 _ rfl; (with_reducible repeat (first | refine blk_drewN ?_ _ | refine blk_drew ?_ | refine blk_alloc ?_ _)); exact BK125.out) Try.underlying36 rfl (by kernel_rfl)) rfl ?_
  exact ⟨by first | rfl | (simp [errW_none, errW_some] <;> rfl) | (simp [*, errW_none, errW_some] <;> rfl), by repeat (first | (with_reducible first | exact HB.out | apply below_alloc | apply pw_below_drewN | apply below_drew1 | refine below_set ?_ GE123.out | refine below_set ?_ GE124.out | refine below_set ?_ GE125.out) | exact HB.out)⟩

/-! ### gain_times: function 35 -/
def gain_times.f (k : Nat) (a0_0 : Int) (a0_1 : Int) (a0_2 : Int) (a1_0 : Int) (a1_1 : Int) (a1_2 : Int) : Option (Int × Int × Int × Int) := (cx_Mul.f k a0_0 a0_1 a0_2 a1_0 (wrap64 (-a1_1)) a1_2).bind fun bt134 => (some (bt134.1, bt134.2.1, bt134.2.2.1, bt134.2.2.2))
theorem gain_times.mono : ∀ a0 a1 a2 a3 a4 a5 k, LeO (gain_times.f k a0 a1 a2 a3 a4 a5) (gain_times.f (k + 1) a0 a1 a2 a3 a4 a5) := by
 intro a0 a1 a2 a3 a4 a5 k
 unfold gain_times.f
 repeat' first
   | (with_reducible exact cx_Mul.mono _ _ _ _ _ _ _)
   | (with_reducible exact LeO.refl _)
   | (with_reducible exact LeO.none _)
   | (with_reducible refine LeO.ite ?_ ?_)
   | (with_reducible refine LeO.bind ?_ (fun _ => ?_))
   | exact cx_Mul.mono _ _ _ _ _ _ _
   | exact LeO.none _
   | refine LeO.ite ?_ ?_
   | refine LeO.bind ?_ (fun _ => ?_)
set_option maxHeartbeats 8000000 in
set_option maxRecDepth 100000 in
theorem gain_times.calls (k : Nat) (a0_0 : Int) (a0_1 : Int) (a0_2 : Int) (a1_0 : Int) (a1_1 : Int) (a1_2 : Int) (r1 : Int) (r2 : Int) (r3 : Int) (r4 : Int) (w : World) (h : gain_times.f k a0_0 a0_1 a0_2 a1_0 a1_1 a1_2 = some (r1, r2, r3, r4)) :
  Calls Try.prog 35 #[.agg #[.int .i64 a0_0, .int .i64 a0_1, .int .i64 a0_2], .agg #[.int .i64 a1_0, .int .i64 a1_1, .int .i64 a1_2]] w fun e w' => e = .returned (.tuple #[.agg #[.int .i64 r1, .int .i64 r2, .int .i64 r3], .int .i64 r4]) ∧ Below w.heap.size w w' := by
 have hu36 := Try.underlying36
 have HB := Aside0.mk (Below.refl w.heap.size w)
 have H : ((cx_Mul.f k a0_0 a0_1 a0_2 a1_0 (wrap64 (-a1_1)) a1_2).bind fun bt134 => (some (bt134.1, bt134.2.1, bt134.2.2.1, bt134.2.2.2))) = some (r1, r2, r3, r4) := h
 clear h
 replace H := Option.bind_eq_some_iff.mp H
 obtain ⟨⟨t134, t135, t136, t137⟩, A30, H⟩ := H
 replace H : (some (t134, t135, t136, t137)) = some (r1, r2, r3, r4) := H
 have A3 := Aside0.mk A30
 clear A30
 simp only [Option.some.injEq, Prod.mk.injEq] at H
 obtain ⟨rfl, rfl, rfl, rfl⟩ := H
 go_enter Try.func35, Try.ntmps35
 go_wp2_with (first | ((with_reducible refine gate_dst (N := 2) rfl ?_); refine box_event ?hg (N := 2) ?hd (cs := #[.int .i64 a0_0, .int .i64 a0_1, .int .i64 a0_2]) (t := 36) ?hr ?_; (case hd => rfl); (case hg => rfl); (case hr => first | (go_simp; done) | (go_simp; rfl)); intro gb131 hg w4 hbox hb; have n0_ := Aside0.mk (below_step (by repeat (first | (with_reducible first | exact HB.out | apply below_alloc | apply pw_below_drewN | apply below_drew1) | exact HB.out)) hb); have n1_ := Aside0.mk (hbox); have n2_ := Aside0.mk ((by rw [hg]; exact (below_size (by repeat (first | (with_reducible first | exact HB.out | apply below_alloc | apply pw_below_drewN | apply below_drew1) | exact HB.out))) : w.heap.size ≤ gb131)); have n3_ := Aside0.mk ((by rw [hg]; exact (below_size (by repeat (first | (with_reducible first | exact HB.out | apply below_alloc | apply pw_below_drewN | apply below_drew1) | exact HB.out))) : w.heap.size ≤ gb131)); clear HB; have HB := n0_; have BK131 := n1_; have GW131 := n2_; have GE131 := n3_; clear n0_ n1_ n2_ n3_; clear hb hbox hg) | ((with_reducible refine gate_dst (N := 3) rfl ?_); refine box_event ?hg (N := 3) ?hd (cs := #[.int .i64 a1_0, .int .i64 a1_1, .int .i64 a1_2]) (t := 36) ?hr ?_; (case hd => rfl); (case hg => rfl); (case hr => first | (go_simp; done) | (go_simp; rfl)); intro gb132 hg w5 hbox hb; have n0_ := Aside0.mk (blk_below (g := gb131) (o := .cells #[.int .i64 a0_0, .int .i64 a0_1, .int .i64 a0_2] 36 (0, 0)) (by (with_reducible repeat (first | refine blk_drewN ?_ _ | refine blk_drew ?_ | refine blk_alloc ?_ _)); exact BK131.out) hb); have n1_ := Aside0.mk (below_step (by repeat (first | (with_reducible first | exact HB.out | apply below_alloc | apply pw_below_drewN | apply below_drew1 | refine below_set ?_ GE131.out) | exact HB.out)) hb); have n2_ := Aside0.mk (hbox); have n3_ := Aside0.mk ((by rw [hg]; exact (below_size (by repeat (first | (with_reducible first | exact HB.out | apply below_alloc | apply pw_below_drewN | apply below_drew1 | refine below_set ?_ GE131.out) | exact HB.out))) : w.heap.size ≤ gb132)); have n4_ := Aside0.mk ((by rw [hg]; exact (below_size (by repeat (first | (with_reducible first | exact HB.out | apply below_alloc | apply pw_below_drewN | apply below_drew1 | refine below_set ?_ GE131.out) | exact HB.out))) : w.heap.size ≤ gb132)); have n5_ := Aside0.mk ((by rw [hg]; exact Nat.ne_of_lt (blk_lt (g := gb131) (o := .cells #[.int .i64 a0_0, .int .i64 a0_1, .int .i64 a0_2] 36 (0, 0)) (by (with_reducible repeat (first | refine blk_drewN ?_ _ | refine blk_drew ?_ | refine blk_alloc ?_ _)); exact BK131.out)) : gb131 ≠ gb132)); have n6_ := Aside0.mk ((by rw [hg]; exact Nat.ne_of_gt (blk_lt (g := gb131) (o := .cells #[.int .i64 a0_0, .int .i64 a0_1, .int .i64 a0_2] 36 (0, 0)) (by (with_reducible repeat (first | refine blk_drewN ?_ _ | refine blk_drew ?_ | refine blk_alloc ?_ _)); exact BK131.out)) : gb132 ≠ gb131)); clear BK131; clear HB; have BK131 := n0_; have HB := n1_; have BK132 := n2_; have GW132 := n3_; have GE132 := n4_; have NB131_132 := n5_; have NB132_131 := n6_; clear n0_ n1_ n2_ n3_ n4_ n5_ n6_; clear hb hbox hg) | ((with_reducible refine gate_dst (N := 4) rfl ?_); refine box_event ?hg (N := 4) ?hd (cs := #[.int .i64 0, .int .i64 0, .int .i64 0]) (t := 36) ?hr ?_; (case hd => rfl); (case hg => rfl); (case hr => first | (go_simp; done) | (go_simp; rfl)); intro gb133 hg w6 hbox hb; have n0_ := Aside0.mk (blk_below (g := gb131) (o := .cells #[.int .i64 a0_0, .int .i64 a0_1, .int .i64 a0_2] 36 (0, 0)) (by (with_reducible repeat (first | refine blk_drewN ?_ _ | refine blk_drew ?_ | refine blk_alloc ?_ _)); exact BK131.out) hb); have n1_ := Aside0.mk (blk_below (g := gb132) (o := .cells #[.int .i64 a1_0, .int .i64 a1_1, .int .i64 a1_2] 36 (0, 0)) (by (with_reducible repeat (first | refine blk_drewN ?_ _ | refine blk_drew ?_ | refine blk_alloc ?_ _)); exact BK132.out) hb); have n2_ := Aside0.mk (below_step (by repeat (first | (with_reducible first | exact HB.out | apply below_alloc | apply pw_below_drewN | apply below_drew1 | refine below_set ?_ GE131.out | refine below_set ?_ GE132.out) | exact HB.out)) hb); have n3_ := Aside0.mk (hbox); have n4_ := Aside0.mk ((by rw [hg]; exact (below_size (by repeat (first | (with_reducible first | exact HB.out | apply below_alloc | apply pw_below_drewN | apply below_drew1 | refine below_set ?_ GE131.out | refine below_set ?_ GE132.out) | exact HB.out))) : w.heap.size ≤ gb133)); have n5_ := Aside0.mk ((by rw [hg]; exact (below_size (by repeat (first | (with_reducible first | exact HB.out | apply below_alloc | apply pw_below_drewN | apply below_drew1 | refine below_set ?_ GE131.out | refine below_set ?_ GE132.out) | exact HB.out))) : w.heap.size ≤ gb133)); have n6_ := Aside0.mk ((by rw [hg]; exact Nat.ne_of_lt (blk_lt (g := gb131) (o := .cells #[.int .i64 a0_0, .int .i64 a0_1, .int .i64 a0_2] 36 (0, 0)) (by (with_reducible repeat (first | refine blk_drewN ?_ _ | refine blk_drew ?_ | refine blk_alloc ?_ _)); exact BK131.out)) : gb131 ≠ gb133)); have n7_ := Aside0.mk ((by rw [hg]; exact Nat.ne_of_gt (blk_lt (g := gb131) (o := .cells #[.int .i64 a0_0, .int .i64 a0_1, .int .i64 a0_2] 36 (0, 0)) (by (with_reducible repeat (first | refine blk_drewN ?_ _ | refine blk_drew ?_ | refine blk_alloc ?_ _)); exact BK131.out)) : gb133 ≠ gb131)); have n8_ := Aside0.mk ((by rw [hg]; exact Nat.ne_of_lt (blk_lt (g := gb132) (o := .cells #[.int .i64 a1_0, .int .i64 a1_1, .int .i64 a1_2] 36 (0, 0)) (by (with_reducible repeat (first | refine blk_drewN ?_ _ | refine blk_drew ?_ | refine blk_alloc ?_ _)); exact BK132.out)) : gb132 ≠ gb133)); have n9_ := Aside0.mk ((by rw [hg]; exact Nat.ne_of_gt (blk_lt (g := gb132) (o := .cells #[.int .i64 a1_0, .int .i64 a1_1, .int .i64 a1_2] 36 (0, 0)) (by (with_reducible repeat (first | refine blk_drewN ?_ _ | refine blk_drew ?_ | refine blk_alloc ?_ _)); exact BK132.out)) : gb133 ≠ gb132)); clear BK131; clear BK132; clear HB; have BK131 := n0_; have BK132 := n1_; have HB := n2_; have BK133 := n3_; have GW133 := n4_; have GE133 := n5_; have NB131_133 := n6_; have NB133_131 := n7_; have NB132_133 := n8_; have NB133_132 := n9_; clear n0_ n1_ n2_ n3_ n4_ n5_ n6_ n7_ n8_ n9_; clear hb hbox hg; have hnb7 := NB132_131.out; have hnc7 := NB131_132.out; have hnb8 := NB132_133.out; have hnc8 := NB133_132.out; have hcz9_0 : w6.cell? ⟨gb132, 0, none⟩ = some (.int .i64 a1_0) := (blk_cell BK132.out 0).trans rfl; have hcz9_1 : w6.cell? ⟨gb132, 1, none⟩ = some (.int .i64 a1_1) := (blk_cell BK132.out 1).trans rfl; have hcz9_2 : w6.cell? ⟨gb132, 2, none⟩ = some (.int .i64 a1_2) := (blk_cell BK132.out 2).trans rfl; have hfz9_0 := blk_frozen BK132.out 0; have hfz9_1 := blk_frozen BK132.out 1; have hfz9_2 := blk_frozen BK132.out 2; have hnb10 := NB131_133.out; have hnc10 := NB133_131.out; have hcz11_0 : w6.cell? ⟨gb131, 0, none⟩ = some (.int .i64 a0_0) := (blk_cell BK131.out 0).trans rfl; have hcz11_1 : w6.cell? ⟨gb131, 1, none⟩ = some (.int .i64 a0_1) := (blk_cell BK131.out 1).trans rfl; have hcz11_2 : w6.cell? ⟨gb131, 2, none⟩ = some (.int .i64 a0_2) := (blk_cell BK131.out 2).trans rfl; have hfz11_0 := blk_frozen BK131.out 0; have hfz11_1 := blk_frozen BK131.out 1; have hfz11_2 := blk_frozen BK131.out 2) | ((with_reducible refine gate_callee (f := 34) rfl ?_); refine goesL_ (some 12) rfl rfl Try.func34 (by kernel_rfl) rfl #[.agg #[.int .i64 a0_0, .int .i64 a0_1, .int .i64 a0_2], .agg #[.int .i64 a1_0, .int .i64 (wrap64 (-a1_1)), .int .i64 a1_2]] rfl (by (try simp only [List.map_toArray, List.map_cons, List.map_nil]); first | done | rfl | (simp only [List.length_drop, List.length_take]; rfl)) ?_; (with_reducible refine (cx_Mul.calls k a0_0 a0_1 a0_2 a1_0 (wrap64 (-a1_1)) a1_2 t134 t135 t136 t137 _ A3.out).mono ?_); rintro e w12 ⟨rfl, hb⟩; refine ⟨_, rfl, ?_⟩; have n0_ := Aside0.mk (blk_below (g := gb131) (o := .cells #[.int .i64 a0_0, .int .i64 a0_1, .int .i64 a0_2] 36 (0, 0)) (by (with_reducible repeat (first | refine blk_drewN ?_ _ | refine blk_drew ?_ | refine blk_alloc ?_ _)); refine blk_far ?_ NB131_132.out _; (with_reducible repeat (first | refine blk_drewN ?_ _ | refine blk_drew ?_ | refine blk_alloc ?_ _)); exact BK131.out) hb); have n1_ := Aside0.mk (blk_below (g := gb132) (o := .cells #[.int .i64 a1_0, .int .i64 (wrap64 (-a1_1)), .int .i64 a1_2] 36 (0, 0)) (by (with_reducible repeat (first | refine blk_drewN ?_ _ | refine blk_drew ?_ | refine blk_alloc ?_ _)); refine blk_put (cs := #[.int .i64 a1_0, .int .i64 a1_1, .int .i64 a1_2]) ?_ 1 _ rfl; (with_reducible repeat (first | refine blk_drewN ?_ _ | refine blk_drew ?_ | refine blk_alloc ?_ _)); exact BK132.out) hb); have n2_ := Aside0.mk (blk_below (g := gb133) (o := .cells #[.int .i64 0, .int .i64 0, .int .i64 0] 36 (0, 0)) (by (with_reducible repeat (first | refine blk_drewN ?_ _ | refine blk_drew ?_ | refine blk_alloc ?_ _)); refine blk_far ?_ NB133_132.out _; (with_reducible repeat (first | refine blk_drewN ?_ _ | refine blk_drew ?_ | refine blk_alloc ?_ _)); exact BK133.out) hb); have n3_ := Aside0.mk (below_step (by repeat (first | (with_reducible first | exact HB.out | apply below_alloc | apply pw_below_drewN | apply below_drew1 | refine below_set ?_ GE131.out | refine below_set ?_ GE132.out | refine below_set ?_ GE133.out) | exact HB.out)) hb); clear BK131; clear BK132; clear BK133; clear HB; have BK131 := n0_; have BK132 := n1_; have BK133 := n2_; have HB := n3_; clear n0_ n1_ n2_ n3_; (try clear hb); (try clear hb2); (try clear hk); (try clear hi); have hcz13_0 : w12.cell? ⟨gb133, 0, none⟩ = some (.int .i64 0) := (blk_cell BK133.out 0).trans rfl; have hcz13_1 : w12.cell? ⟨gb133, 1, none⟩ = some (.int .i64 0) := (blk_cell BK133.out 1).trans rfl; have hcz13_2 : w12.cell? ⟨gb133, 2, none⟩ = some (.int .i64 0) := (blk_cell BK133.out 2).trans rfl; have hfz13_0 := blk_frozen BK133.out 0; have hfz13_1 := blk_frozen BK133.out 1; have hfz13_2 := blk_frozen BK133.out 2))
 refine bodyPost_ret (results_ct rfl _ _ gb133 36 #[.int .i64 t134, .int .i64 t135, .int .i64 t136] (0, 0) _ rfl (by (with_reducible repeat (first | refine blk_drewN ?_ _ | refine blk_drew ?_ | refine blk_alloc ?_ _)); refine blk_put (cs := #[.int .i64 t134, .int .i64 t135, .int .i64 0]) ?_ 2 _ rfl; (with_reducible repeat (first | refine blk_drewN ?_ _ | refine blk_drew ?_ | refine blk_alloc ?_ _)); refine blk_put (cs := #[.int .i64 t134, .int .i64 0, .int .i64 0]) ?_ 1 _ rfl; (with_reducible repeat (first | refine blk_drewN ?_ _ | refine blk_drew ?_ | refine blk_alloc ?_ _)); refine blk_put (cs := #[.int .i64 0, .int .i64 0, .int .i64 0]) ?_ 0 _ rfl; (with_reducible repeat (first | refine blk_drewN ?_ _ | refine blk_drew ?_ | refine blk_alloc ?_ _)); exact BK133.out) Try.underlying36 rfl (by kernel_rfl)) rfl ?_
 exact ⟨by first | rfl | (simp [errW_none, errW_some] <;> rfl) | (simp [*, errW_none, errW_some] <;> rfl), by repeat (first | (with_reducible first | exact HB.out | apply below_alloc | apply pw_below_drewN | apply below_drew1 | refine below_set ?_ GE131.out | refine below_set ?_ GE132.out | refine below_set ?_ GE133.out) | exact HB.out)⟩

/-! ### gain_Act_2: function 33 (by hand) -/

theorem cell_new {W' : World} {p : Addr} {x : Value} {o : Obj} (h : W'.cell? p = some x) : (W'.alloc o).cell? p = some x := ((below_alloc (Below.refl _ W') o).cell (World.block_lt_of_cell? W' _ h)).trans h
theorem cell_drew {W' : World} {p : Addr} {x : Value} (h : W'.cell? p = some x) : W'.drew.cell? p = some x := h
theorem cell_drewN {W' : World} {p : Addr} {x : Value} {n : Nat} (h : W'.cell? p = some x) : (W'.drewN n).cell? p = some x := h
theorem cell_set {W' : World} {p q : Addr} {u x : Value} (h : W'.cell? p = some x) (hne : p.block ≠ q.block) : (W'.setCell q u).cell? p = some x := by
 have := Below.heap_setCell W' q u p.block hne
 simpa [World.cell?, this] using h
def act_one (k : Nat) (l1 : List S36) (v : S38) : Option (S38 × Int) := if 0 ≤ v.f0 ∧ v.f0 < l1.length ∧ 0 ≤ v.f1 ∧ v.f1 < l1.length then
 (cx_Mul.f k (rd_T36 l1 v.f0).f0 (rd_T36 l1 v.f0).f1 (rd_T36 l1 v.f0).f2 v.f2.f0 v.f2.f1 v.f2.f2).bind fun r => if r.2.2.2 = 0 then (gain_times.f k r.1 r.2.1 r.2.2.1 (rd_T36 l1 v.f1).f0 (rd_T36 l1 v.f1).f1 (rd_T36 l1 v.f1).f2).bind fun q => some (⟨v.f0, v.f1, ⟨q.1, q.2.1, q.2.2.1⟩, v.f3⟩, q.2.2.2) else some (v, r.2.2.2) else none
set_option maxHeartbeats 8000000 in
set_option maxRecDepth 100000 in
theorem gain_Act_2 (k i B c1 : Nat) (v y : S38) (e : Int) (A1 : Option Addr) (l1 : List S36) (W : World) (hB : W.heap[B]? = some (.cells #[.slice A1 l1.length c1] 22 (0, 0))) (hr : Kd.C k36 W A1 l1.length l1) (h : act_one k l1 v = some (y, e)) :
  Calls Try.prog 33 #[.int .i64 i, .agg #[.int .i64 v.f0, .int .i64 v.f1, .int .i64 v.f2.f0, .int .i64 v.f2.f1, .int .i64 v.f2.f2, .int .i64 v.f3], .pointer (some ⟨B, 0, none⟩)] W fun e' w' => e' = .returned (.tuple #[.agg #[.int .i64 y.f0, .int .i64 y.f1, .int .i64 y.f2.f0, .int .i64 y.f2.f1, .int .i64 y.f2.f2, .int .i64 y.f3], .int .i64 e]) ∧ Below W.heap.size W w' := by
 have hu := Try.underlying36
 have hu8 := Try.underlying38
 unfold act_one at h
 by_cases cb : 0 ≤ v.f0 ∧ v.f0 < l1.length ∧ 0 ≤ v.f1 ∧ v.f1 < l1.length
 ·rw [if_pos cb] at h
  obtain ⟨p1, q1, p2, q2⟩ := cb
  obtain ⟨⟨r0, r1, r2, r3⟩, hm, h⟩ := Option.bind_eq_some_iff.mp h
  have H := Aside0.mk h
  have HM := Aside0.mk hm
  obtain ⟨ad, e1, hx0, hx1, hx2⟩ := at_T36 hr v.f0 p1 q1
  obtain ⟨ad2, e2, hz0, hz1, hz2⟩ := at_T36 hr v.f1 p2 q2
  have e3 : ad2 = ad := by rw [e1] at e2; injection e2 with e2; exact e2.symm
  subst e3
  subst e1
  have hb1 : Below W.heap.size W (W.alloc (.cells #[.int .i64 v.f0, .int .i64 v.f1, .int .i64 v.f2.f0, .int .i64 v.f2.f1, .int .i64 v.f2.f2, .int .i64 v.f3] 38)) := (Below.refl _ W).alloc (Nat.le_refl _) _
  have hb2 := hb1.alloc hb1.size (.cells #[.int .i64 0, .int .i64 0, .int .i64 0, .int .i64 0, .int .i64 0, .int .i64 0] 38)
  have hk1 := blk_alloc (blk_new W (.cells #[.int .i64 v.f0, .int .i64 v.f1, .int .i64 v.f2.f0, .int .i64 v.f2.f1, .int .i64 v.f2.f2, .int .i64 v.f3] 38)) (.cells #[.int .i64 0, .int .i64 0, .int .i64 0, .int .i64 0, .int .i64 0, .int .i64 0] 38)
  have hk2 := blk_new (W.alloc (.cells #[.int .i64 v.f0, .int .i64 v.f1, .int .i64 v.f2.f0, .int .i64 v.f2.f1, .int .i64 v.f2.f2, .int .i64 v.f3] 38)) (.cells #[.int .i64 0, .int .i64 0, .int .i64 0, .int .i64 0, .int .i64 0, .int .i64 0] 38)
  have hsz : (W.alloc (.cells #[.int .i64 v.f0, .int .i64 v.f1, .int .i64 v.f2.f0, .int .i64 v.f2.f1, .int .i64 v.f2.f2, .int .i64 v.f3] 38)).heap.size = W.heap.size + 1 := by simp
  rw [hsz] at hk2
  have hkB := blk_below hB hb2
  have HZ := Aside0.mk (And.intro hz0 (And.intro hz1 hz2))
  replace hx0 := (hb2.cell (World.block_lt_of_cell? W _ hx0)).trans hx0
  replace hx1 := (hb2.cell (World.block_lt_of_cell? W _ hx1)).trans hx1
  replace hx2 := (hb2.cell (World.block_lt_of_cell? W _ hx2)).trans hx2
  have hBlt := blk_lt hB
  have HBB := Aside0.mk hB
  clear hB hr h hb1 hsz hm hz0 hz1 hz2
  go_enter Try.func33, Try.ntmps33
  go_upto_region 1 with (fail)
  generalize (W.alloc (.cells #[.int .i64 v.f0, .int .i64 v.f1, .int .i64 v.f2.f0, .int .i64 v.f2.f1, .int .i64 v.f2.f2, .int .i64 v.f3] 38)).alloc (.cells #[.int .i64 0, .int .i64 0, .int .i64 0, .int .i64 0, .int .i64 0, .int .i64 0] 38) = W2 at *
  have HB2 := Aside0.mk hb2
  have HK1 := Aside0.mk hk1
  have HK2 := Aside0.mk hk2
  have d0 := (blk_cell hk1 0).trans rfl
  have d1 := (blk_cell hk1 1).trans rfl
  have d2 := (blk_cell hk1 2).trans rfl
  have d3 := (blk_cell hk1 3).trans rfl
  have d4 := (blk_cell hk1 4).trans rfl
  have d5 := (blk_cell hk1 5).trans rfl
  have dB := (blk_cell hkB 0).trans rfl
  have P2 := Aside0.mk (And.intro p2 q2)
  replace p1 := eq_true p1
  replace q1 := eq_true q1
  clear hb2 hk1 hk2 hkB p2 q2
  go_cut [7, 8] (fun v7 v8 wc => ∃ gp : Nat, v7 = .pointer (some ⟨gp, 0, none⟩) ∧ v8 = .int .i64 r3 ∧ Aside0 (wc.heap[gp]? = some (.cells #[.int .i64 r0, .int .i64 r1, .int .i64 r2] 36 (0, 0))) ∧ Aside0 (wc.heap[W.heap.size]? = some (.cells #[.int .i64 v.f0, .int .i64 v.f1, .int .i64 v.f2.f0, .int .i64 v.f2.f1, .int .i64 v.f2.f2, .int .i64 v.f3] 38 (0, 0))) ∧ Aside0 (wc.heap[W.heap.size + 1]? = some (.cells #[.int .i64 0, .int .i64 0, .int .i64 0, .int .i64 0, .int .i64 0, .int .i64 0] 38 (0, 0))) ∧ Aside0 (Below W.heap.size W wc) ∧ Aside0 (W.heap.size + 1 < gp))
  case first =>
   have HS2 := Aside0.mk (blk_lt HK2.out)
   have kA : ∀ (p : Addr) (x : Value), W2.cell? p = some x → (W2.alloc (.cells #[.int .i64 0, .int .i64 0, .int .i64 0] 36)).cell? p = some x := fun p x hp => ((below_alloc (Below.refl _ W2) _).cell (World.block_lt_of_cell? W2 _ hp)).trans hp
   have LA := Aside0.mk (World.block_lt_of_cell? W2 _ hx0)
   have LA1 := Aside0.mk (World.block_lt_of_cell? W2 _ hx1)
   have LA2 := Aside0.mk (World.block_lt_of_cell? W2 _ hx2)
   have L0 := Aside0.mk (World.block_lt_of_cell? W2 _ d0)
   have LB := Aside0.mk (World.block_lt_of_cell? W2 _ dB)
   have KA := Aside0.mk kA
   clear kA
   go_region_held3 (fun W' => W'.cell? ⟨B, 0, none⟩ = some (.slice (some ad2) l1.length c1) ∧ W'.cell? ⟨W.heap.size, 0, none⟩ = some (.int .i64 v.f0) ∧ W'.cell? ⟨W.heap.size, 2, none⟩ = some (.int .i64 v.f2.f0) ∧ W'.cell? ⟨W.heap.size, 3, none⟩ = some (.int .i64 v.f2.f1) ∧ W'.cell? ⟨W.heap.size, 4, none⟩ = some (.int .i64 v.f2.f2) ∧ W'.cell? (ad2.add (v.f0.toNat * 3)) = some (.int .i64 (rd_T36 l1 v.f0).f0) ∧ W'.cell? ⟨(ad2.add (v.f0.toNat * 3)).block, (ad2.add (v.f0.toNat * 3)).off + 1, none⟩ = some (.int .i64 (rd_T36 l1 v.f0).f1) ∧ W'.cell? ⟨(ad2.add (v.f0.toNat * 3)).block, (ad2.add (v.f0.toNat * 3)).off + 2, none⟩ = some (.int .i64 (rd_T36 l1 v.f0).f2)) (first | (go_split_ands; refine ⟨?_, ?_, ?_, ?_, ?_, ?_, ?_, ?_⟩ <;> ((repeat (first | (with_reducible refine cell_new ?_) | (with_reducible refine cell_drew ?_) | (with_reducible refine cell_drewN ?_) | ((with_reducible refine cell_set ?_ ?_); (rotate_left; first | exact Nat.ne_of_lt LB.out | exact Nat.ne_of_lt L0.out | exact Nat.ne_of_lt LA.out | exact Nat.ne_of_lt LA1.out | exact Nat.ne_of_lt LA2.out | exact Nat.ne_of_lt (Nat.lt_of_lt_of_le LB.out HLE.out) | exact Nat.ne_of_lt (Nat.lt_of_lt_of_le L0.out HLE.out) | exact Nat.ne_of_lt (Nat.lt_of_lt_of_le LA.out HLE.out) | exact Nat.ne_of_lt (Nat.lt_of_lt_of_le LA1.out HLE.out) | exact Nat.ne_of_lt (Nat.lt_of_lt_of_le LA2.out HLE.out))))); (first | (with_reducible assumption) | assumption))) | trivial) (first | (go_at_call 34; (first | ((with_reducible refine (cx_Mul.calls k _ _ _ _ _ _ _ _ _ _ W2.drew HM.out).mono ?_); rintro e' w3 ⟨rfl, hb⟩; have HB3 := Aside0.mk (below_step (below_drew1 HB2.out) hb); have hk := blk_below (blk_drew HK2.out) hb; have HK3 := Aside0.mk hk; have hkv := blk_below (blk_drew HK1.out) hb; have HV3 := Aside0.mk hkv; have HBW := Aside0.mk hb; have HLE : Aside0 (W2.heap.size ≤ w3.heap.size) := ⟨hb.size⟩; clear hb hk hkv; replace dB := (HBW.out.cell (World.block_lt_of_cell? W2 _ dB)).trans dB; replace d0 := (HBW.out.cell (World.block_lt_of_cell? W2 _ d0)).trans d0; replace d2 := (HBW.out.cell (World.block_lt_of_cell? W2 _ d2)).trans d2; replace d3 := (HBW.out.cell (World.block_lt_of_cell? W2 _ d3)).trans d3; replace d4 := (HBW.out.cell (World.block_lt_of_cell? W2 _ d4)).trans d4; replace hx0 := (HBW.out.cell (World.block_lt_of_cell? W2 _ hx0)).trans hx0; replace hx1 := (HBW.out.cell (World.block_lt_of_cell? W2 _ hx1)).trans hx1; replace hx2 := (HBW.out.cell (World.block_lt_of_cell? W2 _ hx2)).trans hx2) | ((with_reducible refine (cx_Mul.calls k _ _ _ _ _ _ _ _ _ _ (W2.alloc (.cells #[.int .i64 0, .int .i64 0, .int .i64 0] 36)).drew HM.out).mono ?_); rintro e' w3 ⟨rfl, hb⟩; have HB3 := Aside0.mk (below_step (below_drew1 (HB2.out.alloc HB2.out.size (.cells #[.int .i64 0, .int .i64 0, .int .i64 0] 36))) hb); have hk := blk_below (blk_drew (blk_alloc HK2.out (.cells #[.int .i64 0, .int .i64 0, .int .i64 0] 36))) hb; have HK3 := Aside0.mk hk; have hkv := blk_below (blk_drew (blk_alloc HK1.out (.cells #[.int .i64 0, .int .i64 0, .int .i64 0] 36))) hb; have HV3 := Aside0.mk hkv; have hkp := blk_below (blk_drew (blk_new W2 (.cells #[.int .i64 0, .int .i64 0, .int .i64 0] 36))) hb; have HP3 := Aside0.mk hkp; have f0 := (blk_cell hkp 0).trans rfl; have f1 := (blk_cell hkp 1).trans rfl; have f2 := (blk_cell hkp 2).trans rfl; have y0 := blk_frozen hkp 0; have y1 := blk_frozen hkp 1; have y2 := blk_frozen hkp 2; have HBW := Aside0.mk hb; clear hb hk hkv hkp; replace dB := (HBW.out.cell (World.block_lt_of_cell? (W2.alloc (.cells #[.int .i64 0, .int .i64 0, .int .i64 0] 36)) _ (KA.out _ _ dB))).trans (KA.out _ _ dB); replace d0 := (HBW.out.cell (World.block_lt_of_cell? (W2.alloc (.cells #[.int .i64 0, .int .i64 0, .int .i64 0] 36)) _ (KA.out _ _ d0))).trans (KA.out _ _ d0); replace d2 := (HBW.out.cell (World.block_lt_of_cell? (W2.alloc (.cells #[.int .i64 0, .int .i64 0, .int .i64 0] 36)) _ (KA.out _ _ d2))).trans (KA.out _ _ d2); replace d3 := (HBW.out.cell (World.block_lt_of_cell? (W2.alloc (.cells #[.int .i64 0, .int .i64 0, .int .i64 0] 36)) _ (KA.out _ _ d3))).trans (KA.out _ _ d3); replace d4 := (HBW.out.cell (World.block_lt_of_cell? (W2.alloc (.cells #[.int .i64 0, .int .i64 0, .int .i64 0] 36)) _ (KA.out _ _ d4))).trans (KA.out _ _ d4); replace hx0 := (HBW.out.cell (World.block_lt_of_cell? (W2.alloc (.cells #[.int .i64 0, .int .i64 0, .int .i64 0] 36)) _ (KA.out _ _ hx0))).trans (KA.out _ _ hx0); replace hx1 := (HBW.out.cell (World.block_lt_of_cell? (W2.alloc (.cells #[.int .i64 0, .int .i64 0, .int .i64 0] 36)) _ (KA.out _ _ hx1))).trans (KA.out _ _ hx1); replace hx2 := (HBW.out.cell (World.block_lt_of_cell? (W2.alloc (.cells #[.int .i64 0, .int .i64 0, .int .i64 0] 36)) _ (KA.out _ _ hx2))).trans (KA.out _ _ hx2)))))
   all_goals
    go_wp2_with (fail)
    go_meet
    case rel =>
     have hs2 := HS2.out
     have hs3 := blk_lt HK3.out
     first
     | exact ⟨w3.heap.size, rfl, rfl, ⟨blk_new w3 _⟩, ⟨blk_alloc HV3.out _⟩, ⟨blk_alloc HK3.out _⟩, ⟨HB3.out.alloc HB3.out.size _⟩, ⟨by omega⟩⟩
     | exact ⟨W2.heap.size, rfl, rfl, ⟨blk_put (blk_put (blk_put HP3.out 0 _ rfl) 1 _ rfl) 2 _ rfl⟩, ⟨blk_far (blk_far (blk_far HV3.out (by simp; omega) _) (by simp; omega) _) (by simp; omega) _⟩, ⟨blk_far (blk_far (blk_far HK3.out (by simp; omega) _) (by simp; omega) _) (by simp; omega) _⟩, ⟨below_set (below_set (below_set HB3.out (by omega)) (by omega)) (by omega)⟩, ⟨by omega⟩⟩
  case rest =>
   obtain ⟨gp, rfl, rfl, HP, HV, HR, HBW, HG⟩ := hcut
   obtain ⟨hz0, hz1, hz2⟩ := HZ.out
   replace hz0 := (HBW.out.cell (World.block_lt_of_cell? W _ hz0)).trans hz0
   replace hz1 := (HBW.out.cell (World.block_lt_of_cell? W _ hz1)).trans hz1
   replace hz2 := (HBW.out.cell (World.block_lt_of_cell? W _ hz2)).trans hz2
   have dB := (blk_cell (blk_below HBB.out HBW.out) 0).trans rfl
   have g0 := (blk_cell HP.out 0).trans rfl
   have g1 := (blk_cell HP.out 1).trans rfl
   have g2 := (blk_cell HP.out 2).trans rfl
   have d0 := (blk_cell HV.out 0).trans rfl
   have d1 := (blk_cell HV.out 1).trans rfl
   have d2 := (blk_cell HV.out 2).trans rfl
   have d3 := (blk_cell HV.out 3).trans rfl
   have d4 := (blk_cell HV.out 4).trans rfl
   have d5 := (blk_cell HV.out 5).trans rfl
   have f0 := (blk_cell HR.out 0).trans rfl
   have f1 := (blk_cell HR.out 1).trans rfl
   have f2 := (blk_cell HR.out 2).trans rfl
   have f3 := (blk_cell HR.out 3).trans rfl
   have f4 := (blk_cell HR.out 4).trans rfl
   have f5 := (blk_cell HR.out 5).trans rfl
   have y0 := blk_frozen HR.out 0
   have y1 := blk_frozen HR.out 1
   have y2 := blk_frozen HR.out 2
   have y3 := blk_frozen HR.out 3
   have y4 := blk_frozen HR.out 4
   have y5 := blk_frozen HR.out 5
   have nvr : W.heap.size ≠ W.heap.size + 1 := by omega
   have hq := H.out
   by_cases c : r3 = 0
   ·subst c
    rw [if_pos rfl] at hq
    obtain ⟨⟨q0, q1, q2, q3⟩, ht, hq⟩ := Option.bind_eq_some_iff.mp hq
    simp only [Option.some.injEq, Prod.mk.injEq] at hq
    obtain ⟨rfl, rfl⟩ := hq
    have HT := Aside0.mk ht
    obtain ⟨p2, q2'⟩ := P2.out
    replace p2 := eq_true p2
    replace q2' := eq_true q2'
    clear ht
    go_wp2_with (fail)
    go_region_with (go_at_call 35; (with_reducible refine (gain_times.calls k _ _ _ _ _ _ _ _ _ _ _ HT.out).mono ?_); rintro e' w5 ⟨rfl, hb⟩; have HB5 := Aside0.mk (below_step (below_drew1 HBW.out) hb); have hk := blk_below (blk_drew HR.out) hb; have HR5 := Aside0.mk hk; have hkv := blk_below (blk_drew HV.out) hb; have HV5 := Aside0.mk hkv; replace f0 := (blk_cell hk 0).trans rfl; replace f1 := (blk_cell hk 1).trans rfl; replace f2 := (blk_cell hk 2).trans rfl; replace f3 := (blk_cell hk 3).trans rfl; replace f4 := (blk_cell hk 4).trans rfl; replace f5 := (blk_cell hk 5).trans rfl; replace y0 := blk_frozen hk 0; replace y1 := blk_frozen hk 1; replace y2 := blk_frozen hk 2; replace y3 := blk_frozen hk 3; replace y4 := blk_frozen hk 4; replace y5 := blk_frozen hk 5; replace d0 := (blk_cell hkv 0).trans rfl; replace d1 := (blk_cell hkv 1).trans rfl; replace d2 := (blk_cell hkv 2).trans rfl; replace d3 := (blk_cell hkv 3).trans rfl; replace d4 := (blk_cell hkv 4).trans rfl; replace d5 := (blk_cell hkv 5).trans rfl; have x2 := blk_frozen hkv 2; have x3 := blk_frozen hkv 3; have x4 := blk_frozen hkv 4; clear hb hk hkv dB g0 g1 g2 hz0 hz1 hz2)
    all_goals
     go_wp2_with (fail)
     refine bodyPost_ret (results_ct rfl _ _ (W.heap.size + 1) 38 _ (0, 0) _ rfl (blk_put (blk_put (blk_put (blk_put (blk_put (blk_put (blk_far (blk_far (blk_far HR5.out (by simp) _) (by simp) _) (by simp) _) 0 _ rfl) 1 _ rfl) 2 _ rfl) 3 _ rfl) 4 _ rfl) 5 _ rfl) Try.underlying38 rfl (by kernel_rfl)) rfl ?_
     exact ⟨rfl, below_set (below_set (below_set (below_set (below_set (below_set (below_set (below_set (below_set HB5.out (by omega)) (by omega)) (by omega)) (by omega)) (by omega)) (by omega)) (by omega)) (by omega)) (by omega)⟩
   ·have c1 : (r3 != 0) = true := bne_iff_ne.mpr c
    rw [if_neg c] at hq
    simp only [Option.some.injEq, Prod.mk.injEq] at hq
    obtain ⟨rfl, rfl⟩ := hq
    clear c dB g0 g1 g2 hz0 hz1 hz2
    go_wp2_with (fail)
    refine bodyPost_ret (results_ct rfl _ _ (W.heap.size + 1) 38 _ (0, 0) _ rfl (blk_put (blk_put (blk_put (blk_put (blk_put (blk_put HR.out 0 _ rfl) 1 _ rfl) 2 _ rfl) 3 _ rfl) 4 _ rfl) 5 _ rfl) Try.underlying38 rfl (by kernel_rfl)) rfl ?_
    exact ⟨rfl, below_set (below_set (below_set (below_set (below_set (below_set HBW.out (by omega)) (by omega)) (by omega)) (by omega)) (by omega)) (by omega)⟩
 ·rw [if_neg cb] at h; exact absurd h (by simp)

/-! ### gain_Act: function 9 (by hand) -/
theorem fnVis.idx_mono {p q : S38 → Option Bool} (h : ∀ x, LeO (p x) (q x)) : ∀ (l : List S38) (i : Int), LeO (fnVis.idx p l i) (fnVis.idx q l i)
 | [], _ => LeO.refl _
 | x :: t, i => by
  unfold fnVis.idx
  exact LeO.bind (h x) (fun b => LeO.ite (LeO.refl _) (fnVis.idx_mono h t (i + 1)))
theorem fnVis.any_mono {p q : S38 → Option Bool} (h : ∀ x, LeO (p x) (q x)) (l : List S38) : LeO (fnVis.any p l) (fnVis.any q l) := by
 unfold fnVis.any
 exact LeO.ite (LeO.bind (fnVis.idx_mono h l 0) (fun _ => LeO.refl _)) (LeO.refl _)
theorem madeVis.go_mono {p q : Nat → S38 → Option (S38 × Int)} (h : ∀ i x, LeO (p i x) (q i x)) : ∀ (l : List S38) (i : Nat) (acc : List S38), LeO (madeVis.go p l i acc) (madeVis.go q l i acc)
 | [], _, _ => LeO.refl _
 | x :: t, i, acc => by
  unfold madeVis.go
  exact LeO.bind (h i x) (fun r => LeO.ite (LeO.ite (madeVis.go_mono h t (i + 1) _) (LeO.refl _)) (LeO.refl _))
theorem act_wrong.mono (k : Nat) (n : Int) (v : S38) : LeO (act_wrong k n v) (act_wrong (k + 1) n v) := by
 unfold act_wrong
 exact LeO.ite (LeO.refl _) (LeO.ite (LeO.refl _) (LeO.ite (LeO.refl _) (LeO.ite (LeO.refl _) (LeO.bind (cx_Check.mono _ _ _ _) (fun _ => LeO.refl _)))))
theorem act_one.mono (k : Nat) (l : List S36) (v : S38) : LeO (act_one k l v) (act_one (k + 1) l v) := by
 unfold act_one
 exact LeO.ite (LeO.bind (cx_Mul.mono _ _ _ _ _ _ _) (fun r => LeO.ite (LeO.bind (gain_times.mono _ _ _ _ _ _ _) (fun _ => LeO.refl _)) (LeO.refl _))) (LeO.refl _)
def gain_Act.f (k : Nat) (l0 : List S36) (l1 : List S38) : Option (List S38 × Int) := (gain_Check.f k l0).bind fun e => if e = 0 then (if l1.length > 64 then some ([], 4) else (fnVis.any (fun v => act_wrong k l0.length v) l1).bind fun b => if b = true then some ([], 8) else madeVis.go (fun _ v => act_one k l0 v) l1 0 []) else some ([], e)
theorem gain_Act.mono : ∀ l0 l1 k, LeO (gain_Act.f k l0 l1) (gain_Act.f (k + 1) l0 l1) := by
 intro l0 l1 k
 unfold gain_Act.f
 exact LeO.bind (gain_Check.mono _ _) (fun e => LeO.ite (LeO.ite (LeO.refl _) (LeO.bind (fnVis.any_mono (fun v => act_wrong.mono _ _ _) l1) (fun b => LeO.ite (LeO.refl _) (madeVis.go_mono (fun _ v => act_one.mono _ _ _) _ _ _)))) (LeO.refl _))
set_option maxHeartbeats 8000000 in
set_option maxRecDepth 100000 in
theorem gain_Act.calls (k : Nat) (A0 : Option Addr) (c0 : Nat) (l0 : List (S36)) (A1 : Option Addr) (c1 : Nat) (l1 : List (S38)) (r1 : List (S38)) (r2 : Int) (w : World) (hr0 : Kd.C k36 w A0 l0.length l0) (hc0 : l0.length ≤ c0) (hr1 : Kd.C k38 w A1 l1.length l1) (hc1 : l1.length ≤ c1) (h : gain_Act.f k l0 l1 = some (r1, r2)) :
  Calls Try.prog 9 #[.slice A0 l0.length c0, .slice A1 l1.length c1] w fun e w' => ∃ v0_ : Value, e = .returned (.tuple #[v0_, .int .i64 r2]) ∧ Kd.R k38 38 w' w.heap.size (fun _ => True) v0_ r1 ∧ Below w.heap.size w w' := by
 unfold gain_Act.f at h
 obtain ⟨e, he, h⟩ := Option.bind_eq_some_iff.mp h
 have hb1 : Below w.heap.size w (w.alloc (.cells #[.slice A0 l0.length c0] 22)) := (Below.refl _ w).alloc (Nat.le_refl _) _
 have hk1 := blk_new w (.cells #[.slice A0 l0.length c0] 22)
 have HR0 := Aside0.mk hr0
 have HC0 := Aside0.mk hc0
 have HR1 := Aside0.mk hr1
 have HB1 := Aside0.mk hb1
 have HK1 := Aside0.mk hk1
 have HCH := Aside0.mk (gain_Check.calls k A0 c0 l0 e _ (Kd.C_below hr0 hb1) hc0 he)
 clear hr0 hc0 hr1 hc1 hb1 hk1 he
 by_cases ce : e = 0
 ·rw [if_pos ce] at h
  have g1 : (e != 0) = false := bne_eq_false_iff_eq.mpr ce
  by_cases c2 : l1.length > 64
  ·rw [if_pos c2] at h
   simp only [Option.some.injEq, Prod.mk.injEq] at h
   obtain ⟨rfl, rfl⟩ := h
   have f1 : decide ((64 : Int) < (l1.length : Int)) = true := decide_eq_true (by omega)
   have f2 : decide (64 < l1.length) = true := decide_eq_true c2
   clear c2 ce
   go_enter Try.func9, Try.ntmps9
   go_wp2_with (go_at_call 11; (with_reducible refine HCH.out.mono ?_); rintro e' w2 ⟨rfl, hb⟩; have HB2 := Aside0.mk (below_step HB1.out hb); clear hb)
   go_ret2
   exact ⟨_, rfl, Kd.R_nil _ _ _ _ _, HB2.out⟩
  ·rw [if_neg c2] at h
   have f1 : decide ((64 : Int) < (l1.length : Int)) = false := decide_eq_false (by omega)
   have f2 : decide (64 < l1.length) = false := decide_eq_false c2
   obtain ⟨b, hb, h⟩ := Option.bind_eq_some_iff.mp h
   have HH := Aside0.mk h
   have HLIM := Aside0.mk (show l1.length < 9223372036854775807 by omega)
   have HANY := Aside0.mk (fun (W : World) (hW : Below (w.alloc (.cells #[.slice A0 l0.length c0] 22)).heap.size (w.alloc (.cells #[.slice A0 l0.length c0] 22)) W) => fnVis.containsFunc 29 (fun _ _ => by kernel_rfl) #[.pointer (some ⟨w.heap.size, 0, none⟩)] (fun v => act_wrong k l0.length v) A1 c1 l1 b W (Kd.C_below HR1.out (below_step HB1.out hW))
    (fun W' x b' hx hbl => gain_Act_1 k w.heap.size l0.length c0 x b' A0 W' (blk_below (blk_below HK1.out hW) hbl) hx) hb)
   clear c2 ce hb h
   cases b with
   | true =>
    have h := HH.out
    first | rw [if_pos rfl] at h | rw [if_pos trivial] at h
    simp only [Option.some.injEq, Prod.mk.injEq] at h
    obtain ⟨rfl, rfl⟩ := h
    clear HH
    go_enter Try.func9, Try.ntmps9
    go_wp2_with (first | (go_at_call 11; (with_reducible refine HCH.out.mono ?_); rintro e' w2 ⟨rfl, hb⟩; have HB2 := Aside0.mk (below_step HB1.out hb); have dB := (blk_cell (blk_below HK1.out hb) 0).trans rfl; have HW2 := Aside0.mk hb; clear hb) | (go_at_call 31; (with_reducible refine (HANY.out _ HW2.out).mono ?_); rintro e' w3 ⟨rfl, hb⟩; have HB3 := Aside0.mk (below_step HB2.out hb); clear hb))
    go_ret2
    exact ⟨_, rfl, Kd.R_nil _ _ _ _ _, HB3.out⟩
   | false =>
    have h := HH.out
    first | rw [if_neg (by simp)] at h | simp only [if_false] at h
    have HMADE := Aside0.mk (fun (W : World) (hW : Below (w.alloc (.cells #[.slice A0 l0.length c0] 22)).heap.size (w.alloc (.cells #[.slice A0 l0.length c0] 22)) W) => madeVis.calls 33 (fun _ _ => by kernel_rfl) #[.pointer (some ⟨w.heap.size, 0, none⟩)] (fun _ v => act_one k l0 v) A1 c1 l1 r1 r2 W (Kd.C_below HR1.out (below_step HB1.out hW)) HLIM.out
     (fun W' i x y e' hx hbl => gain_Act_2 k i w.heap.size c0 x y e' A0 l0 W' (blk_below (blk_below HK1.out hW) hbl) (Kd.C_below HR0.out (below_step (below_step HB1.out hW) hbl)) hx) h)
    clear h HH
    go_enter Try.func9, Try.ntmps9
    go_wp2_with (first | (go_at_call 11; (with_reducible refine HCH.out.mono ?_); rintro e' w2 ⟨rfl, hb⟩; have HB2 := Aside0.mk (below_step HB1.out hb); have dB := (blk_cell (blk_below HK1.out hb) 0).trans rfl; have HW2 := Aside0.mk hb; clear hb) | (go_at_call 31; (with_reducible refine (HANY.out _ HW2.out).mono ?_); rintro e' w3 ⟨rfl, hb⟩; have HB3 := Aside0.mk (below_step HB2.out hb); have HW3 := Aside0.mk (below_step HW2.out hb); clear hb) | (go_at_call 32; (with_reducible refine (HMADE.out _ HW3.out).mono ?_); rintro e' w4 ⟨v4, rfl, ho, hb⟩; have HB4 := Aside0.mk (below_step HB3.out hb); have HO4 := Aside0.mk (Kd.R_lower ho (below_size HB3.out)); clear hb ho))
    go_ret2
    exact ⟨_, rfl, HO4.out, HB4.out⟩
 ·rw [if_neg ce] at h
  simp only [Option.some.injEq, Prod.mk.injEq] at h
  obtain ⟨rfl, rfl⟩ := h
  have g1 : (e != 0) = true := bne_iff_ne.mpr ce
  clear ce
  go_enter Try.func9, Try.ntmps9
  go_wp2_with (go_at_call 11; (with_reducible refine HCH.out.mono ?_); rintro e' w2 ⟨rfl, hb⟩; have HB2 := Aside0.mk (below_step HB1.out hb); clear hb)
  go_ret2
  exact ⟨_, rfl, Kd.R_nil _ _ _ _ _, HB2.out⟩

/-! ### fringeref26_Same: function 13 -/
def fringeref26_Same.l0 : Nat → List (S38) → List (S38) → Int → Option (Bool)
 | 0, _, _, _ => none
 | k + 1, x0, x1, x5 => if x5 < (x0.length : Int) then (if 0 ≤ x5 then (if x5 < (x1.length : Int) then (if (!(((rd_T38 x0 x5).f0) == ((rd_T38 x1 x5).f0)) || (!(((rd_T38 x0 x5).f1) == ((rd_T38 x1 x5).f1)) || ((!(((rd_T38 x0 x5).f2.f0) == ((rd_T38 x1 x5).f2.f0)) || (!(((rd_T38 x0 x5).f2.f1) == ((rd_T38 x1 x5).f2.f1)) || (!(((rd_T38 x0 x5).f2.f2) == ((rd_T38 x1 x5).f2.f2))))) || (!(((rd_T38 x0 x5).f3) == ((rd_T38 x1 x5).f3)))))) = true then (some false) else (fringeref26_Same.l0 k x0 x1 (wrap64 (x5 + 1)))) else (none)) else (none)) else (some true)
def fringeref26_Same.f (k : Nat) (l0 : List (S38)) (l1 : List (S38)) : Option (Bool) := if (l0.length : Int) = (l1.length : Int) then (fringeref26_Same.l0 k l0 l1 0) else (some false)
theorem fringeref26_Same.mono_l : ∀ k, (∀ y0 y1 y2, LeO (fringeref26_Same.l0 k y0 y1 y2) (fringeref26_Same.l0 (k + 1) y0 y1 y2))
 | 0 => fun _ _ _ r h => by simp [fringeref26_Same.l0] at h
 | k + 1 => by
  have ih0 := fringeref26_Same.mono_l k
  ·intro y0 y1 y2
   unfold fringeref26_Same.l0
   repeat' first
   | (with_reducible exact ih0 _ _ _)
   | (with_reducible exact LeO.refl _)
   | (with_reducible exact LeO.none _)
   | (with_reducible refine LeO.ite ?_ ?_)
   | (with_reducible refine LeO.bind ?_ (fun _ => ?_))
   | exact ih0 _ _ _
   | exact LeO.none _
   | refine LeO.ite ?_ ?_
   | refine LeO.bind ?_ (fun _ => ?_)
theorem fringeref26_Same.mono : ∀ a0 a1 k, LeO (fringeref26_Same.f k a0 a1) (fringeref26_Same.f (k + 1) a0 a1) := by
 intro a0 a1 k
 have ih0 := fringeref26_Same.mono_l k
 unfold fringeref26_Same.f
 repeat' first
   | (with_reducible exact ih0 _ _ _)
   | (with_reducible exact LeO.refl _)
   | (with_reducible exact LeO.none _)
   | (with_reducible refine LeO.ite ?_ ?_)
   | (with_reducible refine LeO.bind ?_ (fun _ => ?_))
   | exact ih0 _ _ _
   | exact LeO.none _
   | refine LeO.ite ?_ ?_
   | refine LeO.bind ?_ (fun _ => ?_)
set_option maxHeartbeats 8000000 in
set_option maxRecDepth 100000 in
theorem fringeref26_Same.calls (k : Nat) (A0 : Option Addr) (c0 : Nat) (l0 : List (S38)) (A1 : Option Addr) (c1 : Nat) (l1 : List (S38)) (r : Bool) (w : World) (hr0 : Kd.C k38 w A0 l0.length l0) (hc0 : l0.length ≤ c0) (hr1 : Kd.C k38 w A1 l1.length l1) (hc1 : l1.length ≤ c1) (h : fringeref26_Same.f k l0 l1 = some r) :
  Calls Try.prog 13 #[.slice A0 l0.length c0, .slice A1 l1.length c1] w fun e w' => e = .returned (.bool r) ∧ Drawn0 w w' := by
 have hu38 := Try.underlying38
 have HR0 := Aside0.mk hr0
 have HC0 := Aside0.mk hc0
 clear hr0 hc0
 have HR1 := Aside0.mk hr1
 have HC1 := Aside0.mk hc1
 clear hr1 hc1
 have H : (if (l0.length : Int) = (l1.length : Int) then (fringeref26_Same.l0 k l0 l1 0) else (some false)) = some r := h
 clear h
 by_cases c3 : (l0.length : Int) = (l1.length : Int)
 ·rw [if_pos c3] at H
  have c3b0 : ((l0.length : Int) == (l1.length : Int)) = true := beq_iff_eq.mpr c3
  have c3b1 : ((l0.length : Int) != (l1.length : Int)) = false := bne_eq_false_iff_eq.mpr c3
  have c3b2 : (l0.length == l1.length) = true := by first | simpa using c3 | (simp at c3 ⊢; omega)
  clear c3
  have H' := Aside0.mk H
  clear H
  go_enter Try.func13, Try.ntmps13
  go_wp2
  repeat (go_quiet (fail); try go_wp2)
  go_loopg [5] k (fun kq v5 w' => ∃ (x5_1 : Int), v5 = .int .i64 x5_1 ∧ Aside0 (fringeref26_Same.l0 kq l0 l1 x5_1 = some r) ∧ Aside0 (kq ≤ k) ∧ Drawn0 w w')
  case atStart => exact ⟨(0), (by first | rfl | (simp; done) | (simp [*]; done)), H', ⟨Nat.le_refl _⟩, by repeat (first | exact Drawn0.refl _ | apply Drawn0.step)⟩
  case round =>
   clear H'
   try clear c1
   try clear p2
   try clear c3
   try clear c3b0
   try clear c3b1
   try clear c3b2
   obtain ⟨x5_1, rfl, HA, HK1, ⟨m1, rfl⟩⟩ := hrel
   cases gk with
   | zero => exact absurd HA.out (by simp [fringeref26_Same.l0])
   | succ k1 =>
    have H := HA.out
    clear HA
    simp only [fringeref26_Same.l0] at H
    by_cases c4 : x5_1 < (l0.length : Int)
    ·rw [if_pos c4] at H
     have c4b0 : decide (x5_1 < (l0.length : Int)) = true := decide_eq_true c4
     clear c4
     by_cases c5 : 0 ≤ x5_1
     ·rw [if_pos c5] at H
      have c5b0 : decide (0 ≤ x5_1) = true := decide_eq_true c5
      clear c5
      by_cases c6 : x5_1 < (l1.length : Int)
      ·rw [if_pos c6] at H
       have c6b0 : decide (x5_1 < (l1.length : Int)) = true := decide_eq_true c6
       clear c6
       by_cases c7 : (!(((rd_T38 l0 x5_1).f0) == ((rd_T38 l1 x5_1).f0)) || (!(((rd_T38 l0 x5_1).f1) == ((rd_T38 l1 x5_1).f1)) || ((!(((rd_T38 l0 x5_1).f2.f0) == ((rd_T38 l1 x5_1).f2.f0)) || (!(((rd_T38 l0 x5_1).f2.f1) == ((rd_T38 l1 x5_1).f2.f1)) || (!(((rd_T38 l0 x5_1).f2.f2) == ((rd_T38 l1 x5_1).f2.f2))))) || (!(((rd_T38 l0 x5_1).f3) == ((rd_T38 l1 x5_1).f3)))))) = true
       ·rw [if_pos c7] at H
        have c7b0 : (!(((rd_T38 l0 x5_1).f0) == ((rd_T38 l1 x5_1).f0)) || (!(((rd_T38 l0 x5_1).f1) == ((rd_T38 l1 x5_1).f1)) || ((!(((rd_T38 l0 x5_1).f2.f0) == ((rd_T38 l1 x5_1).f2.f0)) || (!(((rd_T38 l0 x5_1).f2.f1) == ((rd_T38 l1 x5_1).f2.f1)) || (!(((rd_T38 l0 x5_1).f2.f2) == ((rd_T38 l1 x5_1).f2.f2))))) || (!(((rd_T38 l0 x5_1).f3) == ((rd_T38 l1 x5_1).f3)))))) = true := c7
        clear c7
        obtain rfl := Option.some.inj H
        have p195 : 0 ≤ (x5_1 : Int) := of_decide_eq_true (by first | (with_reducible assumption) | assumption)
        have q195 : x5_1 < (l0.length : Int) := of_decide_eq_true (by first | (with_reducible assumption) | assumption)
        obtain ⟨ad195, e195, hx195_0, hx195_1, hx195_2, hx195_3, hx195_4, hx195_5⟩ := at_T38 HR0.out x5_1 p195 q195
        cases e195
        replace p195 := eq_true p195
        replace q195 := eq_true q195
        have p196 : 0 ≤ (x5_1 : Int) := of_decide_eq_true (by first | (with_reducible assumption) | assumption)
        have q196 : x5_1 < (l1.length : Int) := of_decide_eq_true (by first | (with_reducible assumption) | assumption)
        obtain ⟨ad196, e196, hx196_0, hx196_1, hx196_2, hx196_3, hx196_4, hx196_5⟩ := at_T38 HR1.out x5_1 p196 q196
        cases e196
        replace p196 := eq_true p196
        replace q196 := eq_true q196
        go_wp2
        repeat (go_quiet (fail); try go_wp2)
        go_ret
        exact ⟨by first | rfl | (simp; done) | (simp [*]; done), by repeat (first | exact Drawn0.refl _ | apply Drawn0.step)⟩
       ·rw [if_neg c7] at H
        have c7b0 : (!(((rd_T38 l0 x5_1).f0) == ((rd_T38 l1 x5_1).f0)) || (!(((rd_T38 l0 x5_1).f1) == ((rd_T38 l1 x5_1).f1)) || ((!(((rd_T38 l0 x5_1).f2.f0) == ((rd_T38 l1 x5_1).f2.f0)) || (!(((rd_T38 l0 x5_1).f2.f1) == ((rd_T38 l1 x5_1).f2.f1)) || (!(((rd_T38 l0 x5_1).f2.f2) == ((rd_T38 l1 x5_1).f2.f2))))) || (!(((rd_T38 l0 x5_1).f3) == ((rd_T38 l1 x5_1).f3)))))) = false := by simpa using c7
        clear c7
        have H' := Aside0.mk H
        clear H
        have p195 : 0 ≤ (x5_1 : Int) := of_decide_eq_true (by first | (with_reducible assumption) | assumption)
        have q195 : x5_1 < (l0.length : Int) := of_decide_eq_true (by first | (with_reducible assumption) | assumption)
        obtain ⟨ad195, e195, hx195_0, hx195_1, hx195_2, hx195_3, hx195_4, hx195_5⟩ := at_T38 HR0.out x5_1 p195 q195
        cases e195
        replace p195 := eq_true p195
        replace q195 := eq_true q195
        have p196 : 0 ≤ (x5_1 : Int) := of_decide_eq_true (by first | (with_reducible assumption) | assumption)
        have q196 : x5_1 < (l1.length : Int) := of_decide_eq_true (by first | (with_reducible assumption) | assumption)
        obtain ⟨ad196, e196, hx196_0, hx196_1, hx196_2, hx196_3, hx196_4, hx196_5⟩ := at_T38 HR1.out x5_1 p196 q196
        cases e196
        replace p196 := eq_true p196
        replace q196 := eq_true q196
        go_wp2
        repeat (go_quiet (fail); try go_wp2)
        go_roundg k1
        case measure => have := HK1.out; omega
        case rel => exact ⟨(wrap64 (x5_1 + 1)), (by first | rfl | (simp; done) | (simp [*]; done)), H', ⟨by have := HK1.out; omega⟩, by repeat (first | exact Drawn0.refl _ | apply Drawn0.step)⟩
      ·rw [if_neg c6] at H
       exact absurd H (by simp)
     ·rw [if_neg c5] at H
      exact absurd H (by simp)
    ·rw [if_neg c4] at H
     have c4b0 : decide (x5_1 < (l0.length : Int)) = false := decide_eq_false c4
     clear c4
     obtain rfl := Option.some.inj H
     go_wp2
     repeat (go_quiet (fail); try go_wp2)
     go_ret
     exact ⟨by first | rfl | (simp; done) | (simp [*]; done), by repeat (first | exact Drawn0.refl _ | apply Drawn0.step)⟩
 ·rw [if_neg c3] at H
  have c3b0 : ((l0.length : Int) == (l1.length : Int)) = false := beq_eq_false_iff_ne.mpr c3
  have c3b1 : ((l0.length : Int) != (l1.length : Int)) = true := bne_iff_ne.mpr c3
  have c3b2 : (l0.length == l1.length) = false := by first | simpa using c3 | (simp at c3 ⊢; omega)
  obtain rfl := Option.some.inj H
  go_enter Try.func13, Try.ntmps13
  go_wp2
  repeat (go_quiet (fail); try go_wp2)
  go_ret
  exact ⟨by first | rfl | (simp; done) | (simp [*]; done), by repeat (first | exact Drawn0.refl _ | apply Drawn0.step)⟩

end Go.Proofs.Ytnlaklkneaaakaa.Q
