-- Written by qprint.py (a program of this session) over the program of the kit that prints contracts. Not trusted: Lean checks it.
import Derived.Test.YtelmcaenemjppaaQ0
import Derived.Test.YtelmcaenemjppaaQ4
namespace Go.Proofs.Ytelmcaenemjppaa.Q
open Go.RowKit Go.Proofs.YtelmcaenemjppaaW.PrintWords Go.Proofs.YtelmcaenemjppaaW.PrintLast Go.Proofs.YtelmcaenemjppaaW.PrintMore
attribute [local go_sem] max2_int min2_int max_two min_two max_three min_three max_four min_four   -- for this text's walks alone
set_option linter.unusedVariables false
set_option linter.unusedSimpArgs false

/-! ### queue_Check: function 29 -/
mutual
def queue_Check.l0 : Nat → List (S42) → Int → Int → List (S42) → Int → Int → Option (Int)
 | 0, _, _, _, _, _, _ => none
 | k + 1, x13, x14, x15, x105000, x105001, x105002 => if x15 < x14 then (if 0 ≤ x15 then (if x15 < (x13.length : Int) then ((queue_index.f x105000 x105001 x105002 ((rd_T42 x13 x15).f0)).bind fun t107 => (if t107 = x15 then (queue_Check.l0 k x13 x14 (wrap64 (x15 + 1)) x105000 x105001 x105002) else (some 14))) else (none)) else (none)) else (if (x105000.length : Int) = 0 then (queue_Check.j1 k true x105000 x105001 x105002) else ((queue_in.f x105002 1 100).bind fun t108 => (if t108 = true then ((queue_in.f x105001 0 1000000).bind fun t109 => (queue_Check.j1 k (!t109) x105000 x105001 x105002)) else (queue_Check.j1 k true x105000 x105001 x105002))))
def queue_Check.j1 : Nat → Bool → List (S42) → Int → Int → Option (Int)
 | 0, _, _, _, _ => none
 | k + 1, x42, x105000, x105001, x105002 => if x42 = true then (some 8) else (queue_Check.l1 k x105000 (x105000.length : Int) 0 x105000 x105001 x105002)
def queue_Check.l1 : Nat → List (S42) → Int → Int → List (S42) → Int → Int → Option (Int)
 | 0, _, _, _, _, _, _ => none
 | k + 1, x44, x45, x46, x105000, x105001, x105002 => if x46 < x45 then (if 0 ≤ x46 then (if x46 < (x44.length : Int) then ((queue_name.f ((rd_T42 x44 x46).f0)).bind fun t112 => (if t112 = true then ((queue_in.f ((rd_T42 x44 x46).f1) 1 100).bind fun t113 => (if t113 = true then ((queue_in.f ((rd_T42 x44 x46).f2) 0 1000000).bind fun t114 => (if t114 = true then ((queue_in.f ((rd_T42 x44 x46).f3) 0 1000).bind fun t115 => (queue_Check.j3 k x44 x45 x46 (!t115) x105000 x105001 x105002 ((rd_T42 x44 x46).f0) ((rd_T42 x44 x46).f1) ((rd_T42 x44 x46).f2) ((rd_T42 x44 x46).f3))) else (queue_Check.j3 k x44 x45 x46 true x105000 x105001 x105002 ((rd_T42 x44 x46).f0) ((rd_T42 x44 x46).f1) ((rd_T42 x44 x46).f2) ((rd_T42 x44 x46).f3)))) else (queue_Check.j3 k x44 x45 x46 true x105000 x105001 x105002 ((rd_T42 x44 x46).f0) ((rd_T42 x44 x46).f1) ((rd_T42 x44 x46).f2) ((rd_T42 x44 x46).f3)))) else (queue_Check.j3 k x44 x45 x46 true x105000 x105001 x105002 ((rd_T42 x44 x46).f0) ((rd_T42 x44 x46).f1) ((rd_T42 x44 x46).f2) ((rd_T42 x44 x46).f3)))) else (none)) else (none)) else (some 0)
def queue_Check.j3 : Nat → List (S42) → Int → Int → Bool → List (S42) → Int → Int → ByteArray → Int → Int → Int → Option (Int)
 | 0, _, _, _, _, _, _, _, _, _, _, _ => none
 | k + 1, x44, x45, x46, x71, x105000, x105001, x105002, x112000, x112001, x112002, x112003 => if x71 = true then (some 8) else (if (wrap64 (x112002 * x105002)) > (wrap64 (x105001 * x112001)) then (some 8) else (if x112003 > 0 then (if (wrap64 ((wrap64 (x112002 + 1)) * x105002)) < (wrap64 (x105001 * x112001)) then (some 8) else (queue_Check.l1 k x44 x45 (wrap64 (x46 + 1)) x105000 x105001 x105002)) else (queue_Check.l1 k x44 x45 (wrap64 (x46 + 1)) x105000 x105001 x105002)))
end
def queue_Check.f (k : Nat) (l0_0 : List (S42)) (a0_1 : Int) (a0_2 : Int) : Option (Int) := if (l0_0.length : Int) > 8 then (some 4) else (queue_Check.l0 k l0_0 (l0_0.length : Int) 0 l0_0 a0_1 a0_2)
theorem queue_Check.mono_l : ∀ k, (∀ y0 y1 y2 y3 y4 y5, LeO (queue_Check.l0 k y0 y1 y2 y3 y4 y5) (queue_Check.l0 (k + 1) y0 y1 y2 y3 y4 y5)) ∧ (∀ y0 y1 y2 y3, LeO (queue_Check.j1 k y0 y1 y2 y3) (queue_Check.j1 (k + 1) y0 y1 y2 y3)) ∧ (∀ y0 y1 y2 y3 y4 y5, LeO (queue_Check.l1 k y0 y1 y2 y3 y4 y5) (queue_Check.l1 (k + 1) y0 y1 y2 y3 y4 y5)) ∧ (∀ y0 y1 y2 y3 y4 y5 y6 y7 y8 y9 y10, LeO (queue_Check.j3 k y0 y1 y2 y3 y4 y5 y6 y7 y8 y9 y10) (queue_Check.j3 (k + 1) y0 y1 y2 y3 y4 y5 y6 y7 y8 y9 y10))
 | 0 => ⟨fun _ _ _ _ _ _ r h => by simp [queue_Check.l0] at h, fun _ _ _ _ r h => by simp [queue_Check.j1] at h, fun _ _ _ _ _ _ r h => by simp [queue_Check.l1] at h, fun _ _ _ _ _ _ _ _ _ _ _ r h => by simp [queue_Check.j3] at h⟩
 | k + 1 => by
  obtain ⟨ih0, ih1, ih2, ih3⟩ := queue_Check.mono_l k
  refine ⟨?_, ?_, ?_, ?_⟩
  ·intro y0 y1 y2 y3 y4 y5
   unfold queue_Check.l0
   repeat' first
   | (with_reducible exact ih0 _ _ _ _ _ _)
   | (with_reducible exact ih1 _ _ _ _)
   | (with_reducible exact ih2 _ _ _ _ _ _)
   | (with_reducible exact ih3 _ _ _ _ _ _ _ _ _ _ _)
   | (with_reducible exact LeO.refl _)
   | (with_reducible exact LeO.none _)
   | (with_reducible refine LeO.ite ?_ ?_)
   | (with_reducible refine LeO.bind ?_ (fun _ => ?_))
   | exact ih0 _ _ _ _ _ _
   | exact ih1 _ _ _ _
   | exact ih2 _ _ _ _ _ _
   | exact ih3 _ _ _ _ _ _ _ _ _ _ _
   | exact LeO.none _
   | refine LeO.ite ?_ ?_
   | refine LeO.bind ?_ (fun _ => ?_)
  ·intro y0 y1 y2 y3
   unfold queue_Check.j1
   repeat' first
   | (with_reducible exact ih0 _ _ _ _ _ _)
   | (with_reducible exact ih1 _ _ _ _)
   | (with_reducible exact ih2 _ _ _ _ _ _)
   | (with_reducible exact ih3 _ _ _ _ _ _ _ _ _ _ _)
   | (with_reducible exact LeO.refl _)
   | (with_reducible exact LeO.none _)
   | (with_reducible refine LeO.ite ?_ ?_)
   | (with_reducible refine LeO.bind ?_ (fun _ => ?_))
   | exact ih0 _ _ _ _ _ _
   | exact ih1 _ _ _ _
   | exact ih2 _ _ _ _ _ _
   | exact ih3 _ _ _ _ _ _ _ _ _ _ _
   | exact LeO.none _
   | refine LeO.ite ?_ ?_
   | refine LeO.bind ?_ (fun _ => ?_)
  ·intro y0 y1 y2 y3 y4 y5
   unfold queue_Check.l1
   repeat' first
   | (with_reducible exact ih0 _ _ _ _ _ _)
   | (with_reducible exact ih1 _ _ _ _)
   | (with_reducible exact ih2 _ _ _ _ _ _)
   | (with_reducible exact ih3 _ _ _ _ _ _ _ _ _ _ _)
   | (with_reducible exact LeO.refl _)
   | (with_reducible exact LeO.none _)
   | (with_reducible refine LeO.ite ?_ ?_)
   | (with_reducible refine LeO.bind ?_ (fun _ => ?_))
   | exact ih0 _ _ _ _ _ _
   | exact ih1 _ _ _ _
   | exact ih2 _ _ _ _ _ _
   | exact ih3 _ _ _ _ _ _ _ _ _ _ _
   | exact LeO.none _
   | refine LeO.ite ?_ ?_
   | refine LeO.bind ?_ (fun _ => ?_)
  ·intro y0 y1 y2 y3 y4 y5 y6 y7 y8 y9 y10
   unfold queue_Check.j3
   repeat' first
   | (with_reducible exact ih0 _ _ _ _ _ _)
   | (with_reducible exact ih1 _ _ _ _)
   | (with_reducible exact ih2 _ _ _ _ _ _)
   | (with_reducible exact ih3 _ _ _ _ _ _ _ _ _ _ _)
   | (with_reducible exact LeO.refl _)
   | (with_reducible exact LeO.none _)
   | (with_reducible refine LeO.ite ?_ ?_)
   | (with_reducible refine LeO.bind ?_ (fun _ => ?_))
   | exact ih0 _ _ _ _ _ _
   | exact ih1 _ _ _ _
   | exact ih2 _ _ _ _ _ _
   | exact ih3 _ _ _ _ _ _ _ _ _ _ _
   | exact LeO.none _
   | refine LeO.ite ?_ ?_
   | refine LeO.bind ?_ (fun _ => ?_)
theorem queue_Check.mono : ∀ a0 a1 a2 k, LeO (queue_Check.f k a0 a1 a2) (queue_Check.f (k + 1) a0 a1 a2) := by
 intro a0 a1 a2 k
 obtain ⟨ih0, ih1, ih2, ih3⟩ := queue_Check.mono_l k
 unfold queue_Check.f
 repeat' first
   | (with_reducible exact ih0 _ _ _ _ _ _)
   | (with_reducible exact ih1 _ _ _ _)
   | (with_reducible exact ih2 _ _ _ _ _ _)
   | (with_reducible exact ih3 _ _ _ _ _ _ _ _ _ _ _)
   | (with_reducible exact LeO.refl _)
   | (with_reducible exact LeO.none _)
   | (with_reducible refine LeO.ite ?_ ?_)
   | (with_reducible refine LeO.bind ?_ (fun _ => ?_))
   | exact ih0 _ _ _ _ _ _
   | exact ih1 _ _ _ _
   | exact ih2 _ _ _ _ _ _
   | exact ih3 _ _ _ _ _ _ _ _ _ _ _
   | exact LeO.none _
   | refine LeO.ite ?_ ?_
   | refine LeO.bind ?_ (fun _ => ?_)
set_option maxHeartbeats 8000000 in
set_option maxRecDepth 100000 in
theorem queue_Check.calls (k : Nat) (A0_0 : Option Addr) (c0_0 : Nat) (l0_0 : List (S42)) (a0_1 : Int) (a0_2 : Int) (r : Int) (w : World) (hr0_0 : Kd.C k42 w A0_0 l0_0.length l0_0) (hc0_0 : l0_0.length ≤ c0_0) (h : queue_Check.f k l0_0 a0_1 a0_2 = some r) :
  Calls Try.prog 29 #[.agg #[.slice A0_0 l0_0.length c0_0, .int .i64 a0_1, .int .i64 a0_2]] w fun e w' => e = .returned (.int .i64 r) ∧ Below w.heap.size w w' := by
 have hu24 := Try.underlying24
 have hu42 := Try.underlying42
 have HR0_0 := Aside0.mk hr0_0
 have HC0_0 := Aside0.mk hc0_0
 clear hr0_0 hc0_0
 have HB := Aside0.mk (Below.refl w.heap.size w)
 have H : (if (l0_0.length : Int) > 8 then (some 4) else (queue_Check.l0 k l0_0 (l0_0.length : Int) 0 l0_0 a0_1 a0_2)) = some r := h
 clear h
 by_cases c2 : (l0_0.length : Int) > 8
 ·rw [if_pos c2] at H
  have c2b0 : decide (8 < (l0_0.length : Int)) = true := decide_eq_true c2
  have c2b1 : decide (8 < l0_0.length) = true := decide_eq_true (by omega)
  clear c2
  obtain rfl := Option.some.inj H
  go_enter Try.func29, Try.ntmps29
  go_wp2_with (first | ((with_reducible refine gate_dst (N := 1) rfl ?_); refine box_event ?hg (N := 1) ?hd (cs := #[.slice A0_0 l0_0.length c0_0, .int .i64 a0_1, .int .i64 a0_2]) (t := 24) ?hr ?_; (case hd => rfl); (case hg => rfl); (case hr => first | (go_simp; done) | (go_simp; rfl)); intro gb104 hg w3 hbox hb; have n0_ := Aside0.mk (below_step (by repeat (first | (with_reducible first | exact HB.out | apply below_alloc | apply pw_below_drewN | apply below_drew1) | exact HB.out)) hb); have n1_ := Aside0.mk (hbox); have n2_ := Aside0.mk ((by rw [hg]; exact (below_size (by repeat (first | (with_reducible first | exact HB.out | apply below_alloc | apply pw_below_drewN | apply below_drew1) | exact HB.out))) : w.heap.size ≤ gb104)); have n3_ := Aside0.mk ((by rw [hg]; exact (below_size (by repeat (first | (with_reducible first | exact HB.out | apply below_alloc | apply pw_below_drewN | apply below_drew1) | exact HB.out))) : w.heap.size ≤ gb104)); clear HB; have HB := n0_; have BK104 := n1_; have GW104 := n2_; have GE104 := n3_; clear n0_ n1_ n2_ n3_; clear hb hbox hg; have hcz4_0 : w3.cell? ⟨gb104, 0, none⟩ = some (.slice A0_0 l0_0.length c0_0) := (blk_cell BK104.out 0).trans rfl; have hcz4_1 : w3.cell? ⟨gb104, 1, none⟩ = some (.int .i64 a0_1) := (blk_cell BK104.out 1).trans rfl; have hcz4_2 : w3.cell? ⟨gb104, 2, none⟩ = some (.int .i64 a0_2) := (blk_cell BK104.out 2).trans rfl; have hfz4_0 := blk_frozen BK104.out 0; have hfz4_1 := blk_frozen BK104.out 1; have hfz4_2 := blk_frozen BK104.out 2))
  go_ret
  exact ⟨by first | rfl | (simp [errW_none, errW_some] <;> rfl) | (simp [*, errW_none, errW_some] <;> rfl), by repeat (first | (with_reducible first | exact HB.out | apply below_alloc | apply pw_below_drewN | apply below_drew1 | refine below_set ?_ GE104.out) | exact HB.out)⟩
 ·rw [if_neg c2] at H
  have c2b0 : decide (8 < (l0_0.length : Int)) = false := decide_eq_false c2
  have c2b1 : decide (8 < l0_0.length) = false := decide_eq_false (by omega)
  clear c2
  have H' := Aside0.mk H
  clear H
  go_enter Try.func29, Try.ntmps29
  go_wp2_with (first | ((with_reducible refine gate_dst (N := 1) rfl ?_); refine box_event ?hg (N := 1) ?hd (cs := #[.slice A0_0 l0_0.length c0_0, .int .i64 a0_1, .int .i64 a0_2]) (t := 24) ?hr ?_; (case hd => rfl); (case hg => rfl); (case hr => first | (go_simp; done) | (go_simp; rfl)); intro gb104 hg w5 hbox hb; have n0_ := Aside0.mk (below_step (by repeat (first | (with_reducible first | exact HB.out | apply below_alloc | apply pw_below_drewN | apply below_drew1) | exact HB.out)) hb); have n1_ := Aside0.mk (hbox); have n2_ := Aside0.mk ((by rw [hg]; exact (below_size (by repeat (first | (with_reducible first | exact HB.out | apply below_alloc | apply pw_below_drewN | apply below_drew1) | exact HB.out))) : w.heap.size ≤ gb104)); have n3_ := Aside0.mk ((by rw [hg]; exact (below_size (by repeat (first | (with_reducible first | exact HB.out | apply below_alloc | apply pw_below_drewN | apply below_drew1) | exact HB.out))) : w.heap.size ≤ gb104)); clear HB; have HB := n0_; have BK104 := n1_; have GW104 := n2_; have GE104 := n3_; clear n0_ n1_ n2_ n3_; clear hb hbox hg; have hcz6_0 : w5.cell? ⟨gb104, 0, none⟩ = some (.slice A0_0 l0_0.length c0_0) := (blk_cell BK104.out 0).trans rfl; have hcz6_1 : w5.cell? ⟨gb104, 1, none⟩ = some (.int .i64 a0_1) := (blk_cell BK104.out 1).trans rfl; have hcz6_2 : w5.cell? ⟨gb104, 2, none⟩ = some (.int .i64 a0_2) := (blk_cell BK104.out 2).trans rfl; have hfz6_0 := blk_frozen BK104.out 0; have hfz6_1 := blk_frozen BK104.out 1; have hfz6_2 := blk_frozen BK104.out 2))
  go_loopg [15] k (fun kq v15 w' => ∃ (x15_1 : Int), v15 = .int .i64 x15_1 ∧ Aside0 (queue_Check.l0 kq l0_0 (l0_0.length : Int) x15_1 l0_0 a0_1 a0_2 = some r) ∧ Aside0 (kq ≤ k) ∧ Aside0 (w'.heap[gb104]? = some (.cells #[(.slice A0_0 l0_0.length c0_0), .int .i64 a0_1, .int .i64 a0_2] 24 (0, 0))) ∧ Aside0 (Below w.heap.size w w'))
  case atStart => exact ⟨(0), (by first | rfl | (simp; done) | (simp [*]; done)), H', ⟨Nat.le_refl _⟩, ⟨by (with_reducible repeat (first | refine blk_drewN ?_ _ | refine blk_drew ?_ | refine blk_alloc ?_ _)); exact BK104.out⟩, ⟨by repeat (first | (with_reducible first | exact HB.out | apply below_alloc | apply pw_below_drewN | apply below_drew1 | refine below_set ?_ GE104.out) | exact HB.out)⟩⟩
  case round =>
   clear H'
   try clear c2
   try clear c2b0
   try clear c2b1
   try clear p2
   try clear hcz4_0
   try clear hcz4_1
   try clear hcz4_2
   try clear hcz6_0
   try clear hcz6_1
   try clear hcz6_2
   try clear hfz4_0
   try clear hfz4_1
   try clear hfz4_2
   try clear hfz6_0
   try clear hfz6_1
   try clear hfz6_2
   obtain ⟨x15_1, rfl, HA, HK1, BK104, HB⟩ := hrel
   cases gk with
   | zero => exact absurd HA.out (by simp [queue_Check.l0])
   | succ k1 =>
    have H := HA.out
    clear HA
    simp only [queue_Check.l0] at H
    by_cases c7 : x15_1 < (l0_0.length : Int)
    ·rw [if_pos c7] at H
     have c7b0 : decide (x15_1 < (l0_0.length : Int)) = true := decide_eq_true c7
     clear c7
     by_cases c8 : 0 ≤ x15_1
     ·rw [if_pos c8] at H
      have c8b0 : decide (0 ≤ x15_1) = true := decide_eq_true c8
      clear c8
      by_cases c9 : x15_1 < (l0_0.length : Int)
      ·rw [if_pos c9] at H
       have c9b0 : decide (x15_1 < (l0_0.length : Int)) = true := decide_eq_true c9
       clear c9
       replace H := Option.bind_eq_some_iff.mp H
       obtain ⟨t107, A100, H⟩ := H
       replace H : (if t107 = x15_1 then (queue_Check.l0 k1 l0_0 (l0_0.length : Int) (wrap64 (x15_1 + 1)) l0_0 a0_1 a0_2) else (some 14)) = some r := H
       have A10 := Aside0.mk A100
       clear A100
       by_cases c11 : t107 = x15_1
       ·rw [if_pos c11] at H
        have c11b0 : (t107 == x15_1) = true := beq_iff_eq.mpr c11
        have c11b1 : (t107 != x15_1) = false := bne_eq_false_iff_eq.mpr c11
        clear c11
        have H' := Aside0.mk H
        clear H
        have p105 : 0 ≤ (x15_1 : Int) := of_decide_eq_true (by first | (with_reducible assumption) | assumption)
        have q105 : x15_1 < (l0_0.length : Int) := of_decide_eq_true (by first | (with_reducible assumption) | assumption)
        obtain ⟨ad105, e105, hx105_0, hx105_1, hx105_2, hx105_3⟩ := at_T42 HR0_0.out x15_1 p105 q105
        cases e105
        replace hx105_0 := (HB.out.cell (World.block_lt_of_cell? w _ hx105_0)).trans hx105_0
        replace hx105_1 := (HB.out.cell (World.block_lt_of_cell? w _ hx105_1)).trans hx105_1
        replace hx105_2 := (HB.out.cell (World.block_lt_of_cell? w _ hx105_2)).trans hx105_2
        replace hx105_3 := (HB.out.cell (World.block_lt_of_cell? w _ hx105_3)).trans hx105_3
        replace p105 := eq_true p105
        replace q105 := eq_true q105
        go_wp2_with (first | ((with_reducible refine gate_dst (N := 4) rfl ?_); refine box_event ?hg (N := 4) ?hd (cs := #[.string (⟨#[]⟩ : ByteArray), .int .i64 0, .int .i64 0, .int .i64 0]) (t := 42) ?hr ?_; (case hd => rfl); (case hg => rfl); (case hr => first | (go_simp; done) | (go_simp; rfl)); intro gb106 hg w12 hbox hb; have n0_ := Aside0.mk (blk_below (g := gb104) (o := .cells #[.slice (some ad105) l0_0.length c0_0, .int .i64 a0_1, .int .i64 a0_2] 24 (0, 0)) (by (with_reducible repeat (first | refine blk_drewN ?_ _ | refine blk_drew ?_ | refine blk_alloc ?_ _)); exact BK104.out) hb); have n1_ := Aside0.mk (below_step (by repeat (first | (with_reducible first | exact HB.out | apply below_alloc | apply pw_below_drewN | apply below_drew1 | refine below_set ?_ GE104.out) | exact HB.out)) hb); have n2_ := Aside0.mk (hbox); have n3_ := Aside0.mk ((by rw [hg]; exact (below_size (by repeat (first | (with_reducible first | exact HB.out | apply below_alloc | apply pw_below_drewN | apply below_drew1 | refine below_set ?_ GE104.out) | exact HB.out))) : w.heap.size ≤ gb106)); have n4_ := Aside0.mk ((by rw [hg]; exact (below_size (by repeat (first | (with_reducible first | exact HB.out | apply below_alloc | apply pw_below_drewN | apply below_drew1 | refine below_set ?_ GE104.out) | exact HB.out))) : w.heap.size ≤ gb106)); have n5_ := Aside0.mk ((by rw [hg]; exact Nat.ne_of_lt (blk_lt (g := gb104) (o := .cells #[.slice (some ad105) l0_0.length c0_0, .int .i64 a0_1, .int .i64 a0_2] 24 (0, 0)) (by (with_reducible repeat (first | refine blk_drewN ?_ _ | refine blk_drew ?_ | refine blk_alloc ?_ _)); exact BK104.out)) : gb104 ≠ gb106)); have n6_ := Aside0.mk ((by rw [hg]; exact Nat.ne_of_gt (blk_lt (g := gb104) (o := .cells #[.slice (some ad105) l0_0.length c0_0, .int .i64 a0_1, .int .i64 a0_2] 24 (0, 0)) (by (with_reducible repeat (first | refine blk_drewN ?_ _ | refine blk_drew ?_ | refine blk_alloc ?_ _)); exact BK104.out)) : gb106 ≠ gb104)); clear BK104; clear HB; have BK104 := n0_; have HB := n1_; have BK106 := n2_; have GW106 := n3_; have GE106 := n4_; have NB104_106 := n5_; have NB106_104 := n6_; clear n0_ n1_ n2_ n3_ n4_ n5_ n6_; clear hb hbox hg; have hnb13 := NB106_104.out; have hnc13 := NB104_106.out; have hcz14_0 : w12.cell? ⟨gb106, 0, none⟩ = some (.string (⟨#[]⟩ : ByteArray)) := (blk_cell BK106.out 0).trans rfl; have hcz14_1 : w12.cell? ⟨gb106, 1, none⟩ = some (.int .i64 0) := (blk_cell BK106.out 1).trans rfl; have hcz14_2 : w12.cell? ⟨gb106, 2, none⟩ = some (.int .i64 0) := (blk_cell BK106.out 2).trans rfl; have hcz14_3 : w12.cell? ⟨gb106, 3, none⟩ = some (.int .i64 0) := (blk_cell BK106.out 3).trans rfl; have hfz14_0 := blk_frozen BK106.out 0; have hfz14_1 := blk_frozen BK106.out 1; have hfz14_2 := blk_frozen BK106.out 2; have hfz14_3 := blk_frozen BK106.out 3; have hcz15_0 : w12.cell? ⟨gb104, 0, none⟩ = some (.slice (some ad105) l0_0.length c0_0) := (blk_cell BK104.out 0).trans rfl; have hcz15_1 : w12.cell? ⟨gb104, 1, none⟩ = some (.int .i64 a0_1) := (blk_cell BK104.out 1).trans rfl; have hcz15_2 : w12.cell? ⟨gb104, 2, none⟩ = some (.int .i64 a0_2) := (blk_cell BK104.out 2).trans rfl; have hfz15_0 := blk_frozen BK104.out 0; have hfz15_1 := blk_frozen BK104.out 1; have hfz15_2 := blk_frozen BK104.out 2) | ((with_reducible refine gate_callee (f := 56) rfl ?_); refine goesL_ (some 23) rfl rfl Try.func56 (by kernel_rfl) rfl #[.agg #[.slice (some ad105) l0_0.length c0_0, .int .i64 a0_1, .int .i64 a0_2], .string ((rd_T42 l0_0 x15_1).f0)] rfl (by (try simp only [List.map_toArray, List.map_cons, List.map_nil]); first | done | rfl | (simp only [List.length_drop, List.length_take]; rfl)) ?_; (with_reducible refine (queue_index.calls _ _ l0_0 a0_1 a0_2 ((rd_T42 l0_0 x15_1).f0) t107 _ ?side1 ?side2 A10.out).mono ?_); (case side1 => exact Kd.C_below HR0_0.out (by repeat (first | (with_reducible first | exact HB.out | apply below_alloc | apply pw_below_drewN | apply below_drew1 | refine below_set ?_ GE104.out | refine below_set ?_ GE106.out) | exact HB.out))); (case side2 => exact HC0_0.out); rintro e w16 ⟨rfl, hb⟩; refine ⟨_, rfl, ?_⟩; have n0_ := Aside0.mk (blk_below (g := gb104) (o := .cells #[.slice (some ad105) l0_0.length c0_0, .int .i64 a0_1, .int .i64 a0_2] 24 (0, 0)) (by (with_reducible repeat (first | refine blk_drewN ?_ _ | refine blk_drew ?_ | refine blk_alloc ?_ _)); refine blk_far ?_ NB104_106.out _; (with_reducible repeat (first | refine blk_drewN ?_ _ | refine blk_drew ?_ | refine blk_alloc ?_ _)); refine blk_far ?_ NB104_106.out _; (with_reducible repeat (first | refine blk_drewN ?_ _ | refine blk_drew ?_ | refine blk_alloc ?_ _)); refine blk_far ?_ NB104_106.out _; (with_reducible repeat (first | refine blk_drewN ?_ _ | refine blk_drew ?_ | refine blk_alloc ?_ _)); refine blk_far ?_ NB104_106.out _; (with_reducible repeat (first | refine blk_drewN ?_ _ | refine blk_drew ?_ | refine blk_alloc ?_ _)); exact BK104.out) hb); have n1_ := Aside0.mk (blk_below (g := gb106) (o := .cells #[.string ((rd_T42 l0_0 x15_1).f0), .int .i64 ((rd_T42 l0_0 x15_1).f1), .int .i64 ((rd_T42 l0_0 x15_1).f2), .int .i64 ((rd_T42 l0_0 x15_1).f3)] 42 (0, 0)) (by (with_reducible repeat (first | refine blk_drewN ?_ _ | refine blk_drew ?_ | refine blk_alloc ?_ _)); refine blk_put (cs := #[.string ((rd_T42 l0_0 x15_1).f0), .int .i64 ((rd_T42 l0_0 x15_1).f1), .int .i64 ((rd_T42 l0_0 x15_1).f2), .int .i64 0]) ?_ 3 _ rfl; (with_reducible repeat (first | refine blk_drewN ?_ _ | refine blk_drew ?_ | refine blk_alloc ?_ _)); refine blk_put (cs := #[.string ((rd_T42 l0_0 x15_1).f0), .int .i64 ((rd_T42 l0_0 x15_1).f1), .int .i64 0, .int .i64 0]) ?_ 2 _ rfl; (with_reducible repeat (first | refine blk_drewN ?_ _ | refine blk_drew ?_ | refine blk_alloc ?_ _)); refine blk_put (cs := #[.string ((rd_T42 l0_0 x15_1).f0), .int .i64 0, .int .i64 0, .int .i64 0]) ?_ 1 _ rfl; (with_reducible repeat (first | refine blk_drewN ?_ _ | refine blk_drew ?_ | refine blk_alloc ?_ _)); refine blk_put (cs := #[.string (⟨#[]⟩ : ByteArray), .int .i64 0, .int .i64 0, .int .i64 0]) ?_ 0 _ rfl; (with_reducible repeat (first | refine blk_drewN ?_ _ | refine blk_drew ?_ | refine blk_alloc ?_ _)); exact BK106.out) hb); have n2_ := Aside0.mk (below_step (by repeat (first | (with_reducible first | exact HB.out | apply below_alloc | apply pw_below_drewN | apply below_drew1 | refine below_set ?_ GE104.out | refine below_set ?_ GE106.out) | exact HB.out)) hb); clear BK104; clear BK106; clear HB; have BK104 := n0_; have BK106 := n1_; have HB := n2_; clear n0_ n1_ n2_; (try clear hb); (try clear hb2); (try clear hk); (try clear hi)))
        go_roundg k1
        case measure => have := HK1.out; omega
        case rel => exact ⟨(wrap64 (x15_1 + 1)), (by first | rfl | (simp; done) | (simp [*]; done)), H', ⟨by have := HK1.out; omega⟩, ⟨by (with_reducible repeat (first | refine blk_drewN ?_ _ | refine blk_drew ?_ | refine blk_alloc ?_ _)); exact BK104.out⟩, ⟨by repeat (first | (with_reducible first | exact HB.out | apply below_alloc | apply pw_below_drewN | apply below_drew1 | refine below_set ?_ GE104.out | refine below_set ?_ GE106.out) | exact HB.out)⟩⟩
       ·rw [if_neg c11] at H
        have c11b0 : (t107 == x15_1) = false := beq_eq_false_iff_ne.mpr c11
        have c11b1 : (t107 != x15_1) = true := bne_iff_ne.mpr c11
        obtain rfl := Option.some.inj H
        have p105 : 0 ≤ (x15_1 : Int) := of_decide_eq_true (by first | (with_reducible assumption) | assumption)
        have q105 : x15_1 < (l0_0.length : Int) := of_decide_eq_true (by first | (with_reducible assumption) | assumption)
        obtain ⟨ad105, e105, hx105_0, hx105_1, hx105_2, hx105_3⟩ := at_T42 HR0_0.out x15_1 p105 q105
        cases e105
        replace hx105_0 := (HB.out.cell (World.block_lt_of_cell? w _ hx105_0)).trans hx105_0
        replace hx105_1 := (HB.out.cell (World.block_lt_of_cell? w _ hx105_1)).trans hx105_1
        replace hx105_2 := (HB.out.cell (World.block_lt_of_cell? w _ hx105_2)).trans hx105_2
        replace hx105_3 := (HB.out.cell (World.block_lt_of_cell? w _ hx105_3)).trans hx105_3
        replace p105 := eq_true p105
        replace q105 := eq_true q105
        go_wp2_with (first | ((with_reducible refine gate_dst (N := 4) rfl ?_); refine box_event ?hg (N := 4) ?hd (cs := #[.string (⟨#[]⟩ : ByteArray), .int .i64 0, .int .i64 0, .int .i64 0]) (t := 42) ?hr ?_; (case hd => rfl); (case hg => rfl); (case hr => first | (go_simp; done) | (go_simp; rfl)); intro gb106 hg w17 hbox hb; have n0_ := Aside0.mk (blk_below (g := gb104) (o := .cells #[.slice (some ad105) l0_0.length c0_0, .int .i64 a0_1, .int .i64 a0_2] 24 (0, 0)) (by (with_reducible repeat (first | refine blk_drewN ?_ _ | refine blk_drew ?_ | refine blk_alloc ?_ _)); exact BK104.out) hb); have n1_ := Aside0.mk (below_step (by repeat (first | (with_reducible first | exact HB.out | apply below_alloc | apply pw_below_drewN | apply below_drew1 | refine below_set ?_ GE104.out) | exact HB.out)) hb); have n2_ := Aside0.mk (hbox); have n3_ := Aside0.mk ((by rw [hg]; exact (below_size (by repeat (first | (with_reducible first | exact HB.out | apply below_alloc | apply pw_below_drewN | apply below_drew1 | refine below_set ?_ GE104.out) | exact HB.out))) : w.heap.size ≤ gb106)); have n4_ := Aside0.mk ((by rw [hg]; exact (below_size (by repeat (first | (with_reducible first | exact HB.out | apply below_alloc | apply pw_below_drewN | apply below_drew1 | refine below_set ?_ GE104.out) | exact HB.out))) : w.heap.size ≤ gb106)); have n5_ := Aside0.mk ((by rw [hg]; exact Nat.ne_of_lt (blk_lt (g := gb104) (o := .cells #[.slice (some ad105) l0_0.length c0_0, .int .i64 a0_1, .int .i64 a0_2] 24 (0, 0)) (by (with_reducible repeat (first | refine blk_drewN ?_ _ | refine blk_drew ?_ | refine blk_alloc ?_ _)); exact BK104.out)) : gb104 ≠ gb106)); have n6_ := Aside0.mk ((by rw [hg]; exact Nat.ne_of_gt (blk_lt (g := gb104) (o := .cells #[.slice (some ad105) l0_0.length c0_0, .int .i64 a0_1, .int .i64 a0_2] 24 (0, 0)) (by (with_reducible repeat (first | refine blk_drewN ?_ _ | refine blk_drew ?_ | refine blk_alloc ?_ _)); exact BK104.out)) : gb106 ≠ gb104)); clear BK104; clear HB; have BK104 := n0_; have HB := n1_; have BK106 := n2_; have GW106 := n3_; have GE106 := n4_; have NB104_106 := n5_; have NB106_104 := n6_; clear n0_ n1_ n2_ n3_ n4_ n5_ n6_; clear hb hbox hg; have hnb18 := NB106_104.out; have hnc18 := NB104_106.out; have hcz19_0 : w17.cell? ⟨gb106, 0, none⟩ = some (.string (⟨#[]⟩ : ByteArray)) := (blk_cell BK106.out 0).trans rfl; have hcz19_1 : w17.cell? ⟨gb106, 1, none⟩ = some (.int .i64 0) := (blk_cell BK106.out 1).trans rfl; have hcz19_2 : w17.cell? ⟨gb106, 2, none⟩ = some (.int .i64 0) := (blk_cell BK106.out 2).trans rfl; have hcz19_3 : w17.cell? ⟨gb106, 3, none⟩ = some (.int .i64 0) := (blk_cell BK106.out 3).trans rfl; have hfz19_0 := blk_frozen BK106.out 0; have hfz19_1 := blk_frozen BK106.out 1; have hfz19_2 := blk_frozen BK106.out 2; have hfz19_3 := blk_frozen BK106.out 3; have hcz20_0 : w17.cell? ⟨gb104, 0, none⟩ = some (.slice (some ad105) l0_0.length c0_0) := (blk_cell BK104.out 0).trans rfl; have hcz20_1 : w17.cell? ⟨gb104, 1, none⟩ = some (.int .i64 a0_1) := (blk_cell BK104.out 1).trans rfl; have hcz20_2 : w17.cell? ⟨gb104, 2, none⟩ = some (.int .i64 a0_2) := (blk_cell BK104.out 2).trans rfl; have hfz20_0 := blk_frozen BK104.out 0; have hfz20_1 := blk_frozen BK104.out 1; have hfz20_2 := blk_frozen BK104.out 2) | ((with_reducible refine gate_callee (f := 56) rfl ?_); refine goesL_ (some 23) rfl rfl Try.func56 (by kernel_rfl) rfl #[.agg #[.slice (some ad105) l0_0.length c0_0, .int .i64 a0_1, .int .i64 a0_2], .string ((rd_T42 l0_0 x15_1).f0)] rfl (by (try simp only [List.map_toArray, List.map_cons, List.map_nil]); first | done | rfl | (simp only [List.length_drop, List.length_take]; rfl)) ?_; (with_reducible refine (queue_index.calls _ _ l0_0 a0_1 a0_2 ((rd_T42 l0_0 x15_1).f0) t107 _ ?side1 ?side2 A10.out).mono ?_); (case side1 => exact Kd.C_below HR0_0.out (by repeat (first | (with_reducible first | exact HB.out | apply below_alloc | apply pw_below_drewN | apply below_drew1 | refine below_set ?_ GE104.out | refine below_set ?_ GE106.out) | exact HB.out))); (case side2 => exact HC0_0.out); rintro e w21 ⟨rfl, hb⟩; refine ⟨_, rfl, ?_⟩; have n0_ := Aside0.mk (blk_below (g := gb104) (o := .cells #[.slice (some ad105) l0_0.length c0_0, .int .i64 a0_1, .int .i64 a0_2] 24 (0, 0)) (by (with_reducible repeat (first | refine blk_drewN ?_ _ | refine blk_drew ?_ | refine blk_alloc ?_ _)); refine blk_far ?_ NB104_106.out _; (with_reducible repeat (first | refine blk_drewN ?_ _ | refine blk_drew ?_ | refine blk_alloc ?_ _)); refine blk_far ?_ NB104_106.out _; (with_reducible repeat (first | refine blk_drewN ?_ _ | refine blk_drew ?_ | refine blk_alloc ?_ _)); refine blk_far ?_ NB104_106.out _; (with_reducible repeat (first | refine blk_drewN ?_ _ | refine blk_drew ?_ | refine blk_alloc ?_ _)); refine blk_far ?_ NB104_106.out _; (with_reducible repeat (first | refine blk_drewN ?_ _ | refine blk_drew ?_ | refine blk_alloc ?_ _)); exact BK104.out) hb); have n1_ := Aside0.mk (blk_below (g := gb106) (o := .cells #[.string ((rd_T42 l0_0 x15_1).f0), .int .i64 ((rd_T42 l0_0 x15_1).f1), .int .i64 ((rd_T42 l0_0 x15_1).f2), .int .i64 ((rd_T42 l0_0 x15_1).f3)] 42 (0, 0)) (by (with_reducible repeat (first | refine blk_drewN ?_ _ | refine blk_drew ?_ | refine blk_alloc ?_ _)); refine blk_put (cs := #[.string ((rd_T42 l0_0 x15_1).f0), .int .i64 ((rd_T42 l0_0 x15_1).f1), .int .i64 ((rd_T42 l0_0 x15_1).f2), .int .i64 0]) ?_ 3 _ rfl; (with_reducible repeat (first | refine blk_drewN ?_ _ | refine blk_drew ?_ | refine blk_alloc ?_ _)); refine blk_put (cs := #[.string ((rd_T42 l0_0 x15_1).f0), .int .i64 ((rd_T42 l0_0 x15_1).f1), .int .i64 0, .int .i64 0]) ?_ 2 _ rfl; (with_reducible repeat (first | refine blk_drewN ?_ _ | refine blk_drew ?_ | refine blk_alloc ?_ _)); refine blk_put (cs := #[.string ((rd_T42 l0_0 x15_1).f0), .int .i64 0, .int .i64 0, .int .i64 0]) ?_ 1 _ rfl; (with_reducible repeat (first | refine blk_drewN ?_ _ | refine blk_drew ?_ | refine blk_alloc ?_ _)); refine blk_put (cs := #[.string (⟨#[]⟩ : ByteArray), .int .i64 0, .int .i64 0, .int .i64 0]) ?_ 0 _ rfl; (with_reducible repeat (first | refine blk_drewN ?_ _ | refine blk_drew ?_ | refine blk_alloc ?_ _)); exact BK106.out) hb); have n2_ := Aside0.mk (below_step (by repeat (first | (with_reducible first | exact HB.out | apply below_alloc | apply pw_below_drewN | apply below_drew1 | refine below_set ?_ GE104.out | refine below_set ?_ GE106.out) | exact HB.out)) hb); clear BK104; clear BK106; clear HB; have BK104 := n0_; have BK106 := n1_; have HB := n2_; clear n0_ n1_ n2_; (try clear hb); (try clear hb2); (try clear hk); (try clear hi)))
        go_ret
        exact ⟨by first | rfl | (simp [errW_none, errW_some] <;> rfl) | (simp [*, errW_none, errW_some] <;> rfl), by repeat (first | (with_reducible first | exact HB.out | apply below_alloc | apply pw_below_drewN | apply below_drew1 | refine below_set ?_ GE104.out | refine below_set ?_ GE106.out) | exact HB.out)⟩
      ·rw [if_neg c9] at H
       exact absurd H (by simp)
     ·rw [if_neg c8] at H
      exact absurd H (by simp)
    ·rw [if_neg c7] at H
     have c7b0 : decide (x15_1 < (l0_0.length : Int)) = false := decide_eq_false c7
     clear c7
     have HC22 := Aside0.mk H
     clear H
     go_upto_region 9 with (fail)
     go_cut [42] (fun v42 wc => ∃ (kq : Nat) (x42_21 : Bool), v42 = .bool x42_21 ∧ Aside0 (queue_Check.j1 kq x42_21 l0_0 a0_1 a0_2 = some r) ∧ Aside0 (kq ≤ k1) ∧ Aside0 (wc.heap[gb104]? = some (.cells #[(.slice A0_0 l0_0.length c0_0), .int .i64 a0_1, .int .i64 a0_2] 24 (0, 0))) ∧ Aside0 (Below w.heap.size w wc))
     case first =>
      have H := HC22.out
      clear HC22
      by_cases c23 : (l0_0.length : Int) = 0
      ·rw [if_pos c23] at H
       have c23b0 : ((l0_0.length : Int) == 0) = true := beq_iff_eq.mpr c23
       have c23b1 : ((l0_0.length : Int) != 0) = false := bne_eq_false_iff_eq.mpr c23
       clear c23
       (first | rw [c23b0] | (simp only [i64_w, i32_w]; rw [c23b0]) | skip)
       have H' := Aside0.mk H
       clear H
       have hcz24_0 : wr.cell? ⟨gb104, 0, none⟩ = some (.slice A0_0 l0_0.length c0_0) := (blk_cell BK104.out 0).trans rfl
       have hcz24_1 : wr.cell? ⟨gb104, 1, none⟩ = some (.int .i64 a0_1) := (blk_cell BK104.out 1).trans rfl
       have hcz24_2 : wr.cell? ⟨gb104, 2, none⟩ = some (.int .i64 a0_2) := (blk_cell BK104.out 2).trans rfl
       have hfz24_0 := blk_frozen BK104.out 0
       have hfz24_1 := blk_frozen BK104.out 1
       have hfz24_2 := blk_frozen BK104.out 2
       go_wp2
       go_meet
       case rel => exact ⟨_, (true), (by first | rfl | (simp; done) | (simp [*]; done)), H', ⟨by have := HK1.out; first | omega | exact Nat.le_refl _⟩, ⟨by (with_reducible repeat (first | refine blk_drewN ?_ _ | refine blk_drew ?_ | refine blk_alloc ?_ _)); exact BK104.out⟩, ⟨by repeat (first | (with_reducible first | exact HB.out | apply below_alloc | apply pw_below_drewN | apply below_drew1 | refine below_set ?_ GE104.out) | exact HB.out)⟩⟩
      ·rw [if_neg c23] at H
       have c23b0 : ((l0_0.length : Int) == 0) = false := beq_eq_false_iff_ne.mpr c23
       have c23b1 : ((l0_0.length : Int) != 0) = true := bne_iff_ne.mpr c23
       have c23b2 : ¬ (l0_0 = []) := fun h_ => c23 (by rw [h_]; rfl)
       (first | rw [c23b0] | (simp only [i64_w, i32_w]; rw [c23b0]) | skip)
       replace H := Option.bind_eq_some_iff.mp H
       obtain ⟨t108, A250, H⟩ := H
       replace H : (if t108 = true then ((queue_in.f a0_1 0 1000000).bind fun t109 => (queue_Check.j1 k1 (!t109) l0_0 a0_1 a0_2)) else (queue_Check.j1 k1 true l0_0 a0_1 a0_2)) = some r := H
       have A25 := Aside0.mk A250
       clear A250
       by_cases c26 : t108 = true
       ·subst c26
        have H1 : ((queue_in.f a0_1 0 1000000).bind fun t109 => (queue_Check.j1 k1 (!t109) l0_0 a0_1 a0_2)) = some r := by first | (with_reducible rfl) | (rw [if_pos rfl] at H; exact H)
        clear H
        have H := H1
        clear H1
        replace H := Option.bind_eq_some_iff.mp H
        obtain ⟨t109, A270, H⟩ := H
        replace H : (queue_Check.j1 k1 (!t109) l0_0 a0_1 a0_2) = some r := H
        have A27 := Aside0.mk A270
        clear A270
        have H' := Aside0.mk H
        clear H
        have hcz28_0 : wr.cell? ⟨gb104, 0, none⟩ = some (.slice A0_0 l0_0.length c0_0) := (blk_cell BK104.out 0).trans rfl
        have hcz28_1 : wr.cell? ⟨gb104, 1, none⟩ = some (.int .i64 a0_1) := (blk_cell BK104.out 1).trans rfl
        have hcz28_2 : wr.cell? ⟨gb104, 2, none⟩ = some (.int .i64 a0_2) := (blk_cell BK104.out 2).trans rfl
        have hfz28_0 := blk_frozen BK104.out 0
        have hfz28_1 := blk_frozen BK104.out 1
        have hfz28_2 := blk_frozen BK104.out 2
        go_wp2_with (first | (go_at_call 53; (with_reducible refine (queue_in.calls a0_2 1 100 true _ A25.out).mono ?_); rintro e w' ⟨rfl, ⟨nd, rfl⟩⟩) | (go_at_call 53; (with_reducible refine (queue_in.calls a0_1 0 1000000 t109 _ A27.out).mono ?_); rintro e w' ⟨rfl, ⟨nd, rfl⟩⟩))
        go_meet
        case rel => exact ⟨_, (!t109), (by first | rfl | (simp; done) | (simp [*]; done)), H', ⟨by have := HK1.out; first | omega | exact Nat.le_refl _⟩, ⟨by (with_reducible repeat (first | refine blk_drewN ?_ _ | refine blk_drew ?_ | refine blk_alloc ?_ _)); exact BK104.out⟩, ⟨by repeat (first | (with_reducible first | exact HB.out | apply below_alloc | apply pw_below_drewN | apply below_drew1 | refine below_set ?_ GE104.out) | exact HB.out)⟩⟩
       ·replace c26 := Bool.eq_false_iff.mpr c26
        subst c26
        have H1 : (queue_Check.j1 k1 true l0_0 a0_1 a0_2) = some r := by first | (with_reducible rfl) | (rw [if_neg (show ¬ (false = true) by decide)] at H; exact H)
        clear H
        have H := H1
        clear H1
        have H' := Aside0.mk H
        clear H
        have hcz29_0 : wr.cell? ⟨gb104, 0, none⟩ = some (.slice A0_0 l0_0.length c0_0) := (blk_cell BK104.out 0).trans rfl
        have hcz29_1 : wr.cell? ⟨gb104, 1, none⟩ = some (.int .i64 a0_1) := (blk_cell BK104.out 1).trans rfl
        have hcz29_2 : wr.cell? ⟨gb104, 2, none⟩ = some (.int .i64 a0_2) := (blk_cell BK104.out 2).trans rfl
        have hfz29_0 := blk_frozen BK104.out 0
        have hfz29_1 := blk_frozen BK104.out 1
        have hfz29_2 := blk_frozen BK104.out 2
        go_wp2_with (first | (go_at_call 53; (with_reducible refine (queue_in.calls a0_2 1 100 false _ A25.out).mono ?_); rintro e w' ⟨rfl, ⟨nd, rfl⟩⟩))
        go_meet
        case rel => exact ⟨_, (true), (by first | rfl | (simp; done) | (simp [*]; done)), H', ⟨by have := HK1.out; first | omega | exact Nat.le_refl _⟩, ⟨by (with_reducible repeat (first | refine blk_drewN ?_ _ | refine blk_drew ?_ | refine blk_alloc ?_ _)); exact BK104.out⟩, ⟨by repeat (first | (with_reducible first | exact HB.out | apply below_alloc | apply pw_below_drewN | apply below_drew1 | refine below_set ?_ GE104.out) | exact HB.out)⟩⟩
     case rest =>
      clear HC22
      try clear c1
      try clear p1
      try clear q1
      try clear hx1
      try clear c2
      try clear c2b0
      try clear c2b1
      try clear p2
      try clear c5
      try clear p6
      try clear c7
      try clear c7b0
      try clear c8
      try clear c8b0
      try clear c9
      try clear c9b0
      try clear p10
      try clear q10
      try clear hx10
      try clear c11
      try clear c11b0
      try clear c11b1
      try clear c13
      try clear c18
      try clear c23
      try clear c23b0
      try clear c23b1
      try clear c23b2
      try clear c26
      try clear c29
      try clear hcz14_0
      try clear hcz14_1
      try clear hcz14_2
      try clear hcz14_3
      try clear hcz15_0
      try clear hcz15_1
      try clear hcz15_2
      try clear hcz19_0
      try clear hcz19_1
      try clear hcz19_2
      try clear hcz19_3
      try clear hcz20_0
      try clear hcz20_1
      try clear hcz20_2
      try clear hcz24_0
      try clear hcz24_1
      try clear hcz24_2
      try clear hcz28_0
      try clear hcz28_1
      try clear hcz28_2
      try clear hcz29_0
      try clear hcz29_1
      try clear hcz29_2
      try clear hcz4_0
      try clear hcz4_1
      try clear hcz4_2
      try clear hcz6_0
      try clear hcz6_1
      try clear hcz6_2
      try clear hfz14_0
      try clear hfz14_1
      try clear hfz14_2
      try clear hfz14_3
      try clear hfz15_0
      try clear hfz15_1
      try clear hfz15_2
      try clear hfz19_0
      try clear hfz19_1
      try clear hfz19_2
      try clear hfz19_3
      try clear hfz20_0
      try clear hfz20_1
      try clear hfz20_2
      try clear hfz24_0
      try clear hfz24_1
      try clear hfz24_2
      try clear hfz28_0
      try clear hfz28_1
      try clear hfz28_2
      try clear hfz29_0
      try clear hfz29_1
      try clear hfz29_2
      try clear hfz4_0
      try clear hfz4_1
      try clear hfz4_2
      try clear hfz6_0
      try clear hfz6_1
      try clear hfz6_2
      try clear hx105_0
      try clear hx105_1
      try clear hx105_2
      try clear hx105_3
      try clear p105
      try clear p2
      try clear q105
      obtain ⟨kq, x42_21, rfl, HA, HJ21, BK104, HB⟩ := hcut
      cases kq with
      | zero => exact absurd HA.out (by simp [queue_Check.j1])
      | succ kj21 =>
       have H := HA.out
       clear HA
       simp only [queue_Check.j1] at H
       by_cases c30 : x42_21 = true
       ·subst c30
        have H1 : (some 8) = some r := by first | (with_reducible rfl) | (rw [if_pos rfl] at H; exact H)
        clear H
        have H := H1
        clear H1
        obtain rfl := Option.some.inj H
        go_wp2
        go_ret
        exact ⟨by first | rfl | (simp [errW_none, errW_some] <;> rfl) | (simp [*, errW_none, errW_some] <;> rfl), by repeat (first | (with_reducible first | exact HB.out | apply below_alloc | apply pw_below_drewN | apply below_drew1 | refine below_set ?_ GE104.out) | exact HB.out)⟩
       ·replace c30 := Bool.eq_false_iff.mpr c30
        subst c30
        have H1 : (queue_Check.l1 kj21 l0_0 (l0_0.length : Int) 0 l0_0 a0_1 a0_2) = some r := by first | (with_reducible rfl) | (rw [if_neg (show ¬ (false = true) by decide)] at H; exact H)
        clear H
        have H := H1
        clear H1
        have H' := Aside0.mk H
        clear H
        have hcz31_0 : wc.cell? ⟨gb104, 0, none⟩ = some (.slice A0_0 l0_0.length c0_0) := (blk_cell BK104.out 0).trans rfl
        have hcz31_1 : wc.cell? ⟨gb104, 1, none⟩ = some (.int .i64 a0_1) := (blk_cell BK104.out 1).trans rfl
        have hcz31_2 : wc.cell? ⟨gb104, 2, none⟩ = some (.int .i64 a0_2) := (blk_cell BK104.out 2).trans rfl
        have hfz31_0 := blk_frozen BK104.out 0
        have hfz31_1 := blk_frozen BK104.out 1
        have hfz31_2 := blk_frozen BK104.out 2
        go_wp2
        go_loopg [46] kj21 (fun kq v46 w' => ∃ (x46_3 : Int), v46 = .int .i64 x46_3 ∧ Aside0 (queue_Check.l1 kq l0_0 (l0_0.length : Int) x46_3 l0_0 a0_1 a0_2 = some r) ∧ Aside0 (kq ≤ kj21) ∧ Aside0 (w'.heap[gb104]? = some (.cells #[(.slice A0_0 l0_0.length c0_0), .int .i64 a0_1, .int .i64 a0_2] 24 (0, 0))) ∧ Aside0 (Below w.heap.size w w'))
        case atStart => exact ⟨(0), (by first | rfl | (simp; done) | (simp [*]; done)), H', ⟨Nat.le_refl _⟩, ⟨by (with_reducible repeat (first | refine blk_drewN ?_ _ | refine blk_drew ?_ | refine blk_alloc ?_ _)); exact BK104.out⟩, ⟨by repeat (first | (with_reducible first | exact HB.out | apply below_alloc | apply pw_below_drewN | apply below_drew1 | refine below_set ?_ GE104.out) | exact HB.out)⟩⟩
        case round =>
         clear H'
         try clear c1
         try clear p1
         try clear q1
         try clear hx1
         try clear c2
         try clear c2b0
         try clear c2b1
         try clear p2
         try clear c3
         try clear c5
         try clear p6
         try clear c7
         try clear c7b0
         try clear c8
         try clear c8b0
         try clear c9
         try clear c9b0
         try clear p10
         try clear q10
         try clear hx10
         try clear c11
         try clear c11b0
         try clear c11b1
         try clear c13
         try clear c18
         try clear c23
         try clear c23b0
         try clear c23b1
         try clear c23b2
         try clear c26
         try clear c29
         try clear c30
         try clear hcz14_0
         try clear hcz14_1
         try clear hcz14_2
         try clear hcz14_3
         try clear hcz15_0
         try clear hcz15_1
         try clear hcz15_2
         try clear hcz19_0
         try clear hcz19_1
         try clear hcz19_2
         try clear hcz19_3
         try clear hcz20_0
         try clear hcz20_1
         try clear hcz20_2
         try clear hcz24_0
         try clear hcz24_1
         try clear hcz24_2
         try clear hcz28_0
         try clear hcz28_1
         try clear hcz28_2
         try clear hcz29_0
         try clear hcz29_1
         try clear hcz29_2
         try clear hcz31_0
         try clear hcz31_1
         try clear hcz31_2
         try clear hcz4_0
         try clear hcz4_1
         try clear hcz4_2
         try clear hcz6_0
         try clear hcz6_1
         try clear hcz6_2
         try clear hfz14_0
         try clear hfz14_1
         try clear hfz14_2
         try clear hfz14_3
         try clear hfz15_0
         try clear hfz15_1
         try clear hfz15_2
         try clear hfz19_0
         try clear hfz19_1
         try clear hfz19_2
         try clear hfz19_3
         try clear hfz20_0
         try clear hfz20_1
         try clear hfz20_2
         try clear hfz24_0
         try clear hfz24_1
         try clear hfz24_2
         try clear hfz28_0
         try clear hfz28_1
         try clear hfz28_2
         try clear hfz29_0
         try clear hfz29_1
         try clear hfz29_2
         try clear hfz31_0
         try clear hfz31_1
         try clear hfz31_2
         try clear hfz4_0
         try clear hfz4_1
         try clear hfz4_2
         try clear hfz6_0
         try clear hfz6_1
         try clear hfz6_2
         try clear hx105_0
         try clear hx105_1
         try clear hx105_2
         try clear hx105_3
         try clear p1
         try clear p10
         try clear p105
         try clear p2
         try clear p6
         try clear q1
         try clear q10
         try clear q105
         obtain ⟨x46_3, rfl, HA, HK3, BK104, HB⟩ := hrel
         cases gk with
         | zero => exact absurd HA.out (by simp [queue_Check.l1])
         | succ k3 =>
          have H := HA.out
          clear HA
          simp only [queue_Check.l1] at H
          by_cases c32 : x46_3 < (l0_0.length : Int)
          ·rw [if_pos c32] at H
           have c32b0 : decide (x46_3 < (l0_0.length : Int)) = true := decide_eq_true c32
           clear c32
           by_cases c33 : 0 ≤ x46_3
           ·rw [if_pos c33] at H
            have c33b0 : decide (0 ≤ x46_3) = true := decide_eq_true c33
            clear c33
            by_cases c34 : x46_3 < (l0_0.length : Int)
            ·rw [if_pos c34] at H
             have c34b0 : decide (x46_3 < (l0_0.length : Int)) = true := decide_eq_true c34
             clear c34
             have HC35 := Aside0.mk H
             clear H
             have p110 : 0 ≤ (x46_3 : Int) := of_decide_eq_true (by first | (with_reducible assumption) | assumption)
             have q110 : x46_3 < (l0_0.length : Int) := of_decide_eq_true (by first | (with_reducible assumption) | assumption)
             obtain ⟨ad110, e110, hx110_0, hx110_1, hx110_2, hx110_3⟩ := at_T42 HR0_0.out x46_3 p110 q110
             cases e110
             replace hx110_0 := (HB.out.cell (World.block_lt_of_cell? w _ hx110_0)).trans hx110_0
             replace hx110_1 := (HB.out.cell (World.block_lt_of_cell? w _ hx110_1)).trans hx110_1
             replace hx110_2 := (HB.out.cell (World.block_lt_of_cell? w _ hx110_2)).trans hx110_2
             replace hx110_3 := (HB.out.cell (World.block_lt_of_cell? w _ hx110_3)).trans hx110_3
             replace p110 := eq_true p110
             replace q110 := eq_true q110
             go_upto_region 14 with (first | ((with_reducible refine gate_dst (N := 6) rfl ?_); refine box_event ?hg (N := 6) ?hd (cs := #[.string (⟨#[]⟩ : ByteArray), .int .i64 0, .int .i64 0, .int .i64 0]) (t := 42) ?hr ?_; (case hd => rfl); (case hg => rfl); (case hr => first | (go_simp; done) | (go_simp; rfl)); intro gb111 hg w36 hbox hb; have n0_ := Aside0.mk (blk_below (g := gb104) (o := .cells #[.slice (some ad110) l0_0.length c0_0, .int .i64 a0_1, .int .i64 a0_2] 24 (0, 0)) (by (with_reducible repeat (first | refine blk_drewN ?_ _ | refine blk_drew ?_ | refine blk_alloc ?_ _)); exact BK104.out) hb); have n1_ := Aside0.mk (below_step (by repeat (first | (with_reducible first | exact HB.out | apply below_alloc | apply pw_below_drewN | apply below_drew1 | refine below_set ?_ GE104.out) | exact HB.out)) hb); have n2_ := Aside0.mk (hbox); have n3_ := Aside0.mk ((by rw [hg]; exact (below_size (by repeat (first | (with_reducible first | exact HB.out | apply below_alloc | apply pw_below_drewN | apply below_drew1 | refine below_set ?_ GE104.out) | exact HB.out))) : w.heap.size ≤ gb111)); have n4_ := Aside0.mk ((by rw [hg]; exact (below_size (by repeat (first | (with_reducible first | exact HB.out | apply below_alloc | apply pw_below_drewN | apply below_drew1 | refine below_set ?_ GE104.out) | exact HB.out))) : w.heap.size ≤ gb111)); have n5_ := Aside0.mk ((by rw [hg]; exact Nat.ne_of_lt (blk_lt (g := gb104) (o := .cells #[.slice (some ad110) l0_0.length c0_0, .int .i64 a0_1, .int .i64 a0_2] 24 (0, 0)) (by (with_reducible repeat (first | refine blk_drewN ?_ _ | refine blk_drew ?_ | refine blk_alloc ?_ _)); exact BK104.out)) : gb104 ≠ gb111)); have n6_ := Aside0.mk ((by rw [hg]; exact Nat.ne_of_gt (blk_lt (g := gb104) (o := .cells #[.slice (some ad110) l0_0.length c0_0, .int .i64 a0_1, .int .i64 a0_2] 24 (0, 0)) (by (with_reducible repeat (first | refine blk_drewN ?_ _ | refine blk_drew ?_ | refine blk_alloc ?_ _)); exact BK104.out)) : gb111 ≠ gb104)); clear BK104; clear HB; have BK104 := n0_; have HB := n1_; have BK111 := n2_; have GW111 := n3_; have GE111 := n4_; have NB104_111 := n5_; have NB111_104 := n6_; clear n0_ n1_ n2_ n3_ n4_ n5_ n6_; clear hb hbox hg; have hnb37 := NB111_104.out; have hnc37 := NB104_111.out; have hcz38_0 : w36.cell? ⟨gb111, 0, none⟩ = some (.string (⟨#[]⟩ : ByteArray)) := (blk_cell BK111.out 0).trans rfl; have hcz38_1 : w36.cell? ⟨gb111, 1, none⟩ = some (.int .i64 0) := (blk_cell BK111.out 1).trans rfl; have hcz38_2 : w36.cell? ⟨gb111, 2, none⟩ = some (.int .i64 0) := (blk_cell BK111.out 2).trans rfl; have hcz38_3 : w36.cell? ⟨gb111, 3, none⟩ = some (.int .i64 0) := (blk_cell BK111.out 3).trans rfl; have hfz38_0 := blk_frozen BK111.out 0; have hfz38_1 := blk_frozen BK111.out 1; have hfz38_2 := blk_frozen BK111.out 2; have hfz38_3 := blk_frozen BK111.out 3))
             (try simp only [Act.put, List.setIfInBounds_toArray, List.set_cons_zero, List.set_cons_succ])
             go_cut [71] (fun v71 wc => ∃ (kq : Nat) (x71_34 : Bool), v71 = .bool x71_34 ∧ Aside0 (queue_Check.j3 kq l0_0 (l0_0.length : Int) x46_3 x71_34 l0_0 a0_1 a0_2 ((rd_T42 l0_0 x46_3).f0) ((rd_T42 l0_0 x46_3).f1) ((rd_T42 l0_0 x46_3).f2) ((rd_T42 l0_0 x46_3).f3) = some r) ∧ Aside0 (kq ≤ k3) ∧ Aside0 (wc.heap[gb104]? = some (.cells #[(.slice (some ad110) l0_0.length c0_0), .int .i64 a0_1, .int .i64 a0_2] 24 (0, 0))) ∧ Aside0 (wc.heap[gb111]? = some (.cells #[.string ((rd_T42 l0_0 x46_3).f0), .int .i64 ((rd_T42 l0_0 x46_3).f1), .int .i64 ((rd_T42 l0_0 x46_3).f2), .int .i64 ((rd_T42 l0_0 x46_3).f3)] 42 (0, 0))) ∧ Aside0 (Below w.heap.size w wc))
             case first =>
              have H := HC35.out
              clear HC35
              replace H := Option.bind_eq_some_iff.mp H
              obtain ⟨t112, A390, H⟩ := H
              replace H : (if t112 = true then ((queue_in.f ((rd_T42 l0_0 x46_3).f1) 1 100).bind fun t113 => (if t113 = true then ((queue_in.f ((rd_T42 l0_0 x46_3).f2) 0 1000000).bind fun t114 => (if t114 = true then ((queue_in.f ((rd_T42 l0_0 x46_3).f3) 0 1000).bind fun t115 => (queue_Check.j3 k3 l0_0 (l0_0.length : Int) x46_3 (!t115) l0_0 a0_1 a0_2 ((rd_T42 l0_0 x46_3).f0) ((rd_T42 l0_0 x46_3).f1) ((rd_T42 l0_0 x46_3).f2) ((rd_T42 l0_0 x46_3).f3))) else (queue_Check.j3 k3 l0_0 (l0_0.length : Int) x46_3 true l0_0 a0_1 a0_2 ((rd_T42 l0_0 x46_3).f0) ((rd_T42 l0_0 x46_3).f1) ((rd_T42 l0_0 x46_3).f2) ((rd_T42 l0_0 x46_3).f3)))) else (queue_Check.j3 k3 l0_0 (l0_0.length : Int) x46_3 true l0_0 a0_1 a0_2 ((rd_T42 l0_0 x46_3).f0) ((rd_T42 l0_0 x46_3).f1) ((rd_T42 l0_0 x46_3).f2) ((rd_T42 l0_0 x46_3).f3)))) else (queue_Check.j3 k3 l0_0 (l0_0.length : Int) x46_3 true l0_0 a0_1 a0_2 ((rd_T42 l0_0 x46_3).f0) ((rd_T42 l0_0 x46_3).f1) ((rd_T42 l0_0 x46_3).f2) ((rd_T42 l0_0 x46_3).f3))) = some r := H
              have A39 := Aside0.mk A390
              clear A390
              by_cases c40 : t112 = true
              ·subst c40
               have H1 : ((queue_in.f ((rd_T42 l0_0 x46_3).f1) 1 100).bind fun t113 => (if t113 = true then ((queue_in.f ((rd_T42 l0_0 x46_3).f2) 0 1000000).bind fun t114 => (if t114 = true then ((queue_in.f ((rd_T42 l0_0 x46_3).f3) 0 1000).bind fun t115 => (queue_Check.j3 k3 l0_0 (l0_0.length : Int) x46_3 (!t115) l0_0 a0_1 a0_2 ((rd_T42 l0_0 x46_3).f0) ((rd_T42 l0_0 x46_3).f1) ((rd_T42 l0_0 x46_3).f2) ((rd_T42 l0_0 x46_3).f3))) else (queue_Check.j3 k3 l0_0 (l0_0.length : Int) x46_3 true l0_0 a0_1 a0_2 ((rd_T42 l0_0 x46_3).f0) ((rd_T42 l0_0 x46_3).f1) ((rd_T42 l0_0 x46_3).f2) ((rd_T42 l0_0 x46_3).f3)))) else (queue_Check.j3 k3 l0_0 (l0_0.length : Int) x46_3 true l0_0 a0_1 a0_2 ((rd_T42 l0_0 x46_3).f0) ((rd_T42 l0_0 x46_3).f1) ((rd_T42 l0_0 x46_3).f2) ((rd_T42 l0_0 x46_3).f3)))) = some r := by first | (with_reducible rfl) | (rw [if_pos rfl] at H; exact H)
               clear H
               have H := H1
               clear H1
               replace H := Option.bind_eq_some_iff.mp H
               obtain ⟨t113, A410, H⟩ := H
               replace H : (if t113 = true then ((queue_in.f ((rd_T42 l0_0 x46_3).f2) 0 1000000).bind fun t114 => (if t114 = true then ((queue_in.f ((rd_T42 l0_0 x46_3).f3) 0 1000).bind fun t115 => (queue_Check.j3 k3 l0_0 (l0_0.length : Int) x46_3 (!t115) l0_0 a0_1 a0_2 ((rd_T42 l0_0 x46_3).f0) ((rd_T42 l0_0 x46_3).f1) ((rd_T42 l0_0 x46_3).f2) ((rd_T42 l0_0 x46_3).f3))) else (queue_Check.j3 k3 l0_0 (l0_0.length : Int) x46_3 true l0_0 a0_1 a0_2 ((rd_T42 l0_0 x46_3).f0) ((rd_T42 l0_0 x46_3).f1) ((rd_T42 l0_0 x46_3).f2) ((rd_T42 l0_0 x46_3).f3)))) else (queue_Check.j3 k3 l0_0 (l0_0.length : Int) x46_3 true l0_0 a0_1 a0_2 ((rd_T42 l0_0 x46_3).f0) ((rd_T42 l0_0 x46_3).f1) ((rd_T42 l0_0 x46_3).f2) ((rd_T42 l0_0 x46_3).f3))) = some r := H
               have A41 := Aside0.mk A410
               clear A410
               by_cases c42 : t113 = true
               ·subst c42
                have H1 : ((queue_in.f ((rd_T42 l0_0 x46_3).f2) 0 1000000).bind fun t114 => (if t114 = true then ((queue_in.f ((rd_T42 l0_0 x46_3).f3) 0 1000).bind fun t115 => (queue_Check.j3 k3 l0_0 (l0_0.length : Int) x46_3 (!t115) l0_0 a0_1 a0_2 ((rd_T42 l0_0 x46_3).f0) ((rd_T42 l0_0 x46_3).f1) ((rd_T42 l0_0 x46_3).f2) ((rd_T42 l0_0 x46_3).f3))) else (queue_Check.j3 k3 l0_0 (l0_0.length : Int) x46_3 true l0_0 a0_1 a0_2 ((rd_T42 l0_0 x46_3).f0) ((rd_T42 l0_0 x46_3).f1) ((rd_T42 l0_0 x46_3).f2) ((rd_T42 l0_0 x46_3).f3)))) = some r := by first | (with_reducible rfl) | (rw [if_pos rfl] at H; exact H)
                clear H
                have H := H1
                clear H1
                replace H := Option.bind_eq_some_iff.mp H
                obtain ⟨t114, A430, H⟩ := H
                replace H : (if t114 = true then ((queue_in.f ((rd_T42 l0_0 x46_3).f3) 0 1000).bind fun t115 => (queue_Check.j3 k3 l0_0 (l0_0.length : Int) x46_3 (!t115) l0_0 a0_1 a0_2 ((rd_T42 l0_0 x46_3).f0) ((rd_T42 l0_0 x46_3).f1) ((rd_T42 l0_0 x46_3).f2) ((rd_T42 l0_0 x46_3).f3))) else (queue_Check.j3 k3 l0_0 (l0_0.length : Int) x46_3 true l0_0 a0_1 a0_2 ((rd_T42 l0_0 x46_3).f0) ((rd_T42 l0_0 x46_3).f1) ((rd_T42 l0_0 x46_3).f2) ((rd_T42 l0_0 x46_3).f3))) = some r := H
                have A43 := Aside0.mk A430
                clear A430
                by_cases c44 : t114 = true
                ·subst c44
                 have H1 : ((queue_in.f ((rd_T42 l0_0 x46_3).f3) 0 1000).bind fun t115 => (queue_Check.j3 k3 l0_0 (l0_0.length : Int) x46_3 (!t115) l0_0 a0_1 a0_2 ((rd_T42 l0_0 x46_3).f0) ((rd_T42 l0_0 x46_3).f1) ((rd_T42 l0_0 x46_3).f2) ((rd_T42 l0_0 x46_3).f3))) = some r := by first | (with_reducible rfl) | (rw [if_pos rfl] at H; exact H)
                 clear H
                 have H := H1
                 clear H1
                 replace H := Option.bind_eq_some_iff.mp H
                 obtain ⟨t115, A450, H⟩ := H
                 replace H : (queue_Check.j3 k3 l0_0 (l0_0.length : Int) x46_3 (!t115) l0_0 a0_1 a0_2 ((rd_T42 l0_0 x46_3).f0) ((rd_T42 l0_0 x46_3).f1) ((rd_T42 l0_0 x46_3).f2) ((rd_T42 l0_0 x46_3).f3)) = some r := H
                 have A45 := Aside0.mk A450
                 clear A450
                 have H' := Aside0.mk H
                 clear H
                 have hnb46 := NB111_104.out
                 have hnc46 := NB104_111.out
                 have hcz47_0 : w36.cell? ⟨gb111, 0, none⟩ = some (.string (⟨#[]⟩ : ByteArray)) := (blk_cell BK111.out 0).trans rfl
                 have hcz47_1 : w36.cell? ⟨gb111, 1, none⟩ = some (.int .i64 0) := (blk_cell BK111.out 1).trans rfl
                 have hcz47_2 : w36.cell? ⟨gb111, 2, none⟩ = some (.int .i64 0) := (blk_cell BK111.out 2).trans rfl
                 have hcz47_3 : w36.cell? ⟨gb111, 3, none⟩ = some (.int .i64 0) := (blk_cell BK111.out 3).trans rfl
                 have hfz47_0 := blk_frozen BK111.out 0
                 have hfz47_1 := blk_frozen BK111.out 1
                 have hfz47_2 := blk_frozen BK111.out 2
                 have hfz47_3 := blk_frozen BK111.out 3
                 go_wp2_with (first | ((with_reducible refine gate_callee (f := 57) rfl ?_); refine goesL_ (some 52) rfl rfl Try.func57 (by kernel_rfl) rfl #[.string ((rd_T42 l0_0 x46_3).f0)] rfl (by (try simp only [List.map_toArray, List.map_cons, List.map_nil]); first | done | rfl | (simp only [List.length_drop, List.length_take]; rfl)) ?_; (with_reducible refine (queue_name.calls ((rd_T42 l0_0 x46_3).f0) true _ A39.out).mono ?_); rintro e w48 ⟨rfl, hb⟩; refine ⟨_, rfl, ?_⟩; have n0_ := Aside0.mk (blk_below (g := gb104) (o := .cells #[.slice (some ad110) l0_0.length c0_0, .int .i64 a0_1, .int .i64 a0_2] 24 (0, 0)) (by (with_reducible repeat (first | refine blk_drewN ?_ _ | refine blk_drew ?_ | refine blk_alloc ?_ _)); refine blk_far ?_ NB104_111.out _; (with_reducible repeat (first | refine blk_drewN ?_ _ | refine blk_drew ?_ | refine blk_alloc ?_ _)); refine blk_far ?_ NB104_111.out _; (with_reducible repeat (first | refine blk_drewN ?_ _ | refine blk_drew ?_ | refine blk_alloc ?_ _)); refine blk_far ?_ NB104_111.out _; (with_reducible repeat (first | refine blk_drewN ?_ _ | refine blk_drew ?_ | refine blk_alloc ?_ _)); refine blk_far ?_ NB104_111.out _; (with_reducible repeat (first | refine blk_drewN ?_ _ | refine blk_drew ?_ | refine blk_alloc ?_ _)); exact BK104.out) hb); have n1_ := Aside0.mk (blk_below (g := gb111) (o := .cells #[.string ((rd_T42 l0_0 x46_3).f0), .int .i64 ((rd_T42 l0_0 x46_3).f1), .int .i64 ((rd_T42 l0_0 x46_3).f2), .int .i64 ((rd_T42 l0_0 x46_3).f3)] 42 (0, 0)) (by (with_reducible repeat (first | refine blk_drewN ?_ _ | refine blk_drew ?_ | refine blk_alloc ?_ _)); refine blk_put (cs := #[.string ((rd_T42 l0_0 x46_3).f0), .int .i64 ((rd_T42 l0_0 x46_3).f1), .int .i64 ((rd_T42 l0_0 x46_3).f2), .int .i64 0]) ?_ 3 _ rfl; (with_reducible repeat (first | refine blk_drewN ?_ _ | refine blk_drew ?_ | refine blk_alloc ?_ _)); refine blk_put (cs := #[.string ((rd_T42 l0_0 x46_3).f0), .int .i64 ((rd_T42 l0_0 x46_3).f1), .int .i64 0, .int .i64 0]) ?_ 2 _ rfl; (with_reducible repeat (first | refine blk_drewN ?_ _ | refine blk_drew ?_ | refine blk_alloc ?_ _)); refine blk_put (cs := #[.string ((rd_T42 l0_0 x46_3).f0), .int .i64 0, .int .i64 0, .int .i64 0]) ?_ 1 _ rfl; (with_reducible repeat (first | refine blk_drewN ?_ _ | refine blk_drew ?_ | refine blk_alloc ?_ _)); refine blk_put (cs := #[.string (⟨#[]⟩ : ByteArray), .int .i64 0, .int .i64 0, .int .i64 0]) ?_ 0 _ rfl; (with_reducible repeat (first | refine blk_drewN ?_ _ | refine blk_drew ?_ | refine blk_alloc ?_ _)); exact BK111.out) hb); have n2_ := Aside0.mk (below_step (by repeat (first | (with_reducible first | exact HB.out | apply below_alloc | apply pw_below_drewN | apply below_drew1 | refine below_set ?_ GE104.out | refine below_set ?_ GE111.out) | exact HB.out)) hb); clear BK104; clear BK111; clear HB; have BK104 := n0_; have BK111 := n1_; have HB := n2_; clear n0_ n1_ n2_; (try clear hb); (try clear hb2); (try clear hk); (try clear hi); have hcz49_0 : w48.cell? ⟨gb111, 0, none⟩ = some (.string ((rd_T42 l0_0 x46_3).f0)) := (blk_cell BK111.out 0).trans rfl; have hcz49_1 : w48.cell? ⟨gb111, 1, none⟩ = some (.int .i64 ((rd_T42 l0_0 x46_3).f1)) := (blk_cell BK111.out 1).trans rfl; have hcz49_2 : w48.cell? ⟨gb111, 2, none⟩ = some (.int .i64 ((rd_T42 l0_0 x46_3).f2)) := (blk_cell BK111.out 2).trans rfl; have hcz49_3 : w48.cell? ⟨gb111, 3, none⟩ = some (.int .i64 ((rd_T42 l0_0 x46_3).f3)) := (blk_cell BK111.out 3).trans rfl; have hfz49_0 := blk_frozen BK111.out 0; have hfz49_1 := blk_frozen BK111.out 1; have hfz49_2 := blk_frozen BK111.out 2; have hfz49_3 := blk_frozen BK111.out 3) | (go_at_call 53; (with_reducible refine (queue_in.calls ((rd_T42 l0_0 x46_3).f1) 1 100 true _ A41.out).mono ?_); rintro e w' ⟨rfl, ⟨nd, rfl⟩⟩) | (go_at_call 53; (with_reducible refine (queue_in.calls ((rd_T42 l0_0 x46_3).f2) 0 1000000 true _ A43.out).mono ?_); rintro e w' ⟨rfl, ⟨nd, rfl⟩⟩) | (go_at_call 53; (with_reducible refine (queue_in.calls ((rd_T42 l0_0 x46_3).f3) 0 1000 t115 _ A45.out).mono ?_); rintro e w' ⟨rfl, ⟨nd, rfl⟩⟩))
                 go_meet
                 case rel => exact ⟨_, (!t115), (by first | rfl | (simp; done) | (simp [*]; done)), H', ⟨by have := HK1.out; have := HJ21.out; have := HK3.out; first | omega | exact Nat.le_refl _⟩, ⟨by (with_reducible repeat (first | refine blk_drewN ?_ _ | refine blk_drew ?_ | refine blk_alloc ?_ _)); exact BK104.out⟩, ⟨by (with_reducible repeat (first | refine blk_drewN ?_ _ | refine blk_drew ?_ | refine blk_alloc ?_ _)); exact BK111.out⟩, ⟨by repeat (first | (with_reducible first | exact HB.out | apply below_alloc | apply pw_below_drewN | apply below_drew1 | refine below_set ?_ GE104.out | refine below_set ?_ GE111.out) | exact HB.out)⟩⟩
                ·replace c44 := Bool.eq_false_iff.mpr c44
                 subst c44
                 have H1 : (queue_Check.j3 k3 l0_0 (l0_0.length : Int) x46_3 true l0_0 a0_1 a0_2 ((rd_T42 l0_0 x46_3).f0) ((rd_T42 l0_0 x46_3).f1) ((rd_T42 l0_0 x46_3).f2) ((rd_T42 l0_0 x46_3).f3)) = some r := by first | (with_reducible rfl) | (rw [if_neg (show ¬ (false = true) by decide)] at H; exact H)
                 clear H
                 have H := H1
                 clear H1
                 have H' := Aside0.mk H
                 clear H
                 have hnb50 := NB111_104.out
                 have hnc50 := NB104_111.out
                 have hcz51_0 : w36.cell? ⟨gb111, 0, none⟩ = some (.string (⟨#[]⟩ : ByteArray)) := (blk_cell BK111.out 0).trans rfl
                 have hcz51_1 : w36.cell? ⟨gb111, 1, none⟩ = some (.int .i64 0) := (blk_cell BK111.out 1).trans rfl
                 have hcz51_2 : w36.cell? ⟨gb111, 2, none⟩ = some (.int .i64 0) := (blk_cell BK111.out 2).trans rfl
                 have hcz51_3 : w36.cell? ⟨gb111, 3, none⟩ = some (.int .i64 0) := (blk_cell BK111.out 3).trans rfl
                 have hfz51_0 := blk_frozen BK111.out 0
                 have hfz51_1 := blk_frozen BK111.out 1
                 have hfz51_2 := blk_frozen BK111.out 2
                 have hfz51_3 := blk_frozen BK111.out 3
                 go_wp2_with (first | ((with_reducible refine gate_callee (f := 57) rfl ?_); refine goesL_ (some 52) rfl rfl Try.func57 (by kernel_rfl) rfl #[.string ((rd_T42 l0_0 x46_3).f0)] rfl (by (try simp only [List.map_toArray, List.map_cons, List.map_nil]); first | done | rfl | (simp only [List.length_drop, List.length_take]; rfl)) ?_; (with_reducible refine (queue_name.calls ((rd_T42 l0_0 x46_3).f0) true _ A39.out).mono ?_); rintro e w52 ⟨rfl, hb⟩; refine ⟨_, rfl, ?_⟩; have n0_ := Aside0.mk (blk_below (g := gb104) (o := .cells #[.slice (some ad110) l0_0.length c0_0, .int .i64 a0_1, .int .i64 a0_2] 24 (0, 0)) (by (with_reducible repeat (first | refine blk_drewN ?_ _ | refine blk_drew ?_ | refine blk_alloc ?_ _)); refine blk_far ?_ NB104_111.out _; (with_reducible repeat (first | refine blk_drewN ?_ _ | refine blk_drew ?_ | refine blk_alloc ?_ _)); refine blk_far ?_ NB104_111.out _; (with_reducible repeat (first | refine blk_drewN ?_ _ | refine blk_drew ?_ | refine blk_alloc ?_ _)); refine blk_far ?_ NB104_111.out _; (with_reducible repeat (first | refine blk_drewN ?_ _ | refine blk_drew ?_ | refine blk_alloc ?_ _)); refine blk_far ?_ NB104_111.out _; (with_reducible repeat (first | refine blk_drewN ?_ _ | refine blk_drew ?_ | refine blk_alloc ?_ _)); exact BK104.out) hb); have n1_ := Aside0.mk (blk_below (g := gb111) (o := .cells #[.string ((rd_T42 l0_0 x46_3).f0), .int .i64 ((rd_T42 l0_0 x46_3).f1), .int .i64 ((rd_T42 l0_0 x46_3).f2), .int .i64 ((rd_T42 l0_0 x46_3).f3)] 42 (0, 0)) (by (with_reducible repeat (first | refine blk_drewN ?_ _ | refine blk_drew ?_ | refine blk_alloc ?_ _)); refine blk_put (cs := #[.string ((rd_T42 l0_0 x46_3).f0), .int .i64 ((rd_T42 l0_0 x46_3).f1), .int .i64 ((rd_T42 l0_0 x46_3).f2), .int .i64 0]) ?_ 3 _ rfl; (with_reducible repeat (first | refine blk_drewN ?_ _ | refine blk_drew ?_ | refine blk_alloc ?_ _)); refine blk_put (cs := #[.string ((rd_T42 l0_0 x46_3).f0), .int .i64 ((rd_T42 l0_0 x46_3).f1), .int .i64 0, .int .i64 0]) ?_ 2 _ rfl; (with_reducible repeat (first | refine blk_drewN ?_ _ | refine blk_drew ?_ | refine blk_alloc ?_ _)); refine blk_put (cs := #[.string ((rd_T42 l0_0 x46_3).f0), .int .i64 0, .int .i64 0, .int .i64 0]) ?_ 1 _ rfl; (with_reducible repeat (first | refine blk_drewN ?_ _ | refine blk_drew ?_ | refine blk_alloc ?_ _)); refine blk_put (cs := #[.string (⟨#[]⟩ : ByteArray), .int .i64 0, .int .i64 0, .int .i64 0]) ?_ 0 _ rfl; (with_reducible repeat (first | refine blk_drewN ?_ _ | refine blk_drew ?_ | refine blk_alloc ?_ _)); exact BK111.out) hb); have n2_ := Aside0.mk (below_step (by repeat (first | (with_reducible first | exact HB.out | apply below_alloc | apply pw_below_drewN | apply below_drew1 | refine below_set ?_ GE104.out | refine below_set ?_ GE111.out) | exact HB.out)) hb); clear BK104; clear BK111; clear HB; have BK104 := n0_; have BK111 := n1_; have HB := n2_; clear n0_ n1_ n2_; (try clear hb); (try clear hb2); (try clear hk); (try clear hi); have hcz53_0 : w52.cell? ⟨gb111, 0, none⟩ = some (.string ((rd_T42 l0_0 x46_3).f0)) := (blk_cell BK111.out 0).trans rfl; have hcz53_1 : w52.cell? ⟨gb111, 1, none⟩ = some (.int .i64 ((rd_T42 l0_0 x46_3).f1)) := (blk_cell BK111.out 1).trans rfl; have hcz53_2 : w52.cell? ⟨gb111, 2, none⟩ = some (.int .i64 ((rd_T42 l0_0 x46_3).f2)) := (blk_cell BK111.out 2).trans rfl; have hcz53_3 : w52.cell? ⟨gb111, 3, none⟩ = some (.int .i64 ((rd_T42 l0_0 x46_3).f3)) := (blk_cell BK111.out 3).trans rfl; have hfz53_0 := blk_frozen BK111.out 0; have hfz53_1 := blk_frozen BK111.out 1; have hfz53_2 := blk_frozen BK111.out 2; have hfz53_3 := blk_frozen BK111.out 3) | (go_at_call 53; (with_reducible refine (queue_in.calls ((rd_T42 l0_0 x46_3).f1) 1 100 true _ A41.out).mono ?_); rintro e w' ⟨rfl, ⟨nd, rfl⟩⟩) | (go_at_call 53; (with_reducible refine (queue_in.calls ((rd_T42 l0_0 x46_3).f2) 0 1000000 false _ A43.out).mono ?_); rintro e w' ⟨rfl, ⟨nd, rfl⟩⟩))
                 go_meet
                 case rel => exact ⟨_, (true), (by first | rfl | (simp; done) | (simp [*]; done)), H', ⟨by have := HK1.out; have := HJ21.out; have := HK3.out; first | omega | exact Nat.le_refl _⟩, ⟨by (with_reducible repeat (first | refine blk_drewN ?_ _ | refine blk_drew ?_ | refine blk_alloc ?_ _)); exact BK104.out⟩, ⟨by (with_reducible repeat (first | refine blk_drewN ?_ _ | refine blk_drew ?_ | refine blk_alloc ?_ _)); exact BK111.out⟩, ⟨by repeat (first | (with_reducible first | exact HB.out | apply below_alloc | apply pw_below_drewN | apply below_drew1 | refine below_set ?_ GE104.out | refine below_set ?_ GE111.out) | exact HB.out)⟩⟩
               ·replace c42 := Bool.eq_false_iff.mpr c42
                subst c42
                have H1 : (queue_Check.j3 k3 l0_0 (l0_0.length : Int) x46_3 true l0_0 a0_1 a0_2 ((rd_T42 l0_0 x46_3).f0) ((rd_T42 l0_0 x46_3).f1) ((rd_T42 l0_0 x46_3).f2) ((rd_T42 l0_0 x46_3).f3)) = some r := by first | (with_reducible rfl) | (rw [if_neg (show ¬ (false = true) by decide)] at H; exact H)
                clear H
                have H := H1
                clear H1
                have H' := Aside0.mk H
                clear H
                have hnb54 := NB111_104.out
                have hnc54 := NB104_111.out
                have hcz55_0 : w36.cell? ⟨gb111, 0, none⟩ = some (.string (⟨#[]⟩ : ByteArray)) := (blk_cell BK111.out 0).trans rfl
                have hcz55_1 : w36.cell? ⟨gb111, 1, none⟩ = some (.int .i64 0) := (blk_cell BK111.out 1).trans rfl
                have hcz55_2 : w36.cell? ⟨gb111, 2, none⟩ = some (.int .i64 0) := (blk_cell BK111.out 2).trans rfl
                have hcz55_3 : w36.cell? ⟨gb111, 3, none⟩ = some (.int .i64 0) := (blk_cell BK111.out 3).trans rfl
                have hfz55_0 := blk_frozen BK111.out 0
                have hfz55_1 := blk_frozen BK111.out 1
                have hfz55_2 := blk_frozen BK111.out 2
                have hfz55_3 := blk_frozen BK111.out 3
                go_wp2_with (first | ((with_reducible refine gate_callee (f := 57) rfl ?_); refine goesL_ (some 52) rfl rfl Try.func57 (by kernel_rfl) rfl #[.string ((rd_T42 l0_0 x46_3).f0)] rfl (by (try simp only [List.map_toArray, List.map_cons, List.map_nil]); first | done | rfl | (simp only [List.length_drop, List.length_take]; rfl)) ?_; (with_reducible refine (queue_name.calls ((rd_T42 l0_0 x46_3).f0) true _ A39.out).mono ?_); rintro e w56 ⟨rfl, hb⟩; refine ⟨_, rfl, ?_⟩; have n0_ := Aside0.mk (blk_below (g := gb104) (o := .cells #[.slice (some ad110) l0_0.length c0_0, .int .i64 a0_1, .int .i64 a0_2] 24 (0, 0)) (by (with_reducible repeat (first | refine blk_drewN ?_ _ | refine blk_drew ?_ | refine blk_alloc ?_ _)); refine blk_far ?_ NB104_111.out _; (with_reducible repeat (first | refine blk_drewN ?_ _ | refine blk_drew ?_ | refine blk_alloc ?_ _)); refine blk_far ?_ NB104_111.out _; (with_reducible repeat (first | refine blk_drewN ?_ _ | refine blk_drew ?_ | refine blk_alloc ?_ _)); refine blk_far ?_ NB104_111.out _; (with_reducible repeat (first | refine blk_drewN ?_ _ | refine blk_drew ?_ | refine blk_alloc ?_ _)); refine blk_far ?_ NB104_111.out _; (with_reducible repeat (first | refine blk_drewN ?_ _ | refine blk_drew ?_ | refine blk_alloc ?_ _)); exact BK104.out) hb); have n1_ := Aside0.mk (blk_below (g := gb111) (o := .cells #[.string ((rd_T42 l0_0 x46_3).f0), .int .i64 ((rd_T42 l0_0 x46_3).f1), .int .i64 ((rd_T42 l0_0 x46_3).f2), .int .i64 ((rd_T42 l0_0 x46_3).f3)] 42 (0, 0)) (by (with_reducible repeat (first | refine blk_drewN ?_ _ | refine blk_drew ?_ | refine blk_alloc ?_ _)); refine blk_put (cs := #[.string ((rd_T42 l0_0 x46_3).f0), .int .i64 ((rd_T42 l0_0 x46_3).f1), .int .i64 ((rd_T42 l0_0 x46_3).f2), .int .i64 0]) ?_ 3 _ rfl; (with_reducible repeat (first | refine blk_drewN ?_ _ | refine blk_drew ?_ | refine blk_alloc ?_ _)); refine blk_put (cs := #[.string ((rd_T42 l0_0 x46_3).f0), .int .i64 ((rd_T42 l0_0 x46_3).f1), .int .i64 0, .int .i64 0]) ?_ 2 _ rfl; (with_reducible repeat (first | refine blk_drewN ?_ _ | refine blk_drew ?_ | refine blk_alloc ?_ _)); refine blk_put (cs := #[.string ((rd_T42 l0_0 x46_3).f0), .int .i64 0, .int .i64 0, .int .i64 0]) ?_ 1 _ rfl; (with_reducible repeat (first | refine blk_drewN ?_ _ | refine blk_drew ?_ | refine blk_alloc ?_ _)); refine blk_put (cs := #[.string (⟨#[]⟩ : ByteArray), .int .i64 0, .int .i64 0, .int .i64 0]) ?_ 0 _ rfl; (with_reducible repeat (first | refine blk_drewN ?_ _ | refine blk_drew ?_ | refine blk_alloc ?_ _)); exact BK111.out) hb); have n2_ := Aside0.mk (below_step (by repeat (first | (with_reducible first | exact HB.out | apply below_alloc | apply pw_below_drewN | apply below_drew1 | refine below_set ?_ GE104.out | refine below_set ?_ GE111.out) | exact HB.out)) hb); clear BK104; clear BK111; clear HB; have BK104 := n0_; have BK111 := n1_; have HB := n2_; clear n0_ n1_ n2_; (try clear hb); (try clear hb2); (try clear hk); (try clear hi); have hcz57_0 : w56.cell? ⟨gb111, 0, none⟩ = some (.string ((rd_T42 l0_0 x46_3).f0)) := (blk_cell BK111.out 0).trans rfl; have hcz57_1 : w56.cell? ⟨gb111, 1, none⟩ = some (.int .i64 ((rd_T42 l0_0 x46_3).f1)) := (blk_cell BK111.out 1).trans rfl; have hcz57_2 : w56.cell? ⟨gb111, 2, none⟩ = some (.int .i64 ((rd_T42 l0_0 x46_3).f2)) := (blk_cell BK111.out 2).trans rfl; have hcz57_3 : w56.cell? ⟨gb111, 3, none⟩ = some (.int .i64 ((rd_T42 l0_0 x46_3).f3)) := (blk_cell BK111.out 3).trans rfl; have hfz57_0 := blk_frozen BK111.out 0; have hfz57_1 := blk_frozen BK111.out 1; have hfz57_2 := blk_frozen BK111.out 2; have hfz57_3 := blk_frozen BK111.out 3) | (go_at_call 53; (with_reducible refine (queue_in.calls ((rd_T42 l0_0 x46_3).f1) 1 100 false _ A41.out).mono ?_); rintro e w' ⟨rfl, ⟨nd, rfl⟩⟩))
                go_meet
                case rel => exact ⟨_, (true), (by first | rfl | (simp; done) | (simp [*]; done)), H', ⟨by have := HK1.out; have := HJ21.out; have := HK3.out; first | omega | exact Nat.le_refl _⟩, ⟨by (with_reducible repeat (first | refine blk_drewN ?_ _ | refine blk_drew ?_ | refine blk_alloc ?_ _)); exact BK104.out⟩, ⟨by (with_reducible repeat (first | refine blk_drewN ?_ _ | refine blk_drew ?_ | refine blk_alloc ?_ _)); exact BK111.out⟩, ⟨by repeat (first | (with_reducible first | exact HB.out | apply below_alloc | apply pw_below_drewN | apply below_drew1 | refine below_set ?_ GE104.out | refine below_set ?_ GE111.out) | exact HB.out)⟩⟩
              ·replace c40 := Bool.eq_false_iff.mpr c40
               subst c40
               have H1 : (queue_Check.j3 k3 l0_0 (l0_0.length : Int) x46_3 true l0_0 a0_1 a0_2 ((rd_T42 l0_0 x46_3).f0) ((rd_T42 l0_0 x46_3).f1) ((rd_T42 l0_0 x46_3).f2) ((rd_T42 l0_0 x46_3).f3)) = some r := by first | (with_reducible rfl) | (rw [if_neg (show ¬ (false = true) by decide)] at H; exact H)
               clear H
               have H := H1
               clear H1
               have H' := Aside0.mk H
               clear H
               have hnb58 := NB111_104.out
               have hnc58 := NB104_111.out
               have hcz59_0 : w36.cell? ⟨gb111, 0, none⟩ = some (.string (⟨#[]⟩ : ByteArray)) := (blk_cell BK111.out 0).trans rfl
               have hcz59_1 : w36.cell? ⟨gb111, 1, none⟩ = some (.int .i64 0) := (blk_cell BK111.out 1).trans rfl
               have hcz59_2 : w36.cell? ⟨gb111, 2, none⟩ = some (.int .i64 0) := (blk_cell BK111.out 2).trans rfl
               have hcz59_3 : w36.cell? ⟨gb111, 3, none⟩ = some (.int .i64 0) := (blk_cell BK111.out 3).trans rfl
               have hfz59_0 := blk_frozen BK111.out 0
               have hfz59_1 := blk_frozen BK111.out 1
               have hfz59_2 := blk_frozen BK111.out 2
               have hfz59_3 := blk_frozen BK111.out 3
               go_wp2_with (first | ((with_reducible refine gate_callee (f := 57) rfl ?_); refine goesL_ (some 52) rfl rfl Try.func57 (by kernel_rfl) rfl #[.string ((rd_T42 l0_0 x46_3).f0)] rfl (by (try simp only [List.map_toArray, List.map_cons, List.map_nil]); first | done | rfl | (simp only [List.length_drop, List.length_take]; rfl)) ?_; (with_reducible refine (queue_name.calls ((rd_T42 l0_0 x46_3).f0) false _ A39.out).mono ?_); rintro e w60 ⟨rfl, hb⟩; refine ⟨_, rfl, ?_⟩; have n0_ := Aside0.mk (blk_below (g := gb104) (o := .cells #[.slice (some ad110) l0_0.length c0_0, .int .i64 a0_1, .int .i64 a0_2] 24 (0, 0)) (by (with_reducible repeat (first | refine blk_drewN ?_ _ | refine blk_drew ?_ | refine blk_alloc ?_ _)); refine blk_far ?_ NB104_111.out _; (with_reducible repeat (first | refine blk_drewN ?_ _ | refine blk_drew ?_ | refine blk_alloc ?_ _)); refine blk_far ?_ NB104_111.out _; (with_reducible repeat (first | refine blk_drewN ?_ _ | refine blk_drew ?_ | refine blk_alloc ?_ _)); refine blk_far ?_ NB104_111.out _; (with_reducible repeat (first | refine blk_drewN ?_ _ | refine blk_drew ?_ | refine blk_alloc ?_ _)); refine blk_far ?_ NB104_111.out _; (with_reducible repeat (first | refine blk_drewN ?_ _ | refine blk_drew ?_ | refine blk_alloc ?_ _)); exact BK104.out) hb); have n1_ := Aside0.mk (blk_below (g := gb111) (o := .cells #[.string ((rd_T42 l0_0 x46_3).f0), .int .i64 ((rd_T42 l0_0 x46_3).f1), .int .i64 ((rd_T42 l0_0 x46_3).f2), .int .i64 ((rd_T42 l0_0 x46_3).f3)] 42 (0, 0)) (by (with_reducible repeat (first | refine blk_drewN ?_ _ | refine blk_drew ?_ | refine blk_alloc ?_ _)); refine blk_put (cs := #[.string ((rd_T42 l0_0 x46_3).f0), .int .i64 ((rd_T42 l0_0 x46_3).f1), .int .i64 ((rd_T42 l0_0 x46_3).f2), .int .i64 0]) ?_ 3 _ rfl; (with_reducible repeat (first | refine blk_drewN ?_ _ | refine blk_drew ?_ | refine blk_alloc ?_ _)); refine blk_put (cs := #[.string ((rd_T42 l0_0 x46_3).f0), .int .i64 ((rd_T42 l0_0 x46_3).f1), .int .i64 0, .int .i64 0]) ?_ 2 _ rfl; (with_reducible repeat (first | refine blk_drewN ?_ _ | refine blk_drew ?_ | refine blk_alloc ?_ _)); refine blk_put (cs := #[.string ((rd_T42 l0_0 x46_3).f0), .int .i64 0, .int .i64 0, .int .i64 0]) ?_ 1 _ rfl; (with_reducible repeat (first | refine blk_drewN ?_ _ | refine blk_drew ?_ | refine blk_alloc ?_ _)); refine blk_put (cs := #[.string (⟨#[]⟩ : ByteArray), .int .i64 0, .int .i64 0, .int .i64 0]) ?_ 0 _ rfl; (with_reducible repeat (first | refine blk_drewN ?_ _ | refine blk_drew ?_ | refine blk_alloc ?_ _)); exact BK111.out) hb); have n2_ := Aside0.mk (below_step (by repeat (first | (with_reducible first | exact HB.out | apply below_alloc | apply pw_below_drewN | apply below_drew1 | refine below_set ?_ GE104.out | refine below_set ?_ GE111.out) | exact HB.out)) hb); clear BK104; clear BK111; clear HB; have BK104 := n0_; have BK111 := n1_; have HB := n2_; clear n0_ n1_ n2_; (try clear hb); (try clear hb2); (try clear hk); (try clear hi)))
               go_meet
               case rel => exact ⟨_, (true), (by first | rfl | (simp; done) | (simp [*]; done)), H', ⟨by have := HK1.out; have := HJ21.out; have := HK3.out; first | omega | exact Nat.le_refl _⟩, ⟨by (with_reducible repeat (first | refine blk_drewN ?_ _ | refine blk_drew ?_ | refine blk_alloc ?_ _)); exact BK104.out⟩, ⟨by (with_reducible repeat (first | refine blk_drewN ?_ _ | refine blk_drew ?_ | refine blk_alloc ?_ _)); exact BK111.out⟩, ⟨by repeat (first | (with_reducible first | exact HB.out | apply below_alloc | apply pw_below_drewN | apply below_drew1 | refine below_set ?_ GE104.out | refine below_set ?_ GE111.out) | exact HB.out)⟩⟩
             case rest =>
              clear HC35
              try clear c1
              try clear p1
              try clear q1
              try clear hx1
              try clear c2
              try clear c2b0
              try clear c2b1
              try clear p2
              try clear c3
              try clear c4
              try clear c5
              try clear p6
              try clear c7
              try clear c7b0
              try clear c8
              try clear c8b0
              try clear c9
              try clear c9b0
              try clear p10
              try clear q10
              try clear hx10
              try clear c11
              try clear c11b0
              try clear c11b1
              try clear p11
              try clear q11
              try clear hx11
              try clear c13
              try clear c18
              try clear c23
              try clear c23b0
              try clear c23b1
              try clear c23b2
              try clear c26
              try clear c29
              try clear c30
              try clear c32
              try clear c32b0
              try clear c33
              try clear c33b0
              try clear c34
              try clear c34b0
              try clear c37
              try clear c40
              try clear c42
              try clear c44
              try clear c46
              try clear c50
              try clear c54
              try clear c56
              try clear c57
              try clear c58
              try clear hcz14_0
              try clear hcz14_1
              try clear hcz14_2
              try clear hcz14_3
              try clear hcz15_0
              try clear hcz15_1
              try clear hcz15_2
              try clear hcz19_0
              try clear hcz19_1
              try clear hcz19_2
              try clear hcz19_3
              try clear hcz20_0
              try clear hcz20_1
              try clear hcz20_2
              try clear hcz24_0
              try clear hcz24_1
              try clear hcz24_2
              try clear hcz28_0
              try clear hcz28_1
              try clear hcz28_2
              try clear hcz29_0
              try clear hcz29_1
              try clear hcz29_2
              try clear hcz31_0
              try clear hcz31_1
              try clear hcz31_2
              try clear hcz38_0
              try clear hcz38_1
              try clear hcz38_2
              try clear hcz38_3
              try clear hcz47_0
              try clear hcz47_1
              try clear hcz47_2
              try clear hcz47_3
              try clear hcz49_0
              try clear hcz49_1
              try clear hcz49_2
              try clear hcz49_3
              try clear hcz4_0
              try clear hcz4_1
              try clear hcz4_2
              try clear hcz51_0
              try clear hcz51_1
              try clear hcz51_2
              try clear hcz51_3
              try clear hcz53_0
              try clear hcz53_1
              try clear hcz53_2
              try clear hcz53_3
              try clear hcz55_0
              try clear hcz55_1
              try clear hcz55_2
              try clear hcz55_3
              try clear hcz57_0
              try clear hcz57_1
              try clear hcz57_2
              try clear hcz57_3
              try clear hcz59_0
              try clear hcz59_1
              try clear hcz59_2
              try clear hcz59_3
              try clear hcz6_0
              try clear hcz6_1
              try clear hcz6_2
              try clear hfz14_0
              try clear hfz14_1
              try clear hfz14_2
              try clear hfz14_3
              try clear hfz15_0
              try clear hfz15_1
              try clear hfz15_2
              try clear hfz19_0
              try clear hfz19_1
              try clear hfz19_2
              try clear hfz19_3
              try clear hfz20_0
              try clear hfz20_1
              try clear hfz20_2
              try clear hfz24_0
              try clear hfz24_1
              try clear hfz24_2
              try clear hfz28_0
              try clear hfz28_1
              try clear hfz28_2
              try clear hfz29_0
              try clear hfz29_1
              try clear hfz29_2
              try clear hfz31_0
              try clear hfz31_1
              try clear hfz31_2
              try clear hfz38_0
              try clear hfz38_1
              try clear hfz38_2
              try clear hfz38_3
              try clear hfz47_0
              try clear hfz47_1
              try clear hfz47_2
              try clear hfz47_3
              try clear hfz49_0
              try clear hfz49_1
              try clear hfz49_2
              try clear hfz49_3
              try clear hfz4_0
              try clear hfz4_1
              try clear hfz4_2
              try clear hfz51_0
              try clear hfz51_1
              try clear hfz51_2
              try clear hfz51_3
              try clear hfz53_0
              try clear hfz53_1
              try clear hfz53_2
              try clear hfz53_3
              try clear hfz55_0
              try clear hfz55_1
              try clear hfz55_2
              try clear hfz55_3
              try clear hfz57_0
              try clear hfz57_1
              try clear hfz57_2
              try clear hfz57_3
              try clear hfz59_0
              try clear hfz59_1
              try clear hfz59_2
              try clear hfz59_3
              try clear hfz6_0
              try clear hfz6_1
              try clear hfz6_2
              try clear hx105_0
              try clear hx105_1
              try clear hx105_2
              try clear hx105_3
              try clear hx110_0
              try clear hx110_1
              try clear hx110_2
              try clear hx110_3
              try clear p1
              try clear p10
              try clear p105
              try clear p110
              try clear p2
              try clear p6
              try clear q1
              try clear q10
              try clear q105
              try clear q110
              obtain ⟨kq, x71_34, rfl, HA, HJ34, BK104, BK111, HB⟩ := hcut
              cases kq with
              | zero => exact absurd HA.out (by simp [queue_Check.j3])
              | succ kj34 =>
               have H := HA.out
               clear HA
               simp only [queue_Check.j3] at H
               by_cases c61 : x71_34 = true
               ·subst c61
                have H1 : (some 8) = some r := by first | (with_reducible rfl) | (rw [if_pos rfl] at H; exact H)
                clear H
                have H := H1
                clear H1
                obtain rfl := Option.some.inj H
                go_wp2
                go_ret
                exact ⟨by first | rfl | (simp [errW_none, errW_some] <;> rfl) | (simp [*, errW_none, errW_some] <;> rfl), by repeat (first | (with_reducible first | exact HB.out | apply below_alloc | apply pw_below_drewN | apply below_drew1 | refine below_set ?_ GE104.out | refine below_set ?_ GE111.out) | exact HB.out)⟩
               ·replace c61 := Bool.eq_false_iff.mpr c61
                subst c61
                have H1 : (if (wrap64 (((rd_T42 l0_0 x46_3).f2) * a0_2)) > (wrap64 (a0_1 * ((rd_T42 l0_0 x46_3).f1))) then (some 8) else (if ((rd_T42 l0_0 x46_3).f3) > 0 then (if (wrap64 ((wrap64 (((rd_T42 l0_0 x46_3).f2) + 1)) * a0_2)) < (wrap64 (a0_1 * ((rd_T42 l0_0 x46_3).f1))) then (some 8) else (queue_Check.l1 kj34 l0_0 (l0_0.length : Int) (wrap64 (x46_3 + 1)) l0_0 a0_1 a0_2)) else (queue_Check.l1 kj34 l0_0 (l0_0.length : Int) (wrap64 (x46_3 + 1)) l0_0 a0_1 a0_2))) = some r := by first | (with_reducible rfl) | (rw [if_neg (show ¬ (false = true) by decide)] at H; exact H)
                clear H
                have H := H1
                clear H1
                by_cases c62 : (wrap64 (((rd_T42 l0_0 x46_3).f2) * a0_2)) > (wrap64 (a0_1 * ((rd_T42 l0_0 x46_3).f1)))
                ·rw [if_pos c62] at H
                 have c62b0 : decide ((wrap64 (a0_1 * ((rd_T42 l0_0 x46_3).f1))) < (wrap64 (((rd_T42 l0_0 x46_3).f2) * a0_2))) = true := decide_eq_true c62
                 clear c62
                 obtain rfl := Option.some.inj H
                 have hnb63 := NB104_111.out
                 have hnc63 := NB111_104.out
                 have hcz64_0 : wc.cell? ⟨gb104, 0, none⟩ = some (.slice (some ad110) l0_0.length c0_0) := (blk_cell BK104.out 0).trans rfl
                 have hcz64_1 : wc.cell? ⟨gb104, 1, none⟩ = some (.int .i64 a0_1) := (blk_cell BK104.out 1).trans rfl
                 have hcz64_2 : wc.cell? ⟨gb104, 2, none⟩ = some (.int .i64 a0_2) := (blk_cell BK104.out 2).trans rfl
                 have hfz64_0 := blk_frozen BK104.out 0
                 have hfz64_1 := blk_frozen BK104.out 1
                 have hfz64_2 := blk_frozen BK104.out 2
                 have hcz65_0 : wc.cell? ⟨gb111, 0, none⟩ = some (.string ((rd_T42 l0_0 x46_3).f0)) := (blk_cell BK111.out 0).trans rfl
                 have hcz65_1 : wc.cell? ⟨gb111, 1, none⟩ = some (.int .i64 ((rd_T42 l0_0 x46_3).f1)) := (blk_cell BK111.out 1).trans rfl
                 have hcz65_2 : wc.cell? ⟨gb111, 2, none⟩ = some (.int .i64 ((rd_T42 l0_0 x46_3).f2)) := (blk_cell BK111.out 2).trans rfl
                 have hcz65_3 : wc.cell? ⟨gb111, 3, none⟩ = some (.int .i64 ((rd_T42 l0_0 x46_3).f3)) := (blk_cell BK111.out 3).trans rfl
                 have hfz65_0 := blk_frozen BK111.out 0
                 have hfz65_1 := blk_frozen BK111.out 1
                 have hfz65_2 := blk_frozen BK111.out 2
                 have hfz65_3 := blk_frozen BK111.out 3
                 go_wp2
                 go_ret
                 exact ⟨by first | rfl | (simp [errW_none, errW_some] <;> rfl) | (simp [*, errW_none, errW_some] <;> rfl), by repeat (first | (with_reducible first | exact HB.out | apply below_alloc | apply pw_below_drewN | apply below_drew1 | refine below_set ?_ GE104.out | refine below_set ?_ GE111.out) | exact HB.out)⟩
                ·rw [if_neg c62] at H
                 have c62b0 : decide ((wrap64 (a0_1 * ((rd_T42 l0_0 x46_3).f1))) < (wrap64 (((rd_T42 l0_0 x46_3).f2) * a0_2))) = false := decide_eq_false c62
                 clear c62
                 by_cases c66 : ((rd_T42 l0_0 x46_3).f3) > 0
                 ·rw [if_pos c66] at H
                  have c66b0 : decide (0 < ((rd_T42 l0_0 x46_3).f3)) = true := decide_eq_true c66
                  clear c66
                  by_cases c67 : (wrap64 ((wrap64 (((rd_T42 l0_0 x46_3).f2) + 1)) * a0_2)) < (wrap64 (a0_1 * ((rd_T42 l0_0 x46_3).f1)))
                  ·rw [if_pos c67] at H
                   have c67b0 : decide ((wrap64 ((wrap64 (((rd_T42 l0_0 x46_3).f2) + 1)) * a0_2)) < (wrap64 (a0_1 * ((rd_T42 l0_0 x46_3).f1)))) = true := decide_eq_true c67
                   clear c67
                   obtain rfl := Option.some.inj H
                   have hnb68 := NB104_111.out
                   have hnc68 := NB111_104.out
                   have hcz69_0 : wc.cell? ⟨gb104, 0, none⟩ = some (.slice (some ad110) l0_0.length c0_0) := (blk_cell BK104.out 0).trans rfl
                   have hcz69_1 : wc.cell? ⟨gb104, 1, none⟩ = some (.int .i64 a0_1) := (blk_cell BK104.out 1).trans rfl
                   have hcz69_2 : wc.cell? ⟨gb104, 2, none⟩ = some (.int .i64 a0_2) := (blk_cell BK104.out 2).trans rfl
                   have hfz69_0 := blk_frozen BK104.out 0
                   have hfz69_1 := blk_frozen BK104.out 1
                   have hfz69_2 := blk_frozen BK104.out 2
                   have hcz70_0 : wc.cell? ⟨gb111, 0, none⟩ = some (.string ((rd_T42 l0_0 x46_3).f0)) := (blk_cell BK111.out 0).trans rfl
                   have hcz70_1 : wc.cell? ⟨gb111, 1, none⟩ = some (.int .i64 ((rd_T42 l0_0 x46_3).f1)) := (blk_cell BK111.out 1).trans rfl
                   have hcz70_2 : wc.cell? ⟨gb111, 2, none⟩ = some (.int .i64 ((rd_T42 l0_0 x46_3).f2)) := (blk_cell BK111.out 2).trans rfl
                   have hcz70_3 : wc.cell? ⟨gb111, 3, none⟩ = some (.int .i64 ((rd_T42 l0_0 x46_3).f3)) := (blk_cell BK111.out 3).trans rfl
                   have hfz70_0 := blk_frozen BK111.out 0
                   have hfz70_1 := blk_frozen BK111.out 1
                   have hfz70_2 := blk_frozen BK111.out 2
                   have hfz70_3 := blk_frozen BK111.out 3
                   go_wp2
                   go_ret
                   exact ⟨by first | rfl | (simp [errW_none, errW_some] <;> rfl) | (simp [*, errW_none, errW_some] <;> rfl), by repeat (first | (with_reducible first | exact HB.out | apply below_alloc | apply pw_below_drewN | apply below_drew1 | refine below_set ?_ GE104.out | refine below_set ?_ GE111.out) | exact HB.out)⟩
                  ·rw [if_neg c67] at H
                   have c67b0 : decide ((wrap64 ((wrap64 (((rd_T42 l0_0 x46_3).f2) + 1)) * a0_2)) < (wrap64 (a0_1 * ((rd_T42 l0_0 x46_3).f1)))) = false := decide_eq_false c67
                   clear c67
                   have H' := Aside0.mk H
                   clear H
                   have hnb71 := NB104_111.out
                   have hnc71 := NB111_104.out
                   have hcz72_0 : wc.cell? ⟨gb104, 0, none⟩ = some (.slice (some ad110) l0_0.length c0_0) := (blk_cell BK104.out 0).trans rfl
                   have hcz72_1 : wc.cell? ⟨gb104, 1, none⟩ = some (.int .i64 a0_1) := (blk_cell BK104.out 1).trans rfl
                   have hcz72_2 : wc.cell? ⟨gb104, 2, none⟩ = some (.int .i64 a0_2) := (blk_cell BK104.out 2).trans rfl
                   have hfz72_0 := blk_frozen BK104.out 0
                   have hfz72_1 := blk_frozen BK104.out 1
                   have hfz72_2 := blk_frozen BK104.out 2
                   have hcz73_0 : wc.cell? ⟨gb111, 0, none⟩ = some (.string ((rd_T42 l0_0 x46_3).f0)) := (blk_cell BK111.out 0).trans rfl
                   have hcz73_1 : wc.cell? ⟨gb111, 1, none⟩ = some (.int .i64 ((rd_T42 l0_0 x46_3).f1)) := (blk_cell BK111.out 1).trans rfl
                   have hcz73_2 : wc.cell? ⟨gb111, 2, none⟩ = some (.int .i64 ((rd_T42 l0_0 x46_3).f2)) := (blk_cell BK111.out 2).trans rfl
                   have hcz73_3 : wc.cell? ⟨gb111, 3, none⟩ = some (.int .i64 ((rd_T42 l0_0 x46_3).f3)) := (blk_cell BK111.out 3).trans rfl
                   have hfz73_0 := blk_frozen BK111.out 0
                   have hfz73_1 := blk_frozen BK111.out 1
                   have hfz73_2 := blk_frozen BK111.out 2
                   have hfz73_3 := blk_frozen BK111.out 3
                   go_wp2
                   go_roundg kj34
                   case measure => have := HK1.out; have := HJ21.out; have := HK3.out; have := HJ34.out; omega
                   case rel => exact ⟨(wrap64 (x46_3 + 1)), (by first | rfl | (simp; done) | (simp [*]; done)), H', ⟨by have := HK1.out; have := HJ21.out; have := HK3.out; have := HJ34.out; omega⟩, ⟨by (with_reducible repeat (first | refine blk_drewN ?_ _ | refine blk_drew ?_ | refine blk_alloc ?_ _)); exact BK104.out⟩, ⟨by repeat (first | (with_reducible first | exact HB.out | apply below_alloc | apply pw_below_drewN | apply below_drew1 | refine below_set ?_ GE104.out | refine below_set ?_ GE111.out) | exact HB.out)⟩⟩
                 ·rw [if_neg c66] at H
                  have c66b0 : decide (0 < ((rd_T42 l0_0 x46_3).f3)) = false := decide_eq_false c66
                  clear c66
                  have H' := Aside0.mk H
                  clear H
                  have hnb74 := NB104_111.out
                  have hnc74 := NB111_104.out
                  have hcz75_0 : wc.cell? ⟨gb104, 0, none⟩ = some (.slice (some ad110) l0_0.length c0_0) := (blk_cell BK104.out 0).trans rfl
                  have hcz75_1 : wc.cell? ⟨gb104, 1, none⟩ = some (.int .i64 a0_1) := (blk_cell BK104.out 1).trans rfl
                  have hcz75_2 : wc.cell? ⟨gb104, 2, none⟩ = some (.int .i64 a0_2) := (blk_cell BK104.out 2).trans rfl
                  have hfz75_0 := blk_frozen BK104.out 0
                  have hfz75_1 := blk_frozen BK104.out 1
                  have hfz75_2 := blk_frozen BK104.out 2
                  have hcz76_0 : wc.cell? ⟨gb111, 0, none⟩ = some (.string ((rd_T42 l0_0 x46_3).f0)) := (blk_cell BK111.out 0).trans rfl
                  have hcz76_1 : wc.cell? ⟨gb111, 1, none⟩ = some (.int .i64 ((rd_T42 l0_0 x46_3).f1)) := (blk_cell BK111.out 1).trans rfl
                  have hcz76_2 : wc.cell? ⟨gb111, 2, none⟩ = some (.int .i64 ((rd_T42 l0_0 x46_3).f2)) := (blk_cell BK111.out 2).trans rfl
                  have hcz76_3 : wc.cell? ⟨gb111, 3, none⟩ = some (.int .i64 ((rd_T42 l0_0 x46_3).f3)) := (blk_cell BK111.out 3).trans rfl
                  have hfz76_0 := blk_frozen BK111.out 0
                  have hfz76_1 := blk_frozen BK111.out 1
                  have hfz76_2 := blk_frozen BK111.out 2
                  have hfz76_3 := blk_frozen BK111.out 3
                  go_wp2
                  go_roundg kj34
                  case measure => have := HK1.out; have := HJ21.out; have := HK3.out; have := HJ34.out; omega
                  case rel => exact ⟨(wrap64 (x46_3 + 1)), (by first | rfl | (simp; done) | (simp [*]; done)), H', ⟨by have := HK1.out; have := HJ21.out; have := HK3.out; have := HJ34.out; omega⟩, ⟨by (with_reducible repeat (first | refine blk_drewN ?_ _ | refine blk_drew ?_ | refine blk_alloc ?_ _)); exact BK104.out⟩, ⟨by repeat (first | (with_reducible first | exact HB.out | apply below_alloc | apply pw_below_drewN | apply below_drew1 | refine below_set ?_ GE104.out | refine below_set ?_ GE111.out) | exact HB.out)⟩⟩
            ·rw [if_neg c34] at H
             exact absurd H (by simp)
           ·rw [if_neg c33] at H
            exact absurd H (by simp)
          ·rw [if_neg c32] at H
           have c32b0 : decide (x46_3 < (l0_0.length : Int)) = false := decide_eq_false c32
           clear c32
           obtain rfl := Option.some.inj H
           go_wp2
           go_ret
           exact ⟨by first | rfl | (simp [errW_none, errW_some] <;> rfl) | (simp [*, errW_none, errW_some] <;> rfl), by repeat (first | (with_reducible first | exact HB.out | apply below_alloc | apply pw_below_drewN | apply below_drew1 | refine below_set ?_ GE104.out) | exact HB.out)⟩

end Go.Proofs.Ytelmcaenemjppaa.Q
