-- Written by qprint.py (a program of this session) over the program of the kit that prints contracts. Not trusted: Lean checks it.
import Derived.Test.YtelmcaenemjppaaQ0
import Derived.Test.YtelmcaenemjppaaQ6
import Derived.Test.YtelmcaenemjppaaQ7
namespace Go.Proofs.Ytelmcaenemjppaa.Q
open Go.RowKit Go.Proofs.YtelmcaenemjppaaW.PrintWords Go.Proofs.YtelmcaenemjppaaW.PrintLast Go.Proofs.YtelmcaenemjppaaW.PrintMore
attribute [local go_sem] max2_int min2_int max_two min_two max_three min_three max_four min_four   -- for this text's walks alone
set_option linter.unusedVariables false
set_option linter.unusedSimpArgs false

/-! ### fringeref42_Check: function 22 -/
mutual
def fringeref42_Check.l0 : Nat → Int → List (S42) → Int → Int → Option (Int)
 | 0, _, _, _, _ => none
 | k + 1, x3, x127000, x127001, x127002 => if x3 < (x127000.length : Int) then (fringeref42_Check.l1 k x3 0 x127000 x127001 x127002) else (if (x127000.length : Int) = 0 then (fringeref42_Check.j2 k true x127000 x127001 x127002) else ((fringeref42_in.f x127002 1 100).bind fun t129 => (if t129 = true then ((fringeref42_in.f x127001 0 1000000).bind fun t130 => (fringeref42_Check.j2 k (!t130) x127000 x127001 x127002)) else (fringeref42_Check.j2 k true x127000 x127001 x127002))))
def fringeref42_Check.l1 : Nat → Int → Int → List (S42) → Int → Int → Option (Int)
 | 0, _, _, _, _, _ => none
 | k + 1, x3, x4, x127000, x127001, x127002 => if x4 < x3 then (if 0 ≤ x4 then (if x4 < (x127000.length : Int) then (if 0 ≤ x3 then (if x3 < (x127000.length : Int) then (if ((rd_T42 x127000 x4).f0).toList = ((rd_T42 x127000 x3).f0).toList then (some 14) else (fringeref42_Check.l1 k x3 (wrap64 (x4 + 1)) x127000 x127001 x127002)) else (none)) else (none)) else (none)) else (none)) else (fringeref42_Check.l0 k (wrap64 (x3 + 1)) x127000 x127001 x127002)
def fringeref42_Check.j2 : Nat → Bool → List (S42) → Int → Int → Option (Int)
 | 0, _, _, _, _ => none
 | k + 1, x51, x127000, x127001, x127002 => if x51 = true then (some 8) else (fringeref42_Check.l2 k 0 x127000 x127001 x127002)
def fringeref42_Check.l2 : Nat → Int → List (S42) → Int → Int → Option (Int)
 | 0, _, _, _, _ => none
 | k + 1, x5, x127000, x127001, x127002 => if x5 < (x127000.length : Int) then (if 0 ≤ x5 then ((fringeref42_Name.f k ((rd_T42 x127000 x5).f0)).bind fun t133 => (if t133 = true then ((fringeref42_in.f ((rd_T42 x127000 x5).f1) 1 100).bind fun t134 => (if t134 = true then ((fringeref42_in.f ((rd_T42 x127000 x5).f2) 0 1000000).bind fun t135 => (if t135 = true then ((fringeref42_in.f ((rd_T42 x127000 x5).f3) 0 1000).bind fun t136 => (fringeref42_Check.j4 k x5 (!t136) x127000 x127001 x127002 ((rd_T42 x127000 x5).f0) ((rd_T42 x127000 x5).f1) ((rd_T42 x127000 x5).f2) ((rd_T42 x127000 x5).f3))) else (fringeref42_Check.j4 k x5 true x127000 x127001 x127002 ((rd_T42 x127000 x5).f0) ((rd_T42 x127000 x5).f1) ((rd_T42 x127000 x5).f2) ((rd_T42 x127000 x5).f3)))) else (fringeref42_Check.j4 k x5 true x127000 x127001 x127002 ((rd_T42 x127000 x5).f0) ((rd_T42 x127000 x5).f1) ((rd_T42 x127000 x5).f2) ((rd_T42 x127000 x5).f3)))) else (fringeref42_Check.j4 k x5 true x127000 x127001 x127002 ((rd_T42 x127000 x5).f0) ((rd_T42 x127000 x5).f1) ((rd_T42 x127000 x5).f2) ((rd_T42 x127000 x5).f3)))) else (none)) else (some 0)
def fringeref42_Check.j4 : Nat → Int → Bool → List (S42) → Int → Int → ByteArray → Int → Int → Int → Option (Int)
 | 0, _, _, _, _, _, _, _, _, _ => none
 | k + 1, x5, x85, x127000, x127001, x127002, x133000, x133001, x133002, x133003 => if x85 = true then (some 8) else (if (wrap64 (x133002 * x127002)) > (wrap64 (x127001 * x133001)) then (some 8) else (if x133003 > 0 then (if (wrap64 ((wrap64 (x133002 + 1)) * x127002)) < (wrap64 (x127001 * x133001)) then (some 8) else (fringeref42_Check.l2 k (wrap64 (x5 + 1)) x127000 x127001 x127002)) else (fringeref42_Check.l2 k (wrap64 (x5 + 1)) x127000 x127001 x127002)))
end
def fringeref42_Check.f (k : Nat) (l0_0 : List (S42)) (a0_1 : Int) (a0_2 : Int) : Option (Int) := if (l0_0.length : Int) > 8 then (some 4) else (fringeref42_Check.l0 k 0 l0_0 a0_1 a0_2)
theorem fringeref42_Check.mono_l : ∀ k, (∀ y0 y1 y2 y3, LeO (fringeref42_Check.l0 k y0 y1 y2 y3) (fringeref42_Check.l0 (k + 1) y0 y1 y2 y3)) ∧ (∀ y0 y1 y2 y3 y4, LeO (fringeref42_Check.l1 k y0 y1 y2 y3 y4) (fringeref42_Check.l1 (k + 1) y0 y1 y2 y3 y4)) ∧ (∀ y0 y1 y2 y3, LeO (fringeref42_Check.j2 k y0 y1 y2 y3) (fringeref42_Check.j2 (k + 1) y0 y1 y2 y3)) ∧ (∀ y0 y1 y2 y3, LeO (fringeref42_Check.l2 k y0 y1 y2 y3) (fringeref42_Check.l2 (k + 1) y0 y1 y2 y3)) ∧ (∀ y0 y1 y2 y3 y4 y5 y6 y7 y8, LeO (fringeref42_Check.j4 k y0 y1 y2 y3 y4 y5 y6 y7 y8) (fringeref42_Check.j4 (k + 1) y0 y1 y2 y3 y4 y5 y6 y7 y8))
 | 0 => ⟨fun _ _ _ _ r h => by simp [fringeref42_Check.l0] at h, fun _ _ _ _ _ r h => by simp [fringeref42_Check.l1] at h, fun _ _ _ _ r h => by simp [fringeref42_Check.j2] at h, fun _ _ _ _ r h => by simp [fringeref42_Check.l2] at h, fun _ _ _ _ _ _ _ _ _ r h => by simp [fringeref42_Check.j4] at h⟩
 | k + 1 => by
  obtain ⟨ih0, ih1, ih2, ih3, ih4⟩ := fringeref42_Check.mono_l k
  refine ⟨?_, ?_, ?_, ?_, ?_⟩
  ·intro y0 y1 y2 y3
   unfold fringeref42_Check.l0
   repeat' first
   | (with_reducible exact ih0 _ _ _ _)
   | (with_reducible exact ih1 _ _ _ _ _)
   | (with_reducible exact ih2 _ _ _ _)
   | (with_reducible exact ih3 _ _ _ _)
   | (with_reducible exact ih4 _ _ _ _ _ _ _ _ _)
   | (with_reducible exact fringeref42_Name.mono _ _)
   | (with_reducible exact LeO.refl _)
   | (with_reducible exact LeO.none _)
   | (with_reducible refine LeO.ite ?_ ?_)
   | (with_reducible refine LeO.bind ?_ (fun _ => ?_))
   | exact ih0 _ _ _ _
   | exact ih1 _ _ _ _ _
   | exact ih2 _ _ _ _
   | exact ih3 _ _ _ _
   | exact ih4 _ _ _ _ _ _ _ _ _
   | exact fringeref42_Name.mono _ _
   | exact LeO.none _
   | refine LeO.ite ?_ ?_
   | refine LeO.bind ?_ (fun _ => ?_)
  ·intro y0 y1 y2 y3 y4
   unfold fringeref42_Check.l1
   repeat' first
   | (with_reducible exact ih0 _ _ _ _)
   | (with_reducible exact ih1 _ _ _ _ _)
   | (with_reducible exact ih2 _ _ _ _)
   | (with_reducible exact ih3 _ _ _ _)
   | (with_reducible exact ih4 _ _ _ _ _ _ _ _ _)
   | (with_reducible exact fringeref42_Name.mono _ _)
   | (with_reducible exact LeO.refl _)
   | (with_reducible exact LeO.none _)
   | (with_reducible refine LeO.ite ?_ ?_)
   | (with_reducible refine LeO.bind ?_ (fun _ => ?_))
   | exact ih0 _ _ _ _
   | exact ih1 _ _ _ _ _
   | exact ih2 _ _ _ _
   | exact ih3 _ _ _ _
   | exact ih4 _ _ _ _ _ _ _ _ _
   | exact fringeref42_Name.mono _ _
   | exact LeO.none _
   | refine LeO.ite ?_ ?_
   | refine LeO.bind ?_ (fun _ => ?_)
  ·intro y0 y1 y2 y3
   unfold fringeref42_Check.j2
   repeat' first
   | (with_reducible exact ih0 _ _ _ _)
   | (with_reducible exact ih1 _ _ _ _ _)
   | (with_reducible exact ih2 _ _ _ _)
   | (with_reducible exact ih3 _ _ _ _)
   | (with_reducible exact ih4 _ _ _ _ _ _ _ _ _)
   | (with_reducible exact fringeref42_Name.mono _ _)
   | (with_reducible exact LeO.refl _)
   | (with_reducible exact LeO.none _)
   | (with_reducible refine LeO.ite ?_ ?_)
   | (with_reducible refine LeO.bind ?_ (fun _ => ?_))
   | exact ih0 _ _ _ _
   | exact ih1 _ _ _ _ _
   | exact ih2 _ _ _ _
   | exact ih3 _ _ _ _
   | exact ih4 _ _ _ _ _ _ _ _ _
   | exact fringeref42_Name.mono _ _
   | exact LeO.none _
   | refine LeO.ite ?_ ?_
   | refine LeO.bind ?_ (fun _ => ?_)
  ·intro y0 y1 y2 y3
   unfold fringeref42_Check.l2
   repeat' first
   | (with_reducible exact ih0 _ _ _ _)
   | (with_reducible exact ih1 _ _ _ _ _)
   | (with_reducible exact ih2 _ _ _ _)
   | (with_reducible exact ih3 _ _ _ _)
   | (with_reducible exact ih4 _ _ _ _ _ _ _ _ _)
   | (with_reducible exact fringeref42_Name.mono _ _)
   | (with_reducible exact LeO.refl _)
   | (with_reducible exact LeO.none _)
   | (with_reducible refine LeO.ite ?_ ?_)
   | (with_reducible refine LeO.bind ?_ (fun _ => ?_))
   | exact ih0 _ _ _ _
   | exact ih1 _ _ _ _ _
   | exact ih2 _ _ _ _
   | exact ih3 _ _ _ _
   | exact ih4 _ _ _ _ _ _ _ _ _
   | exact fringeref42_Name.mono _ _
   | exact LeO.none _
   | refine LeO.ite ?_ ?_
   | refine LeO.bind ?_ (fun _ => ?_)
  ·intro y0 y1 y2 y3 y4 y5 y6 y7 y8
   unfold fringeref42_Check.j4
   repeat' first
   | (with_reducible exact ih0 _ _ _ _)
   | (with_reducible exact ih1 _ _ _ _ _)
   | (with_reducible exact ih2 _ _ _ _)
   | (with_reducible exact ih3 _ _ _ _)
   | (with_reducible exact ih4 _ _ _ _ _ _ _ _ _)
   | (with_reducible exact fringeref42_Name.mono _ _)
   | (with_reducible exact LeO.refl _)
   | (with_reducible exact LeO.none _)
   | (with_reducible refine LeO.ite ?_ ?_)
   | (with_reducible refine LeO.bind ?_ (fun _ => ?_))
   | exact ih0 _ _ _ _
   | exact ih1 _ _ _ _ _
   | exact ih2 _ _ _ _
   | exact ih3 _ _ _ _
   | exact ih4 _ _ _ _ _ _ _ _ _
   | exact fringeref42_Name.mono _ _
   | exact LeO.none _
   | refine LeO.ite ?_ ?_
   | refine LeO.bind ?_ (fun _ => ?_)
theorem fringeref42_Check.mono : ∀ a0 a1 a2 k, LeO (fringeref42_Check.f k a0 a1 a2) (fringeref42_Check.f (k + 1) a0 a1 a2) := by
 intro a0 a1 a2 k
 obtain ⟨ih0, ih1, ih2, ih3, ih4⟩ := fringeref42_Check.mono_l k
 unfold fringeref42_Check.f
 repeat' first
   | (with_reducible exact ih0 _ _ _ _)
   | (with_reducible exact ih1 _ _ _ _ _)
   | (with_reducible exact ih2 _ _ _ _)
   | (with_reducible exact ih3 _ _ _ _)
   | (with_reducible exact ih4 _ _ _ _ _ _ _ _ _)
   | (with_reducible exact fringeref42_Name.mono _ _)
   | (with_reducible exact LeO.refl _)
   | (with_reducible exact LeO.none _)
   | (with_reducible refine LeO.ite ?_ ?_)
   | (with_reducible refine LeO.bind ?_ (fun _ => ?_))
   | exact ih0 _ _ _ _
   | exact ih1 _ _ _ _ _
   | exact ih2 _ _ _ _
   | exact ih3 _ _ _ _
   | exact ih4 _ _ _ _ _ _ _ _ _
   | exact fringeref42_Name.mono _ _
   | exact LeO.none _
   | refine LeO.ite ?_ ?_
   | refine LeO.bind ?_ (fun _ => ?_)
set_option maxHeartbeats 8000000 in
set_option maxRecDepth 100000 in
theorem fringeref42_Check.calls (k : Nat) (A0_0 : Option Addr) (c0_0 : Nat) (l0_0 : List (S42)) (a0_1 : Int) (a0_2 : Int) (r : Int) (w : World) (hr0_0 : Kd.C k42 w A0_0 l0_0.length l0_0) (hc0_0 : l0_0.length ≤ c0_0) (h : fringeref42_Check.f k l0_0 a0_1 a0_2 = some r) :
  Calls Try.prog 22 #[.agg #[.slice A0_0 l0_0.length c0_0, .int .i64 a0_1, .int .i64 a0_2]] w fun e w' => e = .returned (.int .i64 r) ∧ Below w.heap.size w w' := by
 have hu24 := Try.underlying24
 have hu42 := Try.underlying42
 have HR0_0 := Aside0.mk hr0_0
 have HC0_0 := Aside0.mk hc0_0
 clear hr0_0 hc0_0
 have HB := Aside0.mk (Below.refl w.heap.size w)
 have H : (if (l0_0.length : Int) > 8 then (some 4) else (fringeref42_Check.l0 k 0 l0_0 a0_1 a0_2)) = some r := h
 clear h
 by_cases c2 : (l0_0.length : Int) > 8
 ·rw [if_pos c2] at H
  have c2b0 : decide (8 < (l0_0.length : Int)) = true := decide_eq_true c2
  have c2b1 : decide (8 < l0_0.length) = true := decide_eq_true (by omega)
  clear c2
  obtain rfl := Option.some.inj H
  go_enter Try.func22, Try.ntmps22
  go_wp2_with (first |  ((with_reducible refine gate_dst (N := 1) rfl ?_); refine box_event ?hg (N := 1) ?hd (cs := #[.slice A0_0 l0_0.length c0_0, .int .i64 a0_1, .int .i64 a0_2]) (t := 24) ?hr ?_; (case hd => rfl); (case hg => rfl); (case hr => first | (go_simp; done) | (go_simp; rfl)); intro gb126 hg w3 hbox hb; have n0_ := Aside0.mk (below_step (by repeat (first | (with_reducible first | exact HB.out | apply below_alloc | apply pw_below_drewN | apply below_drew1) | exact HB.out)) hb); have n1_ := Aside0.mk (hbox); have n2_ := Aside0.mk ((by rw [hg]; exact (below_size (by repeat (first | (with_reducible first | exact HB.out | apply below_alloc | apply pw_below_drewN | apply below_drew1) | exact HB.out))) : w.heap.size ≤ gb126)); have n3_ := Aside0.mk ((by rw [hg]; exact (below_size (by repeat (first | (with_reducible first | exact HB.out | apply below_alloc | apply pw_below_drewN | apply below_drew1) | exact HB.out))) : w.heap.size ≤ gb126)); clear HB; have HB := n0_; have BK126 := n1_; have GW126 := n2_; have GE126 := n3_; clear n0_ n1_ n2_ n3_; clear hb hbox hg; have hcz4_0 : w3.cell? ⟨gb126, 0, none⟩ = some (.slice A0_0 l0_0.length c0_0) := (blk_cell BK126.out 0).trans rfl; have hcz4_1 : w3.cell? ⟨gb126, 1, none⟩ = some (.int .i64 a0_1) := (blk_cell BK126.out 1).trans rfl; have hcz4_2 : w3.cell? ⟨gb126, 2, none⟩ = some (.int .i64 a0_2) := (blk_cell BK126.out 2).trans rfl; have hfz4_0 := blk_frozen BK126.out 0; have hfz4_1 := blk_frozen BK126.out 1; have hfz4_2 := blk_frozen BK126.out 2) | go_values | go_skip | go_guarded | go_step | go_upon | go_back | (simp only [Int.not_lt, Int.not_le] at *; go_simp) | (go_values <;> (try go_simp)) | (go_ite <;> go_prune <;> (try go_simp)) | (split <;> (first | (rename_i hx; exact (hx _ rfl).elim) | go_prune)) | go_quiet (fail))
  go_ret
  exact ⟨by first | rfl | (simp [errW_none, errW_some] <;> rfl) | (simp [*, errW_none, errW_some] <;> rfl), by repeat (first | (with_reducible first | exact HB.out | apply below_alloc | apply pw_below_drewN | apply below_drew1 | refine below_set ?_ GE126.out) | exact HB.out)⟩
 ·rw [if_neg c2] at H
  have c2b0 : decide (8 < (l0_0.length : Int)) = false := decide_eq_false c2
  have c2b1 : decide (8 < l0_0.length) = false := decide_eq_false (by omega)
  clear c2
  have H' := Aside0.mk H
  clear H
  go_enter Try.func22, Try.ntmps22
  go_wp2_with (first |  ((with_reducible refine gate_dst (N := 1) rfl ?_); refine box_event ?hg (N := 1) ?hd (cs := #[.slice A0_0 l0_0.length c0_0, .int .i64 a0_1, .int .i64 a0_2]) (t := 24) ?hr ?_; (case hd => rfl); (case hg => rfl); (case hr => first | (go_simp; done) | (go_simp; rfl)); intro gb126 hg w5 hbox hb; have n0_ := Aside0.mk (below_step (by repeat (first | (with_reducible first | exact HB.out | apply below_alloc | apply pw_below_drewN | apply below_drew1) | exact HB.out)) hb); have n1_ := Aside0.mk (hbox); have n2_ := Aside0.mk ((by rw [hg]; exact (below_size (by repeat (first | (with_reducible first | exact HB.out | apply below_alloc | apply pw_below_drewN | apply below_drew1) | exact HB.out))) : w.heap.size ≤ gb126)); have n3_ := Aside0.mk ((by rw [hg]; exact (below_size (by repeat (first | (with_reducible first | exact HB.out | apply below_alloc | apply pw_below_drewN | apply below_drew1) | exact HB.out))) : w.heap.size ≤ gb126)); clear HB; have HB := n0_; have BK126 := n1_; have GW126 := n2_; have GE126 := n3_; clear n0_ n1_ n2_ n3_; clear hb hbox hg; have hcz6_0 : w5.cell? ⟨gb126, 0, none⟩ = some (.slice A0_0 l0_0.length c0_0) := (blk_cell BK126.out 0).trans rfl; have hcz6_1 : w5.cell? ⟨gb126, 1, none⟩ = some (.int .i64 a0_1) := (blk_cell BK126.out 1).trans rfl; have hcz6_2 : w5.cell? ⟨gb126, 2, none⟩ = some (.int .i64 a0_2) := (blk_cell BK126.out 2).trans rfl; have hfz6_0 := blk_frozen BK126.out 0; have hfz6_1 := blk_frozen BK126.out 1; have hfz6_2 := blk_frozen BK126.out 2) | go_values | go_skip | go_guarded | go_step | go_upon | go_back | (simp only [Int.not_lt, Int.not_le] at *; go_simp) | (go_values <;> (try go_simp)) | (go_ite <;> go_prune <;> (try go_simp)) | (split <;> (first | (rename_i hx; exact (hx _ rfl).elim) | go_prune)) | go_quiet (fail))
  go_loopg [3] k (fun kq v3 w' => ∃ (x3_1 : Int), v3 = .int .i64 x3_1 ∧ Aside0 (fringeref42_Check.l0 kq x3_1 l0_0 a0_1 a0_2 = some r) ∧ Aside0 (kq ≤ k) ∧ Aside0 (w'.heap[gb126]? = some (.cells #[(.slice A0_0 l0_0.length c0_0), .int .i64 a0_1, .int .i64 a0_2] 24 (0, 0))) ∧ Aside0 (Below w.heap.size w w'))
  case atStart => exact ⟨(0), (by first | rfl | (simp; done) | (simp [*]; done)), H', ⟨Nat.le_refl _⟩, ⟨by (with_reducible repeat (first | refine blk_drewN ?_ _ | refine blk_drew ?_ | refine blk_alloc ?_ _)); exact BK126.out⟩, ⟨by repeat (first | (with_reducible first | exact HB.out | apply below_alloc | apply pw_below_drewN | apply below_drew1 | refine below_set ?_ GE126.out) | exact HB.out)⟩⟩
  case round =>
   clear H'
   try clear c2
   try clear c2b0
   try clear c2b1
   try clear p2
   try clear hcz4_0
   try clear hcz4_1
   try clear hcz4_2
   try clear hcz6_0
   try clear hcz6_1
   try clear hcz6_2
   try clear hfz4_0
   try clear hfz4_1
   try clear hfz4_2
   try clear hfz6_0
   try clear hfz6_1
   try clear hfz6_2
   obtain ⟨x3_1, rfl, HA, HK1, BK126, HB⟩ := hrel
   cases gk with
   | zero => exact absurd HA.out (by simp [fringeref42_Check.l0])
   | succ k1 =>
    have H := HA.out
    clear HA
    simp only [fringeref42_Check.l0] at H
    by_cases c7 : x3_1 < (l0_0.length : Int)
    ·rw [if_pos c7] at H
     have c7b0 : decide (x3_1 < (l0_0.length : Int)) = true := decide_eq_true c7
     clear c7
     have H' := Aside0.mk H
     clear H
     have hcz8_0 : wr.cell? ⟨gb126, 0, none⟩ = some (.slice A0_0 l0_0.length c0_0) := (blk_cell BK126.out 0).trans rfl
     have hcz8_1 : wr.cell? ⟨gb126, 1, none⟩ = some (.int .i64 a0_1) := (blk_cell BK126.out 1).trans rfl
     have hcz8_2 : wr.cell? ⟨gb126, 2, none⟩ = some (.int .i64 a0_2) := (blk_cell BK126.out 2).trans rfl
     have hfz8_0 := blk_frozen BK126.out 0
     have hfz8_1 := blk_frozen BK126.out 1
     have hfz8_2 := blk_frozen BK126.out 2
     go_wp2
     repeat (go_quiet (fail); try go_wp2)
     go_loopg [4] k1 (fun kq v4 w' => ∃ (x4_2 : Int), v4 = .int .i64 x4_2 ∧ Aside0 (fringeref42_Check.l1 kq x3_1 x4_2 l0_0 a0_1 a0_2 = some r) ∧ Aside0 (kq ≤ k1) ∧ Aside0 (w'.heap[gb126]? = some (.cells #[(.slice A0_0 l0_0.length c0_0), .int .i64 a0_1, .int .i64 a0_2] 24 (0, 0))) ∧ Aside0 (Below w.heap.size w w'))
     case atStart => exact ⟨(0), (by first | rfl | (simp; done) | (simp [*]; done)), H', ⟨Nat.le_refl _⟩, ⟨by (with_reducible repeat (first | refine blk_drewN ?_ _ | refine blk_drew ?_ | refine blk_alloc ?_ _)); exact BK126.out⟩, ⟨by repeat (first | (with_reducible first | exact HB.out | apply below_alloc | apply pw_below_drewN | apply below_drew1 | refine below_set ?_ GE126.out) | exact HB.out)⟩⟩
     case round =>
      clear H'
      try clear c2
      try clear c2b0
      try clear c2b1
      try clear p2
      try clear c7
      try clear c7b0
      try clear hcz4_0
      try clear hcz4_1
      try clear hcz4_2
      try clear hcz6_0
      try clear hcz6_1
      try clear hcz6_2
      try clear hcz8_0
      try clear hcz8_1
      try clear hcz8_2
      try clear hfz4_0
      try clear hfz4_1
      try clear hfz4_2
      try clear hfz6_0
      try clear hfz6_1
      try clear hfz6_2
      try clear hfz8_0
      try clear hfz8_1
      try clear hfz8_2
      try clear p2
      obtain ⟨x4_2, rfl, HA, HK2, BK126, HB⟩ := hrel
      cases gk with
      | zero => exact absurd HA.out (by simp [fringeref42_Check.l1])
      | succ k2 =>
       have H := HA.out
       clear HA
       simp only [fringeref42_Check.l1] at H
       by_cases c9 : x4_2 < x3_1
       ·rw [if_pos c9] at H
        have c9b0 : decide (x4_2 < x3_1) = true := decide_eq_true c9
        clear c9
        by_cases c10 : 0 ≤ x4_2
        ·rw [if_pos c10] at H
         have c10b0 : decide (0 ≤ x4_2) = true := decide_eq_true c10
         clear c10
         by_cases c11 : x4_2 < (l0_0.length : Int)
         ·rw [if_pos c11] at H
          have c11b0 : decide (x4_2 < (l0_0.length : Int)) = true := decide_eq_true c11
          clear c11
          by_cases c12 : 0 ≤ x3_1
          ·rw [if_pos c12] at H
           have c12b0 : decide (0 ≤ x3_1) = true := decide_eq_true c12
           clear c12
           by_cases c13 : x3_1 < (l0_0.length : Int)
           ·rw [if_pos c13] at H
            have c13b0 : decide (x3_1 < (l0_0.length : Int)) = true := decide_eq_true c13
            clear c13
            by_cases c14 : ((rd_T42 l0_0 x4_2).f0).toList = ((rd_T42 l0_0 x3_1).f0).toList
            ·rw [if_pos c14] at H
             have c14b0 : (((rd_T42 l0_0 x4_2).f0).toList == ((rd_T42 l0_0 x3_1).f0).toList) = true := beq_iff_eq.mpr c14
             have c14b1 : (((rd_T42 l0_0 x4_2).f0).toList != ((rd_T42 l0_0 x3_1).f0).toList) = false := bne_eq_false_iff_eq.mpr c14
             clear c14
             obtain rfl := Option.some.inj H
             have hcz15_0 : wr.cell? ⟨gb126, 0, none⟩ = some (.slice A0_0 l0_0.length c0_0) := (blk_cell BK126.out 0).trans rfl
             have hcz15_1 : wr.cell? ⟨gb126, 1, none⟩ = some (.int .i64 a0_1) := (blk_cell BK126.out 1).trans rfl
             have hcz15_2 : wr.cell? ⟨gb126, 2, none⟩ = some (.int .i64 a0_2) := (blk_cell BK126.out 2).trans rfl
             have hfz15_0 := blk_frozen BK126.out 0
             have hfz15_1 := blk_frozen BK126.out 1
             have hfz15_2 := blk_frozen BK126.out 2
             have p127 : 0 ≤ (x4_2 : Int) := of_decide_eq_true (by first | (with_reducible assumption) | assumption)
             have q127 : x4_2 < (l0_0.length : Int) := of_decide_eq_true (by first | (with_reducible assumption) | assumption)
             obtain ⟨ad127, e127, hx127_0, hx127_1, hx127_2, hx127_3⟩ := at_T42 HR0_0.out x4_2 p127 q127
             cases e127
             replace hx127_0 := (HB.out.cell (World.block_lt_of_cell? w _ hx127_0)).trans hx127_0
             replace hx127_1 := (HB.out.cell (World.block_lt_of_cell? w _ hx127_1)).trans hx127_1
             replace hx127_2 := (HB.out.cell (World.block_lt_of_cell? w _ hx127_2)).trans hx127_2
             replace hx127_3 := (HB.out.cell (World.block_lt_of_cell? w _ hx127_3)).trans hx127_3
             replace p127 := eq_true p127
             replace q127 := eq_true q127
             have p128 : 0 ≤ (x3_1 : Int) := of_decide_eq_true (by first | (with_reducible assumption) | assumption)
             have q128 : x3_1 < (l0_0.length : Int) := of_decide_eq_true (by first | (with_reducible assumption) | assumption)
             obtain ⟨ad128, e128, hx128_0, hx128_1, hx128_2, hx128_3⟩ := at_T42 HR0_0.out x3_1 p128 q128
             obtain rfl : ad127 = ad128 := (by injection e128)
             replace hx128_0 := (HB.out.cell (World.block_lt_of_cell? w _ hx128_0)).trans hx128_0
             replace hx128_1 := (HB.out.cell (World.block_lt_of_cell? w _ hx128_1)).trans hx128_1
             replace hx128_2 := (HB.out.cell (World.block_lt_of_cell? w _ hx128_2)).trans hx128_2
             replace hx128_3 := (HB.out.cell (World.block_lt_of_cell? w _ hx128_3)).trans hx128_3
             replace p128 := eq_true p128
             replace q128 := eq_true q128
             go_wp2
             repeat (go_quiet (fail); try go_wp2)
             go_ret
             exact ⟨by first | rfl | (simp [errW_none, errW_some] <;> rfl) | (simp [*, errW_none, errW_some] <;> rfl), by repeat (first | (with_reducible first | exact HB.out | apply below_alloc | apply pw_below_drewN | apply below_drew1 | refine below_set ?_ GE126.out) | exact HB.out)⟩
            ·rw [if_neg c14] at H
             have c14b0 : (((rd_T42 l0_0 x4_2).f0).toList == ((rd_T42 l0_0 x3_1).f0).toList) = false := beq_eq_false_iff_ne.mpr c14
             have c14b1 : (((rd_T42 l0_0 x4_2).f0).toList != ((rd_T42 l0_0 x3_1).f0).toList) = true := bne_iff_ne.mpr c14
             have H' := Aside0.mk H
             clear H
             have hcz16_0 : wr.cell? ⟨gb126, 0, none⟩ = some (.slice A0_0 l0_0.length c0_0) := (blk_cell BK126.out 0).trans rfl
             have hcz16_1 : wr.cell? ⟨gb126, 1, none⟩ = some (.int .i64 a0_1) := (blk_cell BK126.out 1).trans rfl
             have hcz16_2 : wr.cell? ⟨gb126, 2, none⟩ = some (.int .i64 a0_2) := (blk_cell BK126.out 2).trans rfl
             have hfz16_0 := blk_frozen BK126.out 0
             have hfz16_1 := blk_frozen BK126.out 1
             have hfz16_2 := blk_frozen BK126.out 2
             have p127 : 0 ≤ (x4_2 : Int) := of_decide_eq_true (by first | (with_reducible assumption) | assumption)
             have q127 : x4_2 < (l0_0.length : Int) := of_decide_eq_true (by first | (with_reducible assumption) | assumption)
             obtain ⟨ad127, e127, hx127_0, hx127_1, hx127_2, hx127_3⟩ := at_T42 HR0_0.out x4_2 p127 q127
             cases e127
             replace hx127_0 := (HB.out.cell (World.block_lt_of_cell? w _ hx127_0)).trans hx127_0
             replace hx127_1 := (HB.out.cell (World.block_lt_of_cell? w _ hx127_1)).trans hx127_1
             replace hx127_2 := (HB.out.cell (World.block_lt_of_cell? w _ hx127_2)).trans hx127_2
             replace hx127_3 := (HB.out.cell (World.block_lt_of_cell? w _ hx127_3)).trans hx127_3
             replace p127 := eq_true p127
             replace q127 := eq_true q127
             have p128 : 0 ≤ (x3_1 : Int) := of_decide_eq_true (by first | (with_reducible assumption) | assumption)
             have q128 : x3_1 < (l0_0.length : Int) := of_decide_eq_true (by first | (with_reducible assumption) | assumption)
             obtain ⟨ad128, e128, hx128_0, hx128_1, hx128_2, hx128_3⟩ := at_T42 HR0_0.out x3_1 p128 q128
             obtain rfl : ad127 = ad128 := (by injection e128)
             replace hx128_0 := (HB.out.cell (World.block_lt_of_cell? w _ hx128_0)).trans hx128_0
             replace hx128_1 := (HB.out.cell (World.block_lt_of_cell? w _ hx128_1)).trans hx128_1
             replace hx128_2 := (HB.out.cell (World.block_lt_of_cell? w _ hx128_2)).trans hx128_2
             replace hx128_3 := (HB.out.cell (World.block_lt_of_cell? w _ hx128_3)).trans hx128_3
             replace p128 := eq_true p128
             replace q128 := eq_true q128
             go_wp2
             repeat (go_quiet (fail); try go_wp2)
             go_roundg k2
             case measure => have := HK1.out; have := HK2.out; omega
             case rel => exact ⟨(wrap64 (x4_2 + 1)), (by first | rfl | (simp; done) | (simp [*]; done)), H', ⟨by have := HK1.out; have := HK2.out; omega⟩, ⟨by (with_reducible repeat (first | refine blk_drewN ?_ _ | refine blk_drew ?_ | refine blk_alloc ?_ _)); exact BK126.out⟩, ⟨by repeat (first | (with_reducible first | exact HB.out | apply below_alloc | apply pw_below_drewN | apply below_drew1 | refine below_set ?_ GE126.out) | exact HB.out)⟩⟩
           ·rw [if_neg c13] at H
            exact absurd H (by simp)
          ·rw [if_neg c12] at H
           exact absurd H (by simp)
         ·rw [if_neg c11] at H
          exact absurd H (by simp)
        ·rw [if_neg c10] at H
         exact absurd H (by simp)
       ·rw [if_neg c9] at H
        have c9b0 : decide (x4_2 < x3_1) = false := decide_eq_false c9
        clear c9
        have H' := Aside0.mk H
        clear H
        go_wp2
        repeat (go_quiet (fail); try go_wp2)
        go_roundg k2
        case measure => have := HK1.out; have := HK2.out; omega
        case rel => exact ⟨(wrap64 (x3_1 + 1)), (by first | rfl | (simp; done) | (simp [*]; done)), H', ⟨by have := HK1.out; have := HK2.out; omega⟩, ⟨by (with_reducible repeat (first | refine blk_drewN ?_ _ | refine blk_drew ?_ | refine blk_alloc ?_ _)); exact BK126.out⟩, ⟨by repeat (first | (with_reducible first | exact HB.out | apply below_alloc | apply pw_below_drewN | apply below_drew1 | refine below_set ?_ GE126.out) | exact HB.out)⟩⟩
    ·rw [if_neg c7] at H
     have c7b0 : decide (x3_1 < (l0_0.length : Int)) = false := decide_eq_false c7
     clear c7
     have HC17 := Aside0.mk H
     clear H
     have hcz18_0 : wr.cell? ⟨gb126, 0, none⟩ = some (.slice A0_0 l0_0.length c0_0) := (blk_cell BK126.out 0).trans rfl
     have hcz18_1 : wr.cell? ⟨gb126, 1, none⟩ = some (.int .i64 a0_1) := (blk_cell BK126.out 1).trans rfl
     have hcz18_2 : wr.cell? ⟨gb126, 2, none⟩ = some (.int .i64 a0_2) := (blk_cell BK126.out 2).trans rfl
     have hfz18_0 := blk_frozen BK126.out 0
     have hfz18_1 := blk_frozen BK126.out 1
     have hfz18_2 := blk_frozen BK126.out 2
     go_upto_region 11 with (fail)
     repeat (go_quiet (fail); go_upto_region 11 with (fail))
     go_cut [51] (fun v51 wc => ∃ (kq : Nat) (x51_16 : Bool), v51 = .bool x51_16 ∧ Aside0 (fringeref42_Check.j2 kq x51_16 l0_0 a0_1 a0_2 = some r) ∧ Aside0 (kq ≤ k1) ∧ Aside0 (wc.heap[gb126]? = some (.cells #[(.slice A0_0 l0_0.length c0_0), .int .i64 a0_1, .int .i64 a0_2] 24 (0, 0))) ∧ Aside0 (Below w.heap.size w wc))
     case first =>
      have H := HC17.out
      clear HC17
      by_cases c19 : (l0_0.length : Int) = 0
      ·rw [if_pos c19] at H
       have c19b0 : ((l0_0.length : Int) == 0) = true := beq_iff_eq.mpr c19
       have c19b1 : ((l0_0.length : Int) != 0) = false := bne_eq_false_iff_eq.mpr c19
       clear c19
       (first | rw [c19b0] | (simp only [i64_w, i32_w]; rw [c19b0]) | skip)
       have H' := Aside0.mk H
       clear H
       have hcz20_0 : wr.cell? ⟨gb126, 0, none⟩ = some (.slice A0_0 l0_0.length c0_0) := (blk_cell BK126.out 0).trans rfl
       have hcz20_1 : wr.cell? ⟨gb126, 1, none⟩ = some (.int .i64 a0_1) := (blk_cell BK126.out 1).trans rfl
       have hcz20_2 : wr.cell? ⟨gb126, 2, none⟩ = some (.int .i64 a0_2) := (blk_cell BK126.out 2).trans rfl
       have hfz20_0 := blk_frozen BK126.out 0
       have hfz20_1 := blk_frozen BK126.out 1
       have hfz20_2 := blk_frozen BK126.out 2
       go_wp2
       repeat (go_quiet (fail); try go_wp2)
       go_meet
       case rel => exact ⟨_, (true), (by first | rfl | (simp; done) | (simp [*]; done)), H', ⟨by have := HK1.out; first | omega | exact Nat.le_refl _⟩, ⟨by (with_reducible repeat (first | refine blk_drewN ?_ _ | refine blk_drew ?_ | refine blk_alloc ?_ _)); exact BK126.out⟩, ⟨by repeat (first | (with_reducible first | exact HB.out | apply below_alloc | apply pw_below_drewN | apply below_drew1 | refine below_set ?_ GE126.out) | exact HB.out)⟩⟩
      ·rw [if_neg c19] at H
       have c19b0 : ((l0_0.length : Int) == 0) = false := beq_eq_false_iff_ne.mpr c19
       have c19b1 : ((l0_0.length : Int) != 0) = true := bne_iff_ne.mpr c19
       have c19b2 : ¬ (l0_0 = []) := fun h_ => c19 (by rw [h_]; rfl)
       (first | rw [c19b0] | (simp only [i64_w, i32_w]; rw [c19b0]) | skip)
       replace H := Option.bind_eq_some_iff.mp H
       obtain ⟨t129, A210, H⟩ := H
       replace H : (if t129 = true then ((fringeref42_in.f a0_1 0 1000000).bind fun t130 => (fringeref42_Check.j2 k1 (!t130) l0_0 a0_1 a0_2)) else (fringeref42_Check.j2 k1 true l0_0 a0_1 a0_2)) = some r := H
       have A21 := Aside0.mk A210
       clear A210
       by_cases c22 : t129 = true
       ·subst c22
        have H1 : ((fringeref42_in.f a0_1 0 1000000).bind fun t130 => (fringeref42_Check.j2 k1 (!t130) l0_0 a0_1 a0_2)) = some r := by first | (with_reducible rfl) | (rw [if_pos rfl] at H; exact H)
        clear H
        have H := H1
        clear H1
        replace H := Option.bind_eq_some_iff.mp H
        obtain ⟨t130, A230, H⟩ := H
        replace H : (fringeref42_Check.j2 k1 (!t130) l0_0 a0_1 a0_2) = some r := H
        have A23 := Aside0.mk A230
        clear A230
        have H' := Aside0.mk H
        clear H
        have hcz24_0 : wr.cell? ⟨gb126, 0, none⟩ = some (.slice A0_0 l0_0.length c0_0) := (blk_cell BK126.out 0).trans rfl
        have hcz24_1 : wr.cell? ⟨gb126, 1, none⟩ = some (.int .i64 a0_1) := (blk_cell BK126.out 1).trans rfl
        have hcz24_2 : wr.cell? ⟨gb126, 2, none⟩ = some (.int .i64 a0_2) := (blk_cell BK126.out 2).trans rfl
        have hfz24_0 := blk_frozen BK126.out 0
        have hfz24_1 := blk_frozen BK126.out 1
        have hfz24_2 := blk_frozen BK126.out 2
        go_wp2_with (first |  (go_at_call 54; (with_reducible refine (fringeref42_in.calls a0_2 1 100 true _ A21.out).mono ?_); rintro e w' ⟨rfl, ⟨nd, rfl⟩⟩; (try first | exact ⟨rfl, _, World.drewN_drewN _ _ _⟩ | exact ⟨rfl, _, Eq.trans (World.drewN_drewN _ _ _) (congrArg (World.drewN _) (Nat.add_assoc _ _ _))⟩)) | (go_at_call 54; (with_reducible refine (fringeref42_in.calls a0_1 0 1000000 t130 _ A23.out).mono ?_); rintro e w' ⟨rfl, ⟨nd, rfl⟩⟩; (try first | exact ⟨rfl, _, World.drewN_drewN _ _ _⟩ | exact ⟨rfl, _, Eq.trans (World.drewN_drewN _ _ _) (congrArg (World.drewN _) (Nat.add_assoc _ _ _))⟩)) | go_values | go_skip | go_guarded | go_step | go_upon | go_back | (simp only [Int.not_lt, Int.not_le] at *; go_simp) | (go_values <;> (try go_simp)) | (go_ite <;> go_prune <;> (try go_simp)) | (split <;> (first | (rename_i hx; exact (hx _ rfl).elim) | go_prune)) | go_quiet (fail))
        go_meet
        case rel => exact ⟨_, (!t130), (by first | rfl | (simp; done) | (simp [*]; done)), H', ⟨by have := HK1.out; first | omega | exact Nat.le_refl _⟩, ⟨by (with_reducible repeat (first | refine blk_drewN ?_ _ | refine blk_drew ?_ | refine blk_alloc ?_ _)); exact BK126.out⟩, ⟨by repeat (first | (with_reducible first | exact HB.out | apply below_alloc | apply pw_below_drewN | apply below_drew1 | refine below_set ?_ GE126.out) | exact HB.out)⟩⟩
       ·replace c22 := Bool.eq_false_iff.mpr c22
        subst c22
        have H1 : (fringeref42_Check.j2 k1 true l0_0 a0_1 a0_2) = some r := by first | (with_reducible rfl) | (rw [if_neg (show ¬ (false = true) by decide)] at H; exact H)
        clear H
        have H := H1
        clear H1
        have H' := Aside0.mk H
        clear H
        have hcz25_0 : wr.cell? ⟨gb126, 0, none⟩ = some (.slice A0_0 l0_0.length c0_0) := (blk_cell BK126.out 0).trans rfl
        have hcz25_1 : wr.cell? ⟨gb126, 1, none⟩ = some (.int .i64 a0_1) := (blk_cell BK126.out 1).trans rfl
        have hcz25_2 : wr.cell? ⟨gb126, 2, none⟩ = some (.int .i64 a0_2) := (blk_cell BK126.out 2).trans rfl
        have hfz25_0 := blk_frozen BK126.out 0
        have hfz25_1 := blk_frozen BK126.out 1
        have hfz25_2 := blk_frozen BK126.out 2
        go_wp2_with (first |  (go_at_call 54; (with_reducible refine (fringeref42_in.calls a0_2 1 100 false _ A21.out).mono ?_); rintro e w' ⟨rfl, ⟨nd, rfl⟩⟩; (try first | exact ⟨rfl, _, World.drewN_drewN _ _ _⟩ | exact ⟨rfl, _, Eq.trans (World.drewN_drewN _ _ _) (congrArg (World.drewN _) (Nat.add_assoc _ _ _))⟩)) | go_values | go_skip | go_guarded | go_step | go_upon | go_back | (simp only [Int.not_lt, Int.not_le] at *; go_simp) | (go_values <;> (try go_simp)) | (go_ite <;> go_prune <;> (try go_simp)) | (split <;> (first | (rename_i hx; exact (hx _ rfl).elim) | go_prune)) | go_quiet (fail))
        go_meet
        case rel => exact ⟨_, (true), (by first | rfl | (simp; done) | (simp [*]; done)), H', ⟨by have := HK1.out; first | omega | exact Nat.le_refl _⟩, ⟨by (with_reducible repeat (first | refine blk_drewN ?_ _ | refine blk_drew ?_ | refine blk_alloc ?_ _)); exact BK126.out⟩, ⟨by repeat (first | (with_reducible first | exact HB.out | apply below_alloc | apply pw_below_drewN | apply below_drew1 | refine below_set ?_ GE126.out) | exact HB.out)⟩⟩
     case rest =>
      clear HC17
      try clear c1
      try clear p1
      try clear q1
      try clear hx1
      try clear c2
      try clear c2b0
      try clear c2b1
      try clear p2
      try clear p6
      try clear c7
      try clear c7b0
      try clear c9
      try clear c9b0
      try clear c10
      try clear c10b0
      try clear c11
      try clear c11b0
      try clear c12
      try clear c12b0
      try clear p12
      try clear q12
      try clear hx12
      try clear c13
      try clear c13b0
      try clear c14
      try clear c14b0
      try clear c14b1
      try clear c19
      try clear c19b0
      try clear c19b1
      try clear c19b2
      try clear c22
      try clear hcz15_0
      try clear hcz15_1
      try clear hcz15_2
      try clear hcz16_0
      try clear hcz16_1
      try clear hcz16_2
      try clear hcz18_0
      try clear hcz18_1
      try clear hcz18_2
      try clear hcz20_0
      try clear hcz20_1
      try clear hcz20_2
      try clear hcz24_0
      try clear hcz24_1
      try clear hcz24_2
      try clear hcz25_0
      try clear hcz25_1
      try clear hcz25_2
      try clear hcz4_0
      try clear hcz4_1
      try clear hcz4_2
      try clear hcz6_0
      try clear hcz6_1
      try clear hcz6_2
      try clear hcz8_0
      try clear hcz8_1
      try clear hcz8_2
      try clear hfz15_0
      try clear hfz15_1
      try clear hfz15_2
      try clear hfz16_0
      try clear hfz16_1
      try clear hfz16_2
      try clear hfz18_0
      try clear hfz18_1
      try clear hfz18_2
      try clear hfz20_0
      try clear hfz20_1
      try clear hfz20_2
      try clear hfz24_0
      try clear hfz24_1
      try clear hfz24_2
      try clear hfz25_0
      try clear hfz25_1
      try clear hfz25_2
      try clear hfz4_0
      try clear hfz4_1
      try clear hfz4_2
      try clear hfz6_0
      try clear hfz6_1
      try clear hfz6_2
      try clear hfz8_0
      try clear hfz8_1
      try clear hfz8_2
      try clear hx127_0
      try clear hx127_1
      try clear hx127_2
      try clear hx127_3
      try clear hx128_0
      try clear hx128_1
      try clear hx128_2
      try clear hx128_3
      try clear p127
      try clear p128
      try clear p2
      try clear q127
      try clear q128
      obtain ⟨kq, x51_16, rfl, HA, HJ16, BK126, HB⟩ := hcut
      cases kq with
      | zero => exact absurd HA.out (by simp [fringeref42_Check.j2])
      | succ kj16 =>
       have H := HA.out
       clear HA
       simp only [fringeref42_Check.j2] at H
       by_cases c26 : x51_16 = true
       ·subst c26
        have H1 : (some 8) = some r := by first | (with_reducible rfl) | (rw [if_pos rfl] at H; exact H)
        clear H
        have H := H1
        clear H1
        obtain rfl := Option.some.inj H
        go_wp2
        repeat (go_quiet (fail); try go_wp2)
        go_ret
        exact ⟨by first | rfl | (simp [errW_none, errW_some] <;> rfl) | (simp [*, errW_none, errW_some] <;> rfl), by repeat (first | (with_reducible first | exact HB.out | apply below_alloc | apply pw_below_drewN | apply below_drew1 | refine below_set ?_ GE126.out) | exact HB.out)⟩
       ·replace c26 := Bool.eq_false_iff.mpr c26
        subst c26
        have H1 : (fringeref42_Check.l2 kj16 0 l0_0 a0_1 a0_2) = some r := by first | (with_reducible rfl) | (rw [if_neg (show ¬ (false = true) by decide)] at H; exact H)
        clear H
        have H := H1
        clear H1
        have H' := Aside0.mk H
        clear H
        go_wp2
        repeat (go_quiet (fail); try go_wp2)
        go_loopg [5] kj16 (fun kq v5 w' => ∃ (x5_3 : Int), v5 = .int .i64 x5_3 ∧ Aside0 (fringeref42_Check.l2 kq x5_3 l0_0 a0_1 a0_2 = some r) ∧ Aside0 (kq ≤ kj16) ∧ Aside0 (w'.heap[gb126]? = some (.cells #[(.slice A0_0 l0_0.length c0_0), .int .i64 a0_1, .int .i64 a0_2] 24 (0, 0))) ∧ Aside0 (Below w.heap.size w w'))
        case atStart => exact ⟨(0), (by first | rfl | (simp; done) | (simp [*]; done)), H', ⟨Nat.le_refl _⟩, ⟨by (with_reducible repeat (first | refine blk_drewN ?_ _ | refine blk_drew ?_ | refine blk_alloc ?_ _)); exact BK126.out⟩, ⟨by repeat (first | (with_reducible first | exact HB.out | apply below_alloc | apply pw_below_drewN | apply below_drew1 | refine below_set ?_ GE126.out) | exact HB.out)⟩⟩
        case round =>
         clear H'
         try clear c1
         try clear p1
         try clear q1
         try clear hx1
         try clear c2
         try clear c2b0
         try clear c2b1
         try clear p2
         try clear p6
         try clear c7
         try clear c7b0
         try clear c9
         try clear c9b0
         try clear c10
         try clear c10b0
         try clear c11
         try clear c11b0
         try clear c12
         try clear c12b0
         try clear p12
         try clear q12
         try clear hx12
         try clear c13
         try clear c13b0
         try clear c14
         try clear c14b0
         try clear c14b1
         try clear c19
         try clear c19b0
         try clear c19b1
         try clear c19b2
         try clear c22
         try clear c26
         try clear hcz15_0
         try clear hcz15_1
         try clear hcz15_2
         try clear hcz16_0
         try clear hcz16_1
         try clear hcz16_2
         try clear hcz18_0
         try clear hcz18_1
         try clear hcz18_2
         try clear hcz20_0
         try clear hcz20_1
         try clear hcz20_2
         try clear hcz24_0
         try clear hcz24_1
         try clear hcz24_2
         try clear hcz25_0
         try clear hcz25_1
         try clear hcz25_2
         try clear hcz4_0
         try clear hcz4_1
         try clear hcz4_2
         try clear hcz6_0
         try clear hcz6_1
         try clear hcz6_2
         try clear hcz8_0
         try clear hcz8_1
         try clear hcz8_2
         try clear hfz15_0
         try clear hfz15_1
         try clear hfz15_2
         try clear hfz16_0
         try clear hfz16_1
         try clear hfz16_2
         try clear hfz18_0
         try clear hfz18_1
         try clear hfz18_2
         try clear hfz20_0
         try clear hfz20_1
         try clear hfz20_2
         try clear hfz24_0
         try clear hfz24_1
         try clear hfz24_2
         try clear hfz25_0
         try clear hfz25_1
         try clear hfz25_2
         try clear hfz4_0
         try clear hfz4_1
         try clear hfz4_2
         try clear hfz6_0
         try clear hfz6_1
         try clear hfz6_2
         try clear hfz8_0
         try clear hfz8_1
         try clear hfz8_2
         try clear hx127_0
         try clear hx127_1
         try clear hx127_2
         try clear hx127_3
         try clear hx128_0
         try clear hx128_1
         try clear hx128_2
         try clear hx128_3
         try clear p1
         try clear p12
         try clear p127
         try clear p128
         try clear p2
         try clear p6
         try clear q1
         try clear q12
         try clear q127
         try clear q128
         obtain ⟨x5_3, rfl, HA, HK3, BK126, HB⟩ := hrel
         cases gk with
         | zero => exact absurd HA.out (by simp [fringeref42_Check.l2])
         | succ k3 =>
          have H := HA.out
          clear HA
          simp only [fringeref42_Check.l2] at H
          by_cases c27 : x5_3 < (l0_0.length : Int)
          ·rw [if_pos c27] at H
           have c27b0 : decide (x5_3 < (l0_0.length : Int)) = true := decide_eq_true c27
           clear c27
           by_cases c28 : 0 ≤ x5_3
           ·rw [if_pos c28] at H
            have c28b0 : decide (0 ≤ x5_3) = true := decide_eq_true c28
            clear c28
            have HC29 := Aside0.mk H
            clear H
            have hcz30_0 : wr.cell? ⟨gb126, 0, none⟩ = some (.slice A0_0 l0_0.length c0_0) := (blk_cell BK126.out 0).trans rfl
            have hcz30_1 : wr.cell? ⟨gb126, 1, none⟩ = some (.int .i64 a0_1) := (blk_cell BK126.out 1).trans rfl
            have hcz30_2 : wr.cell? ⟨gb126, 2, none⟩ = some (.int .i64 a0_2) := (blk_cell BK126.out 2).trans rfl
            have hfz30_0 := blk_frozen BK126.out 0
            have hfz30_1 := blk_frozen BK126.out 1
            have hfz30_2 := blk_frozen BK126.out 2
            have p131 : 0 ≤ (x5_3 : Int) := of_decide_eq_true (by first | (with_reducible assumption) | assumption)
            have q131 : x5_3 < (l0_0.length : Int) := of_decide_eq_true (by first | (with_reducible assumption) | assumption)
            obtain ⟨ad131, e131, hx131_0, hx131_1, hx131_2, hx131_3⟩ := at_T42 HR0_0.out x5_3 p131 q131
            cases e131
            replace hx131_0 := (HB.out.cell (World.block_lt_of_cell? w _ hx131_0)).trans hx131_0
            replace hx131_1 := (HB.out.cell (World.block_lt_of_cell? w _ hx131_1)).trans hx131_1
            replace hx131_2 := (HB.out.cell (World.block_lt_of_cell? w _ hx131_2)).trans hx131_2
            replace hx131_3 := (HB.out.cell (World.block_lt_of_cell? w _ hx131_3)).trans hx131_3
            replace p131 := eq_true p131
            replace q131 := eq_true q131
            go_upto_region 17 with (first | ((with_reducible refine gate_dst (N := 6) rfl ?_); refine box_event ?hg (N := 6) ?hd (cs := #[.string (⟨#[]⟩ : ByteArray), .int .i64 0, .int .i64 0, .int .i64 0]) (t := 42) ?hr ?_; (case hd => rfl); (case hg => rfl); (case hr => first | (go_simp; done) | (go_simp; rfl)); intro gb132 hg w31 hbox hb; have n0_ := Aside0.mk (blk_below (g := gb126) (o := .cells #[.slice (some ad131) l0_0.length c0_0, .int .i64 a0_1, .int .i64 a0_2] 24 (0, 0)) (by (with_reducible repeat (first | refine blk_drewN ?_ _ | refine blk_drew ?_ | refine blk_alloc ?_ _)); exact BK126.out) hb); have n1_ := Aside0.mk (below_step (by repeat (first | (with_reducible first | exact HB.out | apply below_alloc | apply pw_below_drewN | apply below_drew1 | refine below_set ?_ GE126.out) | exact HB.out)) hb); have n2_ := Aside0.mk (hbox); have n3_ := Aside0.mk ((by rw [hg]; exact (below_size (by repeat (first | (with_reducible first | exact HB.out | apply below_alloc | apply pw_below_drewN | apply below_drew1 | refine below_set ?_ GE126.out) | exact HB.out))) : w.heap.size ≤ gb132)); have n4_ := Aside0.mk ((by rw [hg]; exact (below_size (by repeat (first | (with_reducible first | exact HB.out | apply below_alloc | apply pw_below_drewN | apply below_drew1 | refine below_set ?_ GE126.out) | exact HB.out))) : w.heap.size ≤ gb132)); have n5_ := Aside0.mk ((by rw [hg]; exact Nat.ne_of_lt (blk_lt (g := gb126) (o := .cells #[.slice (some ad131) l0_0.length c0_0, .int .i64 a0_1, .int .i64 a0_2] 24 (0, 0)) (by (with_reducible repeat (first | refine blk_drewN ?_ _ | refine blk_drew ?_ | refine blk_alloc ?_ _)); exact BK126.out)) : gb126 ≠ gb132)); have n6_ := Aside0.mk ((by rw [hg]; exact Nat.ne_of_gt (blk_lt (g := gb126) (o := .cells #[.slice (some ad131) l0_0.length c0_0, .int .i64 a0_1, .int .i64 a0_2] 24 (0, 0)) (by (with_reducible repeat (first | refine blk_drewN ?_ _ | refine blk_drew ?_ | refine blk_alloc ?_ _)); exact BK126.out)) : gb132 ≠ gb126)); clear BK126; clear HB; have BK126 := n0_; have HB := n1_; have BK132 := n2_; have GW132 := n3_; have GE132 := n4_; have NB126_132 := n5_; have NB132_126 := n6_; clear n0_ n1_ n2_ n3_ n4_ n5_ n6_; clear hb hbox hg; have hnb32 := NB132_126.out; have hnc32 := NB126_132.out; have hcz33_0 : w31.cell? ⟨gb132, 0, none⟩ = some (.string (⟨#[]⟩ : ByteArray)) := (blk_cell BK132.out 0).trans rfl; have hcz33_1 : w31.cell? ⟨gb132, 1, none⟩ = some (.int .i64 0) := (blk_cell BK132.out 1).trans rfl; have hcz33_2 : w31.cell? ⟨gb132, 2, none⟩ = some (.int .i64 0) := (blk_cell BK132.out 2).trans rfl; have hcz33_3 : w31.cell? ⟨gb132, 3, none⟩ = some (.int .i64 0) := (blk_cell BK132.out 3).trans rfl; have hfz33_0 := blk_frozen BK132.out 0; have hfz33_1 := blk_frozen BK132.out 1; have hfz33_2 := blk_frozen BK132.out 2; have hfz33_3 := blk_frozen BK132.out 3))
            repeat (go_quiet (fail); go_upto_region 17 with (first | ((with_reducible refine gate_dst (N := 6) rfl ?_); refine box_event ?hg (N := 6) ?hd (cs := #[.string (⟨#[]⟩ : ByteArray), .int .i64 0, .int .i64 0, .int .i64 0]) (t := 42) ?hr ?_; (case hd => rfl); (case hg => rfl); (case hr => first | (go_simp; done) | (go_simp; rfl)); intro gb132 hg w31 hbox hb; have n0_ := Aside0.mk (blk_below (g := gb126) (o := .cells #[.slice (some ad131) l0_0.length c0_0, .int .i64 a0_1, .int .i64 a0_2] 24 (0, 0)) (by (with_reducible repeat (first | refine blk_drewN ?_ _ | refine blk_drew ?_ | refine blk_alloc ?_ _)); exact BK126.out) hb); have n1_ := Aside0.mk (below_step (by repeat (first | (with_reducible first | exact HB.out | apply below_alloc | apply pw_below_drewN | apply below_drew1 | refine below_set ?_ GE126.out) | exact HB.out)) hb); have n2_ := Aside0.mk (hbox); have n3_ := Aside0.mk ((by rw [hg]; exact (below_size (by repeat (first | (with_reducible first | exact HB.out | apply below_alloc | apply pw_below_drewN | apply below_drew1 | refine below_set ?_ GE126.out) | exact HB.out))) : w.heap.size ≤ gb132)); have n4_ := Aside0.mk ((by rw [hg]; exact (below_size (by repeat (first | (with_reducible first | exact HB.out | apply below_alloc | apply pw_below_drewN | apply below_drew1 | refine below_set ?_ GE126.out) | exact HB.out))) : w.heap.size ≤ gb132)); have n5_ := Aside0.mk ((by rw [hg]; exact Nat.ne_of_lt (blk_lt (g := gb126) (o := .cells #[.slice (some ad131) l0_0.length c0_0, .int .i64 a0_1, .int .i64 a0_2] 24 (0, 0)) (by (with_reducible repeat (first | refine blk_drewN ?_ _ | refine blk_drew ?_ | refine blk_alloc ?_ _)); exact BK126.out)) : gb126 ≠ gb132)); have n6_ := Aside0.mk ((by rw [hg]; exact Nat.ne_of_gt (blk_lt (g := gb126) (o := .cells #[.slice (some ad131) l0_0.length c0_0, .int .i64 a0_1, .int .i64 a0_2] 24 (0, 0)) (by (with_reducible repeat (first | refine blk_drewN ?_ _ | refine blk_drew ?_ | refine blk_alloc ?_ _)); exact BK126.out)) : gb132 ≠ gb126)); clear BK126; clear HB; have BK126 := n0_; have HB := n1_; have BK132 := n2_; have GW132 := n3_; have GE132 := n4_; have NB126_132 := n5_; have NB132_126 := n6_; clear n0_ n1_ n2_ n3_ n4_ n5_ n6_; clear hb hbox hg; have hnb32 := NB132_126.out; have hnc32 := NB126_132.out; have hcz33_0 : w31.cell? ⟨gb132, 0, none⟩ = some (.string (⟨#[]⟩ : ByteArray)) := (blk_cell BK132.out 0).trans rfl; have hcz33_1 : w31.cell? ⟨gb132, 1, none⟩ = some (.int .i64 0) := (blk_cell BK132.out 1).trans rfl; have hcz33_2 : w31.cell? ⟨gb132, 2, none⟩ = some (.int .i64 0) := (blk_cell BK132.out 2).trans rfl; have hcz33_3 : w31.cell? ⟨gb132, 3, none⟩ = some (.int .i64 0) := (blk_cell BK132.out 3).trans rfl; have hfz33_0 := blk_frozen BK132.out 0; have hfz33_1 := blk_frozen BK132.out 1; have hfz33_2 := blk_frozen BK132.out 2; have hfz33_3 := blk_frozen BK132.out 3)))
            (try simp only [Act.put, List.setIfInBounds_toArray, List.set_cons_zero, List.set_cons_succ])
            go_cut [85] (fun v85 wc => ∃ (kq : Nat) (x85_28 : Bool), v85 = .bool x85_28 ∧ Aside0 (fringeref42_Check.j4 kq x5_3 x85_28 l0_0 a0_1 a0_2 ((rd_T42 l0_0 x5_3).f0) ((rd_T42 l0_0 x5_3).f1) ((rd_T42 l0_0 x5_3).f2) ((rd_T42 l0_0 x5_3).f3) = some r) ∧ Aside0 (kq ≤ k3) ∧ Aside0 (wc.heap[gb126]? = some (.cells #[(.slice (some ad131) l0_0.length c0_0), .int .i64 a0_1, .int .i64 a0_2] 24 (0, 0))) ∧ Aside0 (wc.heap[gb132]? = some (.cells #[.string ((rd_T42 l0_0 x5_3).f0), .int .i64 ((rd_T42 l0_0 x5_3).f1), .int .i64 ((rd_T42 l0_0 x5_3).f2), .int .i64 ((rd_T42 l0_0 x5_3).f3)] 42 (0, 0))) ∧ Aside0 (Below w.heap.size w wc))
            case first =>
             have H := HC29.out
             clear HC29
             replace H := Option.bind_eq_some_iff.mp H
             obtain ⟨t133, A340, H⟩ := H
             replace H : (if t133 = true then ((fringeref42_in.f ((rd_T42 l0_0 x5_3).f1) 1 100).bind fun t134 => (if t134 = true then ((fringeref42_in.f ((rd_T42 l0_0 x5_3).f2) 0 1000000).bind fun t135 => (if t135 = true then ((fringeref42_in.f ((rd_T42 l0_0 x5_3).f3) 0 1000).bind fun t136 => (fringeref42_Check.j4 k3 x5_3 (!t136) l0_0 a0_1 a0_2 ((rd_T42 l0_0 x5_3).f0) ((rd_T42 l0_0 x5_3).f1) ((rd_T42 l0_0 x5_3).f2) ((rd_T42 l0_0 x5_3).f3))) else (fringeref42_Check.j4 k3 x5_3 true l0_0 a0_1 a0_2 ((rd_T42 l0_0 x5_3).f0) ((rd_T42 l0_0 x5_3).f1) ((rd_T42 l0_0 x5_3).f2) ((rd_T42 l0_0 x5_3).f3)))) else (fringeref42_Check.j4 k3 x5_3 true l0_0 a0_1 a0_2 ((rd_T42 l0_0 x5_3).f0) ((rd_T42 l0_0 x5_3).f1) ((rd_T42 l0_0 x5_3).f2) ((rd_T42 l0_0 x5_3).f3)))) else (fringeref42_Check.j4 k3 x5_3 true l0_0 a0_1 a0_2 ((rd_T42 l0_0 x5_3).f0) ((rd_T42 l0_0 x5_3).f1) ((rd_T42 l0_0 x5_3).f2) ((rd_T42 l0_0 x5_3).f3))) = some r := H
             have A34 := Aside0.mk A340
             clear A340
             by_cases c35 : t133 = true
             ·subst c35
              have H1 : ((fringeref42_in.f ((rd_T42 l0_0 x5_3).f1) 1 100).bind fun t134 => (if t134 = true then ((fringeref42_in.f ((rd_T42 l0_0 x5_3).f2) 0 1000000).bind fun t135 => (if t135 = true then ((fringeref42_in.f ((rd_T42 l0_0 x5_3).f3) 0 1000).bind fun t136 => (fringeref42_Check.j4 k3 x5_3 (!t136) l0_0 a0_1 a0_2 ((rd_T42 l0_0 x5_3).f0) ((rd_T42 l0_0 x5_3).f1) ((rd_T42 l0_0 x5_3).f2) ((rd_T42 l0_0 x5_3).f3))) else (fringeref42_Check.j4 k3 x5_3 true l0_0 a0_1 a0_2 ((rd_T42 l0_0 x5_3).f0) ((rd_T42 l0_0 x5_3).f1) ((rd_T42 l0_0 x5_3).f2) ((rd_T42 l0_0 x5_3).f3)))) else (fringeref42_Check.j4 k3 x5_3 true l0_0 a0_1 a0_2 ((rd_T42 l0_0 x5_3).f0) ((rd_T42 l0_0 x5_3).f1) ((rd_T42 l0_0 x5_3).f2) ((rd_T42 l0_0 x5_3).f3)))) = some r := by first | (with_reducible rfl) | (rw [if_pos rfl] at H; exact H)
              clear H
              have H := H1
              clear H1
              replace H := Option.bind_eq_some_iff.mp H
              obtain ⟨t134, A360, H⟩ := H
              replace H : (if t134 = true then ((fringeref42_in.f ((rd_T42 l0_0 x5_3).f2) 0 1000000).bind fun t135 => (if t135 = true then ((fringeref42_in.f ((rd_T42 l0_0 x5_3).f3) 0 1000).bind fun t136 => (fringeref42_Check.j4 k3 x5_3 (!t136) l0_0 a0_1 a0_2 ((rd_T42 l0_0 x5_3).f0) ((rd_T42 l0_0 x5_3).f1) ((rd_T42 l0_0 x5_3).f2) ((rd_T42 l0_0 x5_3).f3))) else (fringeref42_Check.j4 k3 x5_3 true l0_0 a0_1 a0_2 ((rd_T42 l0_0 x5_3).f0) ((rd_T42 l0_0 x5_3).f1) ((rd_T42 l0_0 x5_3).f2) ((rd_T42 l0_0 x5_3).f3)))) else (fringeref42_Check.j4 k3 x5_3 true l0_0 a0_1 a0_2 ((rd_T42 l0_0 x5_3).f0) ((rd_T42 l0_0 x5_3).f1) ((rd_T42 l0_0 x5_3).f2) ((rd_T42 l0_0 x5_3).f3))) = some r := H
              have A36 := Aside0.mk A360
              clear A360
              by_cases c37 : t134 = true
              ·subst c37
               have H1 : ((fringeref42_in.f ((rd_T42 l0_0 x5_3).f2) 0 1000000).bind fun t135 => (if t135 = true then ((fringeref42_in.f ((rd_T42 l0_0 x5_3).f3) 0 1000).bind fun t136 => (fringeref42_Check.j4 k3 x5_3 (!t136) l0_0 a0_1 a0_2 ((rd_T42 l0_0 x5_3).f0) ((rd_T42 l0_0 x5_3).f1) ((rd_T42 l0_0 x5_3).f2) ((rd_T42 l0_0 x5_3).f3))) else (fringeref42_Check.j4 k3 x5_3 true l0_0 a0_1 a0_2 ((rd_T42 l0_0 x5_3).f0) ((rd_T42 l0_0 x5_3).f1) ((rd_T42 l0_0 x5_3).f2) ((rd_T42 l0_0 x5_3).f3)))) = some r := by first | (with_reducible rfl) | (rw [if_pos rfl] at H; exact H)
               clear H
               have H := H1
               clear H1
               replace H := Option.bind_eq_some_iff.mp H
               obtain ⟨t135, A380, H⟩ := H
               replace H : (if t135 = true then ((fringeref42_in.f ((rd_T42 l0_0 x5_3).f3) 0 1000).bind fun t136 => (fringeref42_Check.j4 k3 x5_3 (!t136) l0_0 a0_1 a0_2 ((rd_T42 l0_0 x5_3).f0) ((rd_T42 l0_0 x5_3).f1) ((rd_T42 l0_0 x5_3).f2) ((rd_T42 l0_0 x5_3).f3))) else (fringeref42_Check.j4 k3 x5_3 true l0_0 a0_1 a0_2 ((rd_T42 l0_0 x5_3).f0) ((rd_T42 l0_0 x5_3).f1) ((rd_T42 l0_0 x5_3).f2) ((rd_T42 l0_0 x5_3).f3))) = some r := H
               have A38 := Aside0.mk A380
               clear A380
               by_cases c39 : t135 = true
               ·subst c39
                have H1 : ((fringeref42_in.f ((rd_T42 l0_0 x5_3).f3) 0 1000).bind fun t136 => (fringeref42_Check.j4 k3 x5_3 (!t136) l0_0 a0_1 a0_2 ((rd_T42 l0_0 x5_3).f0) ((rd_T42 l0_0 x5_3).f1) ((rd_T42 l0_0 x5_3).f2) ((rd_T42 l0_0 x5_3).f3))) = some r := by first | (with_reducible rfl) | (rw [if_pos rfl] at H; exact H)
                clear H
                have H := H1
                clear H1
                replace H := Option.bind_eq_some_iff.mp H
                obtain ⟨t136, A400, H⟩ := H
                replace H : (fringeref42_Check.j4 k3 x5_3 (!t136) l0_0 a0_1 a0_2 ((rd_T42 l0_0 x5_3).f0) ((rd_T42 l0_0 x5_3).f1) ((rd_T42 l0_0 x5_3).f2) ((rd_T42 l0_0 x5_3).f3)) = some r := H
                have A40 := Aside0.mk A400
                clear A400
                have H' := Aside0.mk H
                clear H
                have hnb41 := NB132_126.out
                have hnc41 := NB126_132.out
                have hcz42_0 : w31.cell? ⟨gb132, 0, none⟩ = some (.string (⟨#[]⟩ : ByteArray)) := (blk_cell BK132.out 0).trans rfl
                have hcz42_1 : w31.cell? ⟨gb132, 1, none⟩ = some (.int .i64 0) := (blk_cell BK132.out 1).trans rfl
                have hcz42_2 : w31.cell? ⟨gb132, 2, none⟩ = some (.int .i64 0) := (blk_cell BK132.out 2).trans rfl
                have hcz42_3 : w31.cell? ⟨gb132, 3, none⟩ = some (.int .i64 0) := (blk_cell BK132.out 3).trans rfl
                have hfz42_0 := blk_frozen BK132.out 0
                have hfz42_1 := blk_frozen BK132.out 1
                have hfz42_2 := blk_frozen BK132.out 2
                have hfz42_3 := blk_frozen BK132.out 3
                go_wp2_with (first |  (go_at_call 55; (with_reducible refine (fringeref42_Name.calls k3 ((rd_T42 l0_0 x5_3).f0) true _ A34.out).mono ?_); rintro e w' ⟨rfl, ⟨nd, rfl⟩⟩; (try first | exact ⟨rfl, _, World.drewN_drewN _ _ _⟩ | exact ⟨rfl, _, Eq.trans (World.drewN_drewN _ _ _) (congrArg (World.drewN _) (Nat.add_assoc _ _ _))⟩)) | (go_at_call 54; (with_reducible refine (fringeref42_in.calls ((rd_T42 l0_0 x5_3).f1) 1 100 true _ A36.out).mono ?_); rintro e w' ⟨rfl, ⟨nd, rfl⟩⟩; (try first | exact ⟨rfl, _, World.drewN_drewN _ _ _⟩ | exact ⟨rfl, _, Eq.trans (World.drewN_drewN _ _ _) (congrArg (World.drewN _) (Nat.add_assoc _ _ _))⟩)) | (go_at_call 54; (with_reducible refine (fringeref42_in.calls ((rd_T42 l0_0 x5_3).f2) 0 1000000 true _ A38.out).mono ?_); rintro e w' ⟨rfl, ⟨nd, rfl⟩⟩; (try first | exact ⟨rfl, _, World.drewN_drewN _ _ _⟩ | exact ⟨rfl, _, Eq.trans (World.drewN_drewN _ _ _) (congrArg (World.drewN _) (Nat.add_assoc _ _ _))⟩)) | (go_at_call 54; (with_reducible refine (fringeref42_in.calls ((rd_T42 l0_0 x5_3).f3) 0 1000 t136 _ A40.out).mono ?_); rintro e w' ⟨rfl, ⟨nd, rfl⟩⟩; (try first | exact ⟨rfl, _, World.drewN_drewN _ _ _⟩ | exact ⟨rfl, _, Eq.trans (World.drewN_drewN _ _ _) (congrArg (World.drewN _) (Nat.add_assoc _ _ _))⟩)) | go_values | go_skip | go_guarded | go_step | go_upon | go_back | (simp only [Int.not_lt, Int.not_le] at *; go_simp) | (go_values <;> (try go_simp)) | (go_ite <;> go_prune <;> (try go_simp)) | (split <;> (first | (rename_i hx; exact (hx _ rfl).elim) | go_prune)) | go_quiet (fail))
                go_meet
                case rel => exact ⟨_, (!t136), (by first | rfl | (simp; done) | (simp [*]; done)), H', ⟨by have := HK1.out; have := HJ16.out; have := HK3.out; first | omega | exact Nat.le_refl _⟩, ⟨by (with_reducible repeat (first | refine blk_drewN ?_ _ | refine blk_drew ?_ | refine blk_alloc ?_ _)); refine blk_far ?_ NB126_132.out _; (with_reducible repeat (first | refine blk_drewN ?_ _ | refine blk_drew ?_ | refine blk_alloc ?_ _)); refine blk_far ?_ NB126_132.out _; (with_reducible repeat (first | refine blk_drewN ?_ _ | refine blk_drew ?_ | refine blk_alloc ?_ _)); refine blk_far ?_ NB126_132.out _; (with_reducible repeat (first | refine blk_drewN ?_ _ | refine blk_drew ?_ | refine blk_alloc ?_ _)); refine blk_far ?_ NB126_132.out _; (with_reducible repeat (first | refine blk_drewN ?_ _ | refine blk_drew ?_ | refine blk_alloc ?_ _)); exact BK126.out⟩, ⟨by (with_reducible repeat (first | refine blk_drewN ?_ _ | refine blk_drew ?_ | refine blk_alloc ?_ _)); refine blk_put (cs := #[.string ((rd_T42 l0_0 x5_3).f0), .int .i64 ((rd_T42 l0_0 x5_3).f1), .int .i64 ((rd_T42 l0_0 x5_3).f2), .int .i64 0]) ?_ 3 _ rfl; (with_reducible repeat (first | refine blk_drewN ?_ _ | refine blk_drew ?_ | refine blk_alloc ?_ _)); refine blk_put (cs := #[.string ((rd_T42 l0_0 x5_3).f0), .int .i64 ((rd_T42 l0_0 x5_3).f1), .int .i64 0, .int .i64 0]) ?_ 2 _ rfl; (with_reducible repeat (first | refine blk_drewN ?_ _ | refine blk_drew ?_ | refine blk_alloc ?_ _)); refine blk_put (cs := #[.string ((rd_T42 l0_0 x5_3).f0), .int .i64 0, .int .i64 0, .int .i64 0]) ?_ 1 _ rfl; (with_reducible repeat (first | refine blk_drewN ?_ _ | refine blk_drew ?_ | refine blk_alloc ?_ _)); refine blk_put (cs := #[.string (⟨#[]⟩ : ByteArray), .int .i64 0, .int .i64 0, .int .i64 0]) ?_ 0 _ rfl; (with_reducible repeat (first | refine blk_drewN ?_ _ | refine blk_drew ?_ | refine blk_alloc ?_ _)); exact BK132.out⟩, ⟨by repeat (first | (with_reducible first | exact HB.out | apply below_alloc | apply pw_below_drewN | apply below_drew1 | refine below_set ?_ GE126.out | refine below_set ?_ GE132.out) | exact HB.out)⟩⟩
               ·replace c39 := Bool.eq_false_iff.mpr c39
                subst c39
                have H1 : (fringeref42_Check.j4 k3 x5_3 true l0_0 a0_1 a0_2 ((rd_T42 l0_0 x5_3).f0) ((rd_T42 l0_0 x5_3).f1) ((rd_T42 l0_0 x5_3).f2) ((rd_T42 l0_0 x5_3).f3)) = some r := by first | (with_reducible rfl) | (rw [if_neg (show ¬ (false = true) by decide)] at H; exact H)
                clear H
                have H := H1
                clear H1
                have H' := Aside0.mk H
                clear H
                have hnb43 := NB132_126.out
                have hnc43 := NB126_132.out
                have hcz44_0 : w31.cell? ⟨gb132, 0, none⟩ = some (.string (⟨#[]⟩ : ByteArray)) := (blk_cell BK132.out 0).trans rfl
                have hcz44_1 : w31.cell? ⟨gb132, 1, none⟩ = some (.int .i64 0) := (blk_cell BK132.out 1).trans rfl
                have hcz44_2 : w31.cell? ⟨gb132, 2, none⟩ = some (.int .i64 0) := (blk_cell BK132.out 2).trans rfl
                have hcz44_3 : w31.cell? ⟨gb132, 3, none⟩ = some (.int .i64 0) := (blk_cell BK132.out 3).trans rfl
                have hfz44_0 := blk_frozen BK132.out 0
                have hfz44_1 := blk_frozen BK132.out 1
                have hfz44_2 := blk_frozen BK132.out 2
                have hfz44_3 := blk_frozen BK132.out 3
                go_wp2_with (first |  (go_at_call 55; (with_reducible refine (fringeref42_Name.calls k3 ((rd_T42 l0_0 x5_3).f0) true _ A34.out).mono ?_); rintro e w' ⟨rfl, ⟨nd, rfl⟩⟩; (try first | exact ⟨rfl, _, World.drewN_drewN _ _ _⟩ | exact ⟨rfl, _, Eq.trans (World.drewN_drewN _ _ _) (congrArg (World.drewN _) (Nat.add_assoc _ _ _))⟩)) | (go_at_call 54; (with_reducible refine (fringeref42_in.calls ((rd_T42 l0_0 x5_3).f1) 1 100 true _ A36.out).mono ?_); rintro e w' ⟨rfl, ⟨nd, rfl⟩⟩; (try first | exact ⟨rfl, _, World.drewN_drewN _ _ _⟩ | exact ⟨rfl, _, Eq.trans (World.drewN_drewN _ _ _) (congrArg (World.drewN _) (Nat.add_assoc _ _ _))⟩)) | (go_at_call 54; (with_reducible refine (fringeref42_in.calls ((rd_T42 l0_0 x5_3).f2) 0 1000000 false _ A38.out).mono ?_); rintro e w' ⟨rfl, ⟨nd, rfl⟩⟩; (try first | exact ⟨rfl, _, World.drewN_drewN _ _ _⟩ | exact ⟨rfl, _, Eq.trans (World.drewN_drewN _ _ _) (congrArg (World.drewN _) (Nat.add_assoc _ _ _))⟩)) | go_values | go_skip | go_guarded | go_step | go_upon | go_back | (simp only [Int.not_lt, Int.not_le] at *; go_simp) | (go_values <;> (try go_simp)) | (go_ite <;> go_prune <;> (try go_simp)) | (split <;> (first | (rename_i hx; exact (hx _ rfl).elim) | go_prune)) | go_quiet (fail))
                go_meet
                case rel => exact ⟨_, (true), (by first | rfl | (simp; done) | (simp [*]; done)), H', ⟨by have := HK1.out; have := HJ16.out; have := HK3.out; first | omega | exact Nat.le_refl _⟩, ⟨by (with_reducible repeat (first | refine blk_drewN ?_ _ | refine blk_drew ?_ | refine blk_alloc ?_ _)); refine blk_far ?_ NB126_132.out _; (with_reducible repeat (first | refine blk_drewN ?_ _ | refine blk_drew ?_ | refine blk_alloc ?_ _)); refine blk_far ?_ NB126_132.out _; (with_reducible repeat (first | refine blk_drewN ?_ _ | refine blk_drew ?_ | refine blk_alloc ?_ _)); refine blk_far ?_ NB126_132.out _; (with_reducible repeat (first | refine blk_drewN ?_ _ | refine blk_drew ?_ | refine blk_alloc ?_ _)); refine blk_far ?_ NB126_132.out _; (with_reducible repeat (first | refine blk_drewN ?_ _ | refine blk_drew ?_ | refine blk_alloc ?_ _)); exact BK126.out⟩, ⟨by (with_reducible repeat (first | refine blk_drewN ?_ _ | refine blk_drew ?_ | refine blk_alloc ?_ _)); refine blk_put (cs := #[.string ((rd_T42 l0_0 x5_3).f0), .int .i64 ((rd_T42 l0_0 x5_3).f1), .int .i64 ((rd_T42 l0_0 x5_3).f2), .int .i64 0]) ?_ 3 _ rfl; (with_reducible repeat (first | refine blk_drewN ?_ _ | refine blk_drew ?_ | refine blk_alloc ?_ _)); refine blk_put (cs := #[.string ((rd_T42 l0_0 x5_3).f0), .int .i64 ((rd_T42 l0_0 x5_3).f1), .int .i64 0, .int .i64 0]) ?_ 2 _ rfl; (with_reducible repeat (first | refine blk_drewN ?_ _ | refine blk_drew ?_ | refine blk_alloc ?_ _)); refine blk_put (cs := #[.string ((rd_T42 l0_0 x5_3).f0), .int .i64 0, .int .i64 0, .int .i64 0]) ?_ 1 _ rfl; (with_reducible repeat (first | refine blk_drewN ?_ _ | refine blk_drew ?_ | refine blk_alloc ?_ _)); refine blk_put (cs := #[.string (⟨#[]⟩ : ByteArray), .int .i64 0, .int .i64 0, .int .i64 0]) ?_ 0 _ rfl; (with_reducible repeat (first | refine blk_drewN ?_ _ | refine blk_drew ?_ | refine blk_alloc ?_ _)); exact BK132.out⟩, ⟨by repeat (first | (with_reducible first | exact HB.out | apply below_alloc | apply pw_below_drewN | apply below_drew1 | refine below_set ?_ GE126.out | refine below_set ?_ GE132.out) | exact HB.out)⟩⟩
              ·replace c37 := Bool.eq_false_iff.mpr c37
               subst c37
               have H1 : (fringeref42_Check.j4 k3 x5_3 true l0_0 a0_1 a0_2 ((rd_T42 l0_0 x5_3).f0) ((rd_T42 l0_0 x5_3).f1) ((rd_T42 l0_0 x5_3).f2) ((rd_T42 l0_0 x5_3).f3)) = some r := by first | (with_reducible rfl) | (rw [if_neg (show ¬ (false = true) by decide)] at H; exact H)
               clear H
               have H := H1
               clear H1
               have H' := Aside0.mk H
               clear H
               have hnb45 := NB132_126.out
               have hnc45 := NB126_132.out
               have hcz46_0 : w31.cell? ⟨gb132, 0, none⟩ = some (.string (⟨#[]⟩ : ByteArray)) := (blk_cell BK132.out 0).trans rfl
               have hcz46_1 : w31.cell? ⟨gb132, 1, none⟩ = some (.int .i64 0) := (blk_cell BK132.out 1).trans rfl
               have hcz46_2 : w31.cell? ⟨gb132, 2, none⟩ = some (.int .i64 0) := (blk_cell BK132.out 2).trans rfl
               have hcz46_3 : w31.cell? ⟨gb132, 3, none⟩ = some (.int .i64 0) := (blk_cell BK132.out 3).trans rfl
               have hfz46_0 := blk_frozen BK132.out 0
               have hfz46_1 := blk_frozen BK132.out 1
               have hfz46_2 := blk_frozen BK132.out 2
               have hfz46_3 := blk_frozen BK132.out 3
               go_wp2_with (first |  (go_at_call 55; (with_reducible refine (fringeref42_Name.calls k3 ((rd_T42 l0_0 x5_3).f0) true _ A34.out).mono ?_); rintro e w' ⟨rfl, ⟨nd, rfl⟩⟩; (try first | exact ⟨rfl, _, World.drewN_drewN _ _ _⟩ | exact ⟨rfl, _, Eq.trans (World.drewN_drewN _ _ _) (congrArg (World.drewN _) (Nat.add_assoc _ _ _))⟩)) | (go_at_call 54; (with_reducible refine (fringeref42_in.calls ((rd_T42 l0_0 x5_3).f1) 1 100 false _ A36.out).mono ?_); rintro e w' ⟨rfl, ⟨nd, rfl⟩⟩; (try first | exact ⟨rfl, _, World.drewN_drewN _ _ _⟩ | exact ⟨rfl, _, Eq.trans (World.drewN_drewN _ _ _) (congrArg (World.drewN _) (Nat.add_assoc _ _ _))⟩)) | go_values | go_skip | go_guarded | go_step | go_upon | go_back | (simp only [Int.not_lt, Int.not_le] at *; go_simp) | (go_values <;> (try go_simp)) | (go_ite <;> go_prune <;> (try go_simp)) | (split <;> (first | (rename_i hx; exact (hx _ rfl).elim) | go_prune)) | go_quiet (fail))
               go_meet
               case rel => exact ⟨_, (true), (by first | rfl | (simp; done) | (simp [*]; done)), H', ⟨by have := HK1.out; have := HJ16.out; have := HK3.out; first | omega | exact Nat.le_refl _⟩, ⟨by (with_reducible repeat (first | refine blk_drewN ?_ _ | refine blk_drew ?_ | refine blk_alloc ?_ _)); refine blk_far ?_ NB126_132.out _; (with_reducible repeat (first | refine blk_drewN ?_ _ | refine blk_drew ?_ | refine blk_alloc ?_ _)); refine blk_far ?_ NB126_132.out _; (with_reducible repeat (first | refine blk_drewN ?_ _ | refine blk_drew ?_ | refine blk_alloc ?_ _)); refine blk_far ?_ NB126_132.out _; (with_reducible repeat (first | refine blk_drewN ?_ _ | refine blk_drew ?_ | refine blk_alloc ?_ _)); refine blk_far ?_ NB126_132.out _; (with_reducible repeat (first | refine blk_drewN ?_ _ | refine blk_drew ?_ | refine blk_alloc ?_ _)); exact BK126.out⟩, ⟨by (with_reducible repeat (first | refine blk_drewN ?_ _ | refine blk_drew ?_ | refine blk_alloc ?_ _)); refine blk_put (cs := #[.string ((rd_T42 l0_0 x5_3).f0), .int .i64 ((rd_T42 l0_0 x5_3).f1), .int .i64 ((rd_T42 l0_0 x5_3).f2), .int .i64 0]) ?_ 3 _ rfl; (with_reducible repeat (first | refine blk_drewN ?_ _ | refine blk_drew ?_ | refine blk_alloc ?_ _)); refine blk_put (cs := #[.string ((rd_T42 l0_0 x5_3).f0), .int .i64 ((rd_T42 l0_0 x5_3).f1), .int .i64 0, .int .i64 0]) ?_ 2 _ rfl; (with_reducible repeat (first | refine blk_drewN ?_ _ | refine blk_drew ?_ | refine blk_alloc ?_ _)); refine blk_put (cs := #[.string ((rd_T42 l0_0 x5_3).f0), .int .i64 0, .int .i64 0, .int .i64 0]) ?_ 1 _ rfl; (with_reducible repeat (first | refine blk_drewN ?_ _ | refine blk_drew ?_ | refine blk_alloc ?_ _)); refine blk_put (cs := #[.string (⟨#[]⟩ : ByteArray), .int .i64 0, .int .i64 0, .int .i64 0]) ?_ 0 _ rfl; (with_reducible repeat (first | refine blk_drewN ?_ _ | refine blk_drew ?_ | refine blk_alloc ?_ _)); exact BK132.out⟩, ⟨by repeat (first | (with_reducible first | exact HB.out | apply below_alloc | apply pw_below_drewN | apply below_drew1 | refine below_set ?_ GE126.out | refine below_set ?_ GE132.out) | exact HB.out)⟩⟩
             ·replace c35 := Bool.eq_false_iff.mpr c35
              subst c35
              have H1 : (fringeref42_Check.j4 k3 x5_3 true l0_0 a0_1 a0_2 ((rd_T42 l0_0 x5_3).f0) ((rd_T42 l0_0 x5_3).f1) ((rd_T42 l0_0 x5_3).f2) ((rd_T42 l0_0 x5_3).f3)) = some r := by first | (with_reducible rfl) | (rw [if_neg (show ¬ (false = true) by decide)] at H; exact H)
              clear H
              have H := H1
              clear H1
              have H' := Aside0.mk H
              clear H
              have hnb47 := NB132_126.out
              have hnc47 := NB126_132.out
              have hcz48_0 : w31.cell? ⟨gb132, 0, none⟩ = some (.string (⟨#[]⟩ : ByteArray)) := (blk_cell BK132.out 0).trans rfl
              have hcz48_1 : w31.cell? ⟨gb132, 1, none⟩ = some (.int .i64 0) := (blk_cell BK132.out 1).trans rfl
              have hcz48_2 : w31.cell? ⟨gb132, 2, none⟩ = some (.int .i64 0) := (blk_cell BK132.out 2).trans rfl
              have hcz48_3 : w31.cell? ⟨gb132, 3, none⟩ = some (.int .i64 0) := (blk_cell BK132.out 3).trans rfl
              have hfz48_0 := blk_frozen BK132.out 0
              have hfz48_1 := blk_frozen BK132.out 1
              have hfz48_2 := blk_frozen BK132.out 2
              have hfz48_3 := blk_frozen BK132.out 3
              go_wp2_with (first |  (go_at_call 55; (with_reducible refine (fringeref42_Name.calls k3 ((rd_T42 l0_0 x5_3).f0) false _ A34.out).mono ?_); rintro e w' ⟨rfl, ⟨nd, rfl⟩⟩; (try first | exact ⟨rfl, _, World.drewN_drewN _ _ _⟩ | exact ⟨rfl, _, Eq.trans (World.drewN_drewN _ _ _) (congrArg (World.drewN _) (Nat.add_assoc _ _ _))⟩)) | go_values | go_skip | go_guarded | go_step | go_upon | go_back | (simp only [Int.not_lt, Int.not_le] at *; go_simp) | (go_values <;> (try go_simp)) | (go_ite <;> go_prune <;> (try go_simp)) | (split <;> (first | (rename_i hx; exact (hx _ rfl).elim) | go_prune)) | go_quiet (fail))
              go_meet
              case rel => exact ⟨_, (true), (by first | rfl | (simp; done) | (simp [*]; done)), H', ⟨by have := HK1.out; have := HJ16.out; have := HK3.out; first | omega | exact Nat.le_refl _⟩, ⟨by (with_reducible repeat (first | refine blk_drewN ?_ _ | refine blk_drew ?_ | refine blk_alloc ?_ _)); refine blk_far ?_ NB126_132.out _; (with_reducible repeat (first | refine blk_drewN ?_ _ | refine blk_drew ?_ | refine blk_alloc ?_ _)); refine blk_far ?_ NB126_132.out _; (with_reducible repeat (first | refine blk_drewN ?_ _ | refine blk_drew ?_ | refine blk_alloc ?_ _)); refine blk_far ?_ NB126_132.out _; (with_reducible repeat (first | refine blk_drewN ?_ _ | refine blk_drew ?_ | refine blk_alloc ?_ _)); refine blk_far ?_ NB126_132.out _; (with_reducible repeat (first | refine blk_drewN ?_ _ | refine blk_drew ?_ | refine blk_alloc ?_ _)); exact BK126.out⟩, ⟨by (with_reducible repeat (first | refine blk_drewN ?_ _ | refine blk_drew ?_ | refine blk_alloc ?_ _)); refine blk_put (cs := #[.string ((rd_T42 l0_0 x5_3).f0), .int .i64 ((rd_T42 l0_0 x5_3).f1), .int .i64 ((rd_T42 l0_0 x5_3).f2), .int .i64 0]) ?_ 3 _ rfl; (with_reducible repeat (first | refine blk_drewN ?_ _ | refine blk_drew ?_ | refine blk_alloc ?_ _)); refine blk_put (cs := #[.string ((rd_T42 l0_0 x5_3).f0), .int .i64 ((rd_T42 l0_0 x5_3).f1), .int .i64 0, .int .i64 0]) ?_ 2 _ rfl; (with_reducible repeat (first | refine blk_drewN ?_ _ | refine blk_drew ?_ | refine blk_alloc ?_ _)); refine blk_put (cs := #[.string ((rd_T42 l0_0 x5_3).f0), .int .i64 0, .int .i64 0, .int .i64 0]) ?_ 1 _ rfl; (with_reducible repeat (first | refine blk_drewN ?_ _ | refine blk_drew ?_ | refine blk_alloc ?_ _)); refine blk_put (cs := #[.string (⟨#[]⟩ : ByteArray), .int .i64 0, .int .i64 0, .int .i64 0]) ?_ 0 _ rfl; (with_reducible repeat (first | refine blk_drewN ?_ _ | refine blk_drew ?_ | refine blk_alloc ?_ _)); exact BK132.out⟩, ⟨by repeat (first | (with_reducible first | exact HB.out | apply below_alloc | apply pw_below_drewN | apply below_drew1 | refine below_set ?_ GE126.out | refine below_set ?_ GE132.out) | exact HB.out)⟩⟩
            case rest =>
             clear HC29
             try clear c1
             try clear p1
             try clear q1
             try clear hx1
             try clear c2
             try clear c2b0
             try clear c2b1
             try clear p2
             try clear c3
             try clear c4
             try clear p6
             try clear c7
             try clear c7b0
             try clear c9
             try clear c9b0
             try clear c10
             try clear c10b0
             try clear c11
             try clear c11b0
             try clear c12
             try clear c12b0
             try clear p12
             try clear q12
             try clear hx12
             try clear c13
             try clear c13b0
             try clear p13
             try clear q13
             try clear hx13
             try clear c14
             try clear c14b0
             try clear c14b1
             try clear c19
             try clear c19b0
             try clear c19b1
             try clear c19b2
             try clear c22
             try clear c26
             try clear c27
             try clear c27b0
             try clear c28
             try clear c28b0
             try clear c32
             try clear c35
             try clear c37
             try clear c39
             try clear c41
             try clear c43
             try clear c45
             try clear c47
             try clear hcz15_0
             try clear hcz15_1
             try clear hcz15_2
             try clear hcz16_0
             try clear hcz16_1
             try clear hcz16_2
             try clear hcz18_0
             try clear hcz18_1
             try clear hcz18_2
             try clear hcz20_0
             try clear hcz20_1
             try clear hcz20_2
             try clear hcz24_0
             try clear hcz24_1
             try clear hcz24_2
             try clear hcz25_0
             try clear hcz25_1
             try clear hcz25_2
             try clear hcz30_0
             try clear hcz30_1
             try clear hcz30_2
             try clear hcz33_0
             try clear hcz33_1
             try clear hcz33_2
             try clear hcz33_3
             try clear hcz42_0
             try clear hcz42_1
             try clear hcz42_2
             try clear hcz42_3
             try clear hcz44_0
             try clear hcz44_1
             try clear hcz44_2
             try clear hcz44_3
             try clear hcz46_0
             try clear hcz46_1
             try clear hcz46_2
             try clear hcz46_3
             try clear hcz48_0
             try clear hcz48_1
             try clear hcz48_2
             try clear hcz48_3
             try clear hcz4_0
             try clear hcz4_1
             try clear hcz4_2
             try clear hcz6_0
             try clear hcz6_1
             try clear hcz6_2
             try clear hcz8_0
             try clear hcz8_1
             try clear hcz8_2
             try clear hfz15_0
             try clear hfz15_1
             try clear hfz15_2
             try clear hfz16_0
             try clear hfz16_1
             try clear hfz16_2
             try clear hfz18_0
             try clear hfz18_1
             try clear hfz18_2
             try clear hfz20_0
             try clear hfz20_1
             try clear hfz20_2
             try clear hfz24_0
             try clear hfz24_1
             try clear hfz24_2
             try clear hfz25_0
             try clear hfz25_1
             try clear hfz25_2
             try clear hfz30_0
             try clear hfz30_1
             try clear hfz30_2
             try clear hfz33_0
             try clear hfz33_1
             try clear hfz33_2
             try clear hfz33_3
             try clear hfz42_0
             try clear hfz42_1
             try clear hfz42_2
             try clear hfz42_3
             try clear hfz44_0
             try clear hfz44_1
             try clear hfz44_2
             try clear hfz44_3
             try clear hfz46_0
             try clear hfz46_1
             try clear hfz46_2
             try clear hfz46_3
             try clear hfz48_0
             try clear hfz48_1
             try clear hfz48_2
             try clear hfz48_3
             try clear hfz4_0
             try clear hfz4_1
             try clear hfz4_2
             try clear hfz6_0
             try clear hfz6_1
             try clear hfz6_2
             try clear hfz8_0
             try clear hfz8_1
             try clear hfz8_2
             try clear hx127_0
             try clear hx127_1
             try clear hx127_2
             try clear hx127_3
             try clear hx128_0
             try clear hx128_1
             try clear hx128_2
             try clear hx128_3
             try clear hx131_0
             try clear hx131_1
             try clear hx131_2
             try clear hx131_3
             try clear p1
             try clear p12
             try clear p127
             try clear p128
             try clear p131
             try clear p2
             try clear p6
             try clear q1
             try clear q12
             try clear q127
             try clear q128
             try clear q131
             obtain ⟨kq, x85_28, rfl, HA, HJ28, BK126, BK132, HB⟩ := hcut
             cases kq with
             | zero => exact absurd HA.out (by simp [fringeref42_Check.j4])
             | succ kj28 =>
              have H := HA.out
              clear HA
              simp only [fringeref42_Check.j4] at H
              by_cases c49 : x85_28 = true
              ·subst c49
               have H1 : (some 8) = some r := by first | (with_reducible rfl) | (rw [if_pos rfl] at H; exact H)
               clear H
               have H := H1
               clear H1
               obtain rfl := Option.some.inj H
               go_wp2
               repeat (go_quiet (fail); try go_wp2)
               go_ret
               exact ⟨by first | rfl | (simp [errW_none, errW_some] <;> rfl) | (simp [*, errW_none, errW_some] <;> rfl), by repeat (first | (with_reducible first | exact HB.out | apply below_alloc | apply pw_below_drewN | apply below_drew1 | refine below_set ?_ GE126.out | refine below_set ?_ GE132.out) | exact HB.out)⟩
              ·replace c49 := Bool.eq_false_iff.mpr c49
               subst c49
               have H1 : (if (wrap64 (((rd_T42 l0_0 x5_3).f2) * a0_2)) > (wrap64 (a0_1 * ((rd_T42 l0_0 x5_3).f1))) then (some 8) else (if ((rd_T42 l0_0 x5_3).f3) > 0 then (if (wrap64 ((wrap64 (((rd_T42 l0_0 x5_3).f2) + 1)) * a0_2)) < (wrap64 (a0_1 * ((rd_T42 l0_0 x5_3).f1))) then (some 8) else (fringeref42_Check.l2 kj28 (wrap64 (x5_3 + 1)) l0_0 a0_1 a0_2)) else (fringeref42_Check.l2 kj28 (wrap64 (x5_3 + 1)) l0_0 a0_1 a0_2))) = some r := by first | (with_reducible rfl) | (rw [if_neg (show ¬ (false = true) by decide)] at H; exact H)
               clear H
               have H := H1
               clear H1
               by_cases c50 : (wrap64 (((rd_T42 l0_0 x5_3).f2) * a0_2)) > (wrap64 (a0_1 * ((rd_T42 l0_0 x5_3).f1)))
               ·rw [if_pos c50] at H
                have c50b0 : decide ((wrap64 (a0_1 * ((rd_T42 l0_0 x5_3).f1))) < (wrap64 (((rd_T42 l0_0 x5_3).f2) * a0_2))) = true := decide_eq_true c50
                clear c50
                obtain rfl := Option.some.inj H
                have hnb51 := NB132_126.out
                have hnc51 := NB126_132.out
                have hcz52_0 : wc.cell? ⟨gb132, 0, none⟩ = some (.string ((rd_T42 l0_0 x5_3).f0)) := (blk_cell BK132.out 0).trans rfl
                have hcz52_1 : wc.cell? ⟨gb132, 1, none⟩ = some (.int .i64 ((rd_T42 l0_0 x5_3).f1)) := (blk_cell BK132.out 1).trans rfl
                have hcz52_2 : wc.cell? ⟨gb132, 2, none⟩ = some (.int .i64 ((rd_T42 l0_0 x5_3).f2)) := (blk_cell BK132.out 2).trans rfl
                have hcz52_3 : wc.cell? ⟨gb132, 3, none⟩ = some (.int .i64 ((rd_T42 l0_0 x5_3).f3)) := (blk_cell BK132.out 3).trans rfl
                have hfz52_0 := blk_frozen BK132.out 0
                have hfz52_1 := blk_frozen BK132.out 1
                have hfz52_2 := blk_frozen BK132.out 2
                have hfz52_3 := blk_frozen BK132.out 3
                have hcz53_0 : wc.cell? ⟨gb126, 0, none⟩ = some (.slice (some ad131) l0_0.length c0_0) := (blk_cell BK126.out 0).trans rfl
                have hcz53_1 : wc.cell? ⟨gb126, 1, none⟩ = some (.int .i64 a0_1) := (blk_cell BK126.out 1).trans rfl
                have hcz53_2 : wc.cell? ⟨gb126, 2, none⟩ = some (.int .i64 a0_2) := (blk_cell BK126.out 2).trans rfl
                have hfz53_0 := blk_frozen BK126.out 0
                have hfz53_1 := blk_frozen BK126.out 1
                have hfz53_2 := blk_frozen BK126.out 2
                go_wp2
                repeat (go_quiet (fail); try go_wp2)
                go_ret
                exact ⟨by first | rfl | (simp [errW_none, errW_some] <;> rfl) | (simp [*, errW_none, errW_some] <;> rfl), by repeat (first | (with_reducible first | exact HB.out | apply below_alloc | apply pw_below_drewN | apply below_drew1 | refine below_set ?_ GE126.out | refine below_set ?_ GE132.out) | exact HB.out)⟩
               ·rw [if_neg c50] at H
                have c50b0 : decide ((wrap64 (a0_1 * ((rd_T42 l0_0 x5_3).f1))) < (wrap64 (((rd_T42 l0_0 x5_3).f2) * a0_2))) = false := decide_eq_false c50
                clear c50
                by_cases c54 : ((rd_T42 l0_0 x5_3).f3) > 0
                ·rw [if_pos c54] at H
                 have c54b0 : decide (0 < ((rd_T42 l0_0 x5_3).f3)) = true := decide_eq_true c54
                 clear c54
                 by_cases c55 : (wrap64 ((wrap64 (((rd_T42 l0_0 x5_3).f2) + 1)) * a0_2)) < (wrap64 (a0_1 * ((rd_T42 l0_0 x5_3).f1)))
                 ·rw [if_pos c55] at H
                  have c55b0 : decide ((wrap64 ((wrap64 (((rd_T42 l0_0 x5_3).f2) + 1)) * a0_2)) < (wrap64 (a0_1 * ((rd_T42 l0_0 x5_3).f1)))) = true := decide_eq_true c55
                  clear c55
                  obtain rfl := Option.some.inj H
                  have hnb56 := NB132_126.out
                  have hnc56 := NB126_132.out
                  have hcz57_0 : wc.cell? ⟨gb132, 0, none⟩ = some (.string ((rd_T42 l0_0 x5_3).f0)) := (blk_cell BK132.out 0).trans rfl
                  have hcz57_1 : wc.cell? ⟨gb132, 1, none⟩ = some (.int .i64 ((rd_T42 l0_0 x5_3).f1)) := (blk_cell BK132.out 1).trans rfl
                  have hcz57_2 : wc.cell? ⟨gb132, 2, none⟩ = some (.int .i64 ((rd_T42 l0_0 x5_3).f2)) := (blk_cell BK132.out 2).trans rfl
                  have hcz57_3 : wc.cell? ⟨gb132, 3, none⟩ = some (.int .i64 ((rd_T42 l0_0 x5_3).f3)) := (blk_cell BK132.out 3).trans rfl
                  have hfz57_0 := blk_frozen BK132.out 0
                  have hfz57_1 := blk_frozen BK132.out 1
                  have hfz57_2 := blk_frozen BK132.out 2
                  have hfz57_3 := blk_frozen BK132.out 3
                  have hcz58_0 : wc.cell? ⟨gb126, 0, none⟩ = some (.slice (some ad131) l0_0.length c0_0) := (blk_cell BK126.out 0).trans rfl
                  have hcz58_1 : wc.cell? ⟨gb126, 1, none⟩ = some (.int .i64 a0_1) := (blk_cell BK126.out 1).trans rfl
                  have hcz58_2 : wc.cell? ⟨gb126, 2, none⟩ = some (.int .i64 a0_2) := (blk_cell BK126.out 2).trans rfl
                  have hfz58_0 := blk_frozen BK126.out 0
                  have hfz58_1 := blk_frozen BK126.out 1
                  have hfz58_2 := blk_frozen BK126.out 2
                  go_wp2
                  repeat (go_quiet (fail); try go_wp2)
                  go_ret
                  exact ⟨by first | rfl | (simp [errW_none, errW_some] <;> rfl) | (simp [*, errW_none, errW_some] <;> rfl), by repeat (first | (with_reducible first | exact HB.out | apply below_alloc | apply pw_below_drewN | apply below_drew1 | refine below_set ?_ GE126.out | refine below_set ?_ GE132.out) | exact HB.out)⟩
                 ·rw [if_neg c55] at H
                  have c55b0 : decide ((wrap64 ((wrap64 (((rd_T42 l0_0 x5_3).f2) + 1)) * a0_2)) < (wrap64 (a0_1 * ((rd_T42 l0_0 x5_3).f1)))) = false := decide_eq_false c55
                  clear c55
                  have H' := Aside0.mk H
                  clear H
                  have hnb59 := NB132_126.out
                  have hnc59 := NB126_132.out
                  have hcz60_0 : wc.cell? ⟨gb132, 0, none⟩ = some (.string ((rd_T42 l0_0 x5_3).f0)) := (blk_cell BK132.out 0).trans rfl
                  have hcz60_1 : wc.cell? ⟨gb132, 1, none⟩ = some (.int .i64 ((rd_T42 l0_0 x5_3).f1)) := (blk_cell BK132.out 1).trans rfl
                  have hcz60_2 : wc.cell? ⟨gb132, 2, none⟩ = some (.int .i64 ((rd_T42 l0_0 x5_3).f2)) := (blk_cell BK132.out 2).trans rfl
                  have hcz60_3 : wc.cell? ⟨gb132, 3, none⟩ = some (.int .i64 ((rd_T42 l0_0 x5_3).f3)) := (blk_cell BK132.out 3).trans rfl
                  have hfz60_0 := blk_frozen BK132.out 0
                  have hfz60_1 := blk_frozen BK132.out 1
                  have hfz60_2 := blk_frozen BK132.out 2
                  have hfz60_3 := blk_frozen BK132.out 3
                  have hcz61_0 : wc.cell? ⟨gb126, 0, none⟩ = some (.slice (some ad131) l0_0.length c0_0) := (blk_cell BK126.out 0).trans rfl
                  have hcz61_1 : wc.cell? ⟨gb126, 1, none⟩ = some (.int .i64 a0_1) := (blk_cell BK126.out 1).trans rfl
                  have hcz61_2 : wc.cell? ⟨gb126, 2, none⟩ = some (.int .i64 a0_2) := (blk_cell BK126.out 2).trans rfl
                  have hfz61_0 := blk_frozen BK126.out 0
                  have hfz61_1 := blk_frozen BK126.out 1
                  have hfz61_2 := blk_frozen BK126.out 2
                  go_wp2
                  repeat (go_quiet (fail); try go_wp2)
                  go_roundg kj28
                  case measure => have := HK1.out; have := HJ16.out; have := HK3.out; have := HJ28.out; omega
                  case rel => exact ⟨(wrap64 (x5_3 + 1)), (by first | rfl | (simp; done) | (simp [*]; done)), H', ⟨by have := HK1.out; have := HJ16.out; have := HK3.out; have := HJ28.out; omega⟩, ⟨by (with_reducible repeat (first | refine blk_drewN ?_ _ | refine blk_drew ?_ | refine blk_alloc ?_ _)); exact BK126.out⟩, ⟨by repeat (first | (with_reducible first | exact HB.out | apply below_alloc | apply pw_below_drewN | apply below_drew1 | refine below_set ?_ GE126.out | refine below_set ?_ GE132.out) | exact HB.out)⟩⟩
                ·rw [if_neg c54] at H
                 have c54b0 : decide (0 < ((rd_T42 l0_0 x5_3).f3)) = false := decide_eq_false c54
                 clear c54
                 have H' := Aside0.mk H
                 clear H
                 have hnb62 := NB132_126.out
                 have hnc62 := NB126_132.out
                 have hcz63_0 : wc.cell? ⟨gb132, 0, none⟩ = some (.string ((rd_T42 l0_0 x5_3).f0)) := (blk_cell BK132.out 0).trans rfl
                 have hcz63_1 : wc.cell? ⟨gb132, 1, none⟩ = some (.int .i64 ((rd_T42 l0_0 x5_3).f1)) := (blk_cell BK132.out 1).trans rfl
                 have hcz63_2 : wc.cell? ⟨gb132, 2, none⟩ = some (.int .i64 ((rd_T42 l0_0 x5_3).f2)) := (blk_cell BK132.out 2).trans rfl
                 have hcz63_3 : wc.cell? ⟨gb132, 3, none⟩ = some (.int .i64 ((rd_T42 l0_0 x5_3).f3)) := (blk_cell BK132.out 3).trans rfl
                 have hfz63_0 := blk_frozen BK132.out 0
                 have hfz63_1 := blk_frozen BK132.out 1
                 have hfz63_2 := blk_frozen BK132.out 2
                 have hfz63_3 := blk_frozen BK132.out 3
                 have hcz64_0 : wc.cell? ⟨gb126, 0, none⟩ = some (.slice (some ad131) l0_0.length c0_0) := (blk_cell BK126.out 0).trans rfl
                 have hcz64_1 : wc.cell? ⟨gb126, 1, none⟩ = some (.int .i64 a0_1) := (blk_cell BK126.out 1).trans rfl
                 have hcz64_2 : wc.cell? ⟨gb126, 2, none⟩ = some (.int .i64 a0_2) := (blk_cell BK126.out 2).trans rfl
                 have hfz64_0 := blk_frozen BK126.out 0
                 have hfz64_1 := blk_frozen BK126.out 1
                 have hfz64_2 := blk_frozen BK126.out 2
                 go_wp2
                 repeat (go_quiet (fail); try go_wp2)
                 go_roundg kj28
                 case measure => have := HK1.out; have := HJ16.out; have := HK3.out; have := HJ28.out; omega
                 case rel => exact ⟨(wrap64 (x5_3 + 1)), (by first | rfl | (simp; done) | (simp [*]; done)), H', ⟨by have := HK1.out; have := HJ16.out; have := HK3.out; have := HJ28.out; omega⟩, ⟨by (with_reducible repeat (first | refine blk_drewN ?_ _ | refine blk_drew ?_ | refine blk_alloc ?_ _)); exact BK126.out⟩, ⟨by repeat (first | (with_reducible first | exact HB.out | apply below_alloc | apply pw_below_drewN | apply below_drew1 | refine below_set ?_ GE126.out | refine below_set ?_ GE132.out) | exact HB.out)⟩⟩
           ·rw [if_neg c28] at H
            exact absurd H (by simp)
          ·rw [if_neg c27] at H
           have c27b0 : decide (x5_3 < (l0_0.length : Int)) = false := decide_eq_false c27
           clear c27
           obtain rfl := Option.some.inj H
           have hcz65_0 : wr.cell? ⟨gb126, 0, none⟩ = some (.slice A0_0 l0_0.length c0_0) := (blk_cell BK126.out 0).trans rfl
           have hcz65_1 : wr.cell? ⟨gb126, 1, none⟩ = some (.int .i64 a0_1) := (blk_cell BK126.out 1).trans rfl
           have hcz65_2 : wr.cell? ⟨gb126, 2, none⟩ = some (.int .i64 a0_2) := (blk_cell BK126.out 2).trans rfl
           have hfz65_0 := blk_frozen BK126.out 0
           have hfz65_1 := blk_frozen BK126.out 1
           have hfz65_2 := blk_frozen BK126.out 2
           go_wp2
           repeat (go_quiet (fail); try go_wp2)
           go_ret
           exact ⟨by first | rfl | (simp [errW_none, errW_some] <;> rfl) | (simp [*, errW_none, errW_some] <;> rfl), by repeat (first | (with_reducible first | exact HB.out | apply below_alloc | apply pw_below_drewN | apply below_drew1 | refine below_set ?_ GE126.out) | exact HB.out)⟩

end Go.Proofs.Ytelmcaenemjppaa.Q
