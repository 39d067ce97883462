-- Written by qprint.py (a program of this session) over the program of the kit that prints contracts. Not trusted: Lean checks it.
import Derived.Test.YtelmcaenemjppaaQ0
namespace Go.Proofs.Ytelmcaenemjppaa.Q
open Go.RowKit Go.Proofs.YtelmcaenemjppaaW.PrintWords Go.Proofs.YtelmcaenemjppaaW.PrintLast Go.Proofs.YtelmcaenemjppaaW.PrintMore
attribute [local go_sem] max2_int min2_int max_two min_two max_three min_three max_four min_four   -- for this text's walks alone
set_option linter.unusedVariables false
set_option linter.unusedSimpArgs false

/-! ### fringeref42_Great: function 14 -/
def fringeref42_Great.l0 : Nat → Int → List (S42) → Int → Int → Option (Bool)
 | 0, _, _, _, _ => none
 | k + 1, x3, x102000, x102001, x102002 => if x3 < (x102000.length : Int) then (if 0 ≤ x3 then (if (((rd_T42 x102000 x3).f0).size : Int) > 100 then (some true) else (fringeref42_Great.l0 k (wrap64 (x3 + 1)) x102000 x102001 x102002)) else (none)) else (some (decide ((x102000.length : Int) > 20)))
def fringeref42_Great.f (k : Nat) (l0_0 : List (S42)) (a0_1 : Int) (a0_2 : Int) : Option (Bool) := fringeref42_Great.l0 k 0 l0_0 a0_1 a0_2
theorem fringeref42_Great.mono_l : ∀ k, (∀ y0 y1 y2 y3, LeO (fringeref42_Great.l0 k y0 y1 y2 y3) (fringeref42_Great.l0 (k + 1) y0 y1 y2 y3))
 | 0 => fun _ _ _ _ r h => by simp [fringeref42_Great.l0] at h
 | k + 1 => by
  have ih0 := fringeref42_Great.mono_l k
  ·intro y0 y1 y2 y3
   unfold fringeref42_Great.l0
   repeat' first
   | (with_reducible exact ih0 _ _ _ _)
   | (with_reducible exact LeO.refl _)
   | (with_reducible exact LeO.none _)
   | (with_reducible refine LeO.ite ?_ ?_)
   | (with_reducible refine LeO.bind ?_ (fun _ => ?_))
   | exact ih0 _ _ _ _
   | exact LeO.none _
   | refine LeO.ite ?_ ?_
   | refine LeO.bind ?_ (fun _ => ?_)
theorem fringeref42_Great.mono : ∀ a0 a1 a2 k, LeO (fringeref42_Great.f k a0 a1 a2) (fringeref42_Great.f (k + 1) a0 a1 a2) := by
 intro a0 a1 a2 k
 have ih0 := fringeref42_Great.mono_l k
 unfold fringeref42_Great.f
 repeat' first
   | (with_reducible exact ih0 _ _ _ _)
   | (with_reducible exact LeO.refl _)
   | (with_reducible exact LeO.none _)
   | (with_reducible refine LeO.ite ?_ ?_)
   | (with_reducible refine LeO.bind ?_ (fun _ => ?_))
   | exact ih0 _ _ _ _
   | exact LeO.none _
   | refine LeO.ite ?_ ?_
   | refine LeO.bind ?_ (fun _ => ?_)
set_option maxHeartbeats 8000000 in
set_option maxRecDepth 100000 in
theorem fringeref42_Great.calls (k : Nat) (A0_0 : Option Addr) (c0_0 : Nat) (l0_0 : List (S42)) (a0_1 : Int) (a0_2 : Int) (r : Bool) (w : World) (hr0_0 : Kd.C k42 w A0_0 l0_0.length l0_0) (hc0_0 : l0_0.length ≤ c0_0) (h : fringeref42_Great.f k l0_0 a0_1 a0_2 = some r) :
  Calls Try.prog 14 #[.agg #[.slice A0_0 l0_0.length c0_0, .int .i64 a0_1, .int .i64 a0_2]] w fun e w' => e = .returned (.bool r) ∧ Below w.heap.size w w' := by
 have hu24 := Try.underlying24
 have HR0_0 := Aside0.mk hr0_0
 have HC0_0 := Aside0.mk hc0_0
 clear hr0_0 hc0_0
 have HB := Aside0.mk (Below.refl w.heap.size w)
 have H : (fringeref42_Great.l0 k 0 l0_0 a0_1 a0_2) = some r := h
 clear h
 have H' := Aside0.mk H
 clear H
 go_enter Try.func14, Try.ntmps14
 go_wp2_with (first | ((with_reducible refine gate_dst (N := 1) rfl ?_); refine box_event ?hg (N := 1) ?hd (cs := #[.slice A0_0 l0_0.length c0_0, .int .i64 a0_1, .int .i64 a0_2]) (t := 24) ?hr ?_; (case hd => rfl); (case hg => rfl); (case hr => first | (go_simp; done) | (go_simp; rfl)); intro gb101 hg w2 hbox hb; have n0_ := Aside0.mk (below_step (by repeat (first | (with_reducible first | exact HB.out | apply below_alloc | apply pw_below_drewN | apply below_drew1) | exact HB.out)) hb); have n1_ := Aside0.mk (hbox); have n2_ := Aside0.mk ((by rw [hg]; exact (below_size (by repeat (first | (with_reducible first | exact HB.out | apply below_alloc | apply pw_below_drewN | apply below_drew1) | exact HB.out))) : w.heap.size ≤ gb101)); have n3_ := Aside0.mk ((by rw [hg]; exact (below_size (by repeat (first | (with_reducible first | exact HB.out | apply below_alloc | apply pw_below_drewN | apply below_drew1) | exact HB.out))) : w.heap.size ≤ gb101)); clear HB; have HB := n0_; have BK101 := n1_; have GW101 := n2_; have GE101 := n3_; clear n0_ n1_ n2_ n3_; clear hb hbox hg))
 go_loopg [3] k (fun kq v3 w' => ∃ (x3_1 : Int), v3 = .int .i64 x3_1 ∧ Aside0 (fringeref42_Great.l0 kq x3_1 l0_0 a0_1 a0_2 = some r) ∧ Aside0 (kq ≤ k) ∧ Aside0 (w'.heap[gb101]? = some (.cells #[(.slice A0_0 l0_0.length c0_0), .int .i64 a0_1, .int .i64 a0_2] 24 (0, 0))) ∧ Aside0 (Below w.heap.size w w'))
 case atStart => exact ⟨(0), (by first | rfl | (simp; done) | (simp [*]; done)), H', ⟨Nat.le_refl _⟩, ⟨by (with_reducible repeat (first | refine blk_drewN ?_ _ | refine blk_drew ?_ | refine blk_alloc ?_ _)); exact BK101.out⟩, ⟨by repeat (first | (with_reducible first | exact HB.out | apply below_alloc | apply pw_below_drewN | apply below_drew1 | refine below_set ?_ GE101.out) | exact HB.out)⟩⟩
 case round =>
  clear H'
  try clear c1
  try clear p2
  obtain ⟨x3_1, rfl, HA, HK1, BK101, HB⟩ := hrel
  cases gk with
  | zero => exact absurd HA.out (by simp [fringeref42_Great.l0])
  | succ k1 =>
   have H := HA.out
   clear HA
   simp only [fringeref42_Great.l0] at H
   by_cases c3 : x3_1 < (l0_0.length : Int)
   ·rw [if_pos c3] at H
    have c3b0 : decide (x3_1 < (l0_0.length : Int)) = true := decide_eq_true c3
    clear c3
    by_cases c4 : 0 ≤ x3_1
    ·rw [if_pos c4] at H
     have c4b0 : decide (0 ≤ x3_1) = true := decide_eq_true c4
     clear c4
     by_cases c5 : (((rd_T42 l0_0 x3_1).f0).size : Int) > 100
     ·rw [if_pos c5] at H
      have c5b0 : decide (100 < (((rd_T42 l0_0 x3_1).f0).size : Int)) = true := decide_eq_true c5
      have c5b1 : decide (100 < ((rd_T42 l0_0 x3_1).f0).size) = true := decide_eq_true (by omega)
      clear c5
      obtain rfl := Option.some.inj H
      have hcz6_0 : wr.cell? ⟨gb101, 0, none⟩ = some (.slice A0_0 l0_0.length c0_0) := (blk_cell BK101.out 0).trans rfl
      have hcz6_1 : wr.cell? ⟨gb101, 1, none⟩ = some (.int .i64 a0_1) := (blk_cell BK101.out 1).trans rfl
      have hcz6_2 : wr.cell? ⟨gb101, 2, none⟩ = some (.int .i64 a0_2) := (blk_cell BK101.out 2).trans rfl
      have hfz6_0 := blk_frozen BK101.out 0
      have hfz6_1 := blk_frozen BK101.out 1
      have hfz6_2 := blk_frozen BK101.out 2
      have p102 : 0 ≤ (x3_1 : Int) := of_decide_eq_true (by first | (with_reducible assumption) | assumption)
      have q102 : x3_1 < (l0_0.length : Int) := of_decide_eq_true (by first | (with_reducible assumption) | assumption)
      obtain ⟨ad102, e102, hx102_0, hx102_1, hx102_2, hx102_3⟩ := at_T42 HR0_0.out x3_1 p102 q102
      cases e102
      replace hx102_0 := (HB.out.cell (World.block_lt_of_cell? w _ hx102_0)).trans hx102_0
      replace hx102_1 := (HB.out.cell (World.block_lt_of_cell? w _ hx102_1)).trans hx102_1
      replace hx102_2 := (HB.out.cell (World.block_lt_of_cell? w _ hx102_2)).trans hx102_2
      replace hx102_3 := (HB.out.cell (World.block_lt_of_cell? w _ hx102_3)).trans hx102_3
      replace p102 := eq_true p102
      replace q102 := eq_true q102
      go_wp2
      go_ret
      exact ⟨by first | rfl | (simp [errW_none, errW_some] <;> rfl) | (simp [*, errW_none, errW_some] <;> rfl), by repeat (first | (with_reducible first | exact HB.out | apply below_alloc | apply pw_below_drewN | apply below_drew1 | refine below_set ?_ GE101.out) | exact HB.out)⟩
     ·rw [if_neg c5] at H
      have c5b0 : decide (100 < (((rd_T42 l0_0 x3_1).f0).size : Int)) = false := decide_eq_false c5
      have c5b1 : decide (100 < ((rd_T42 l0_0 x3_1).f0).size) = false := decide_eq_false (by omega)
      clear c5
      have H' := Aside0.mk H
      clear H
      have hcz7_0 : wr.cell? ⟨gb101, 0, none⟩ = some (.slice A0_0 l0_0.length c0_0) := (blk_cell BK101.out 0).trans rfl
      have hcz7_1 : wr.cell? ⟨gb101, 1, none⟩ = some (.int .i64 a0_1) := (blk_cell BK101.out 1).trans rfl
      have hcz7_2 : wr.cell? ⟨gb101, 2, none⟩ = some (.int .i64 a0_2) := (blk_cell BK101.out 2).trans rfl
      have hfz7_0 := blk_frozen BK101.out 0
      have hfz7_1 := blk_frozen BK101.out 1
      have hfz7_2 := blk_frozen BK101.out 2
      have p102 : 0 ≤ (x3_1 : Int) := of_decide_eq_true (by first | (with_reducible assumption) | assumption)
      have q102 : x3_1 < (l0_0.length : Int) := of_decide_eq_true (by first | (with_reducible assumption) | assumption)
      obtain ⟨ad102, e102, hx102_0, hx102_1, hx102_2, hx102_3⟩ := at_T42 HR0_0.out x3_1 p102 q102
      cases e102
      replace hx102_0 := (HB.out.cell (World.block_lt_of_cell? w _ hx102_0)).trans hx102_0
      replace hx102_1 := (HB.out.cell (World.block_lt_of_cell? w _ hx102_1)).trans hx102_1
      replace hx102_2 := (HB.out.cell (World.block_lt_of_cell? w _ hx102_2)).trans hx102_2
      replace hx102_3 := (HB.out.cell (World.block_lt_of_cell? w _ hx102_3)).trans hx102_3
      replace p102 := eq_true p102
      replace q102 := eq_true q102
      go_wp2
      go_roundg k1
      case measure => have := HK1.out; omega
      case rel => exact ⟨(wrap64 (x3_1 + 1)), (by first | rfl | (simp; done) | (simp [*]; done)), H', ⟨by have := HK1.out; omega⟩, ⟨by (with_reducible repeat (first | refine blk_drewN ?_ _ | refine blk_drew ?_ | refine blk_alloc ?_ _)); exact BK101.out⟩, ⟨by repeat (first | (with_reducible first | exact HB.out | apply below_alloc | apply pw_below_drewN | apply below_drew1 | refine below_set ?_ GE101.out) | exact HB.out)⟩⟩
    ·rw [if_neg c4] at H
     exact absurd H (by simp)
   ·rw [if_neg c3] at H
    have c3b0 : decide (x3_1 < (l0_0.length : Int)) = false := decide_eq_false c3
    clear c3
    obtain rfl := Option.some.inj H
    have hcz8_0 : wr.cell? ⟨gb101, 0, none⟩ = some (.slice A0_0 l0_0.length c0_0) := (blk_cell BK101.out 0).trans rfl
    have hcz8_1 : wr.cell? ⟨gb101, 1, none⟩ = some (.int .i64 a0_1) := (blk_cell BK101.out 1).trans rfl
    have hcz8_2 : wr.cell? ⟨gb101, 2, none⟩ = some (.int .i64 a0_2) := (blk_cell BK101.out 2).trans rfl
    have hfz8_0 := blk_frozen BK101.out 0
    have hfz8_1 := blk_frozen BK101.out 1
    have hfz8_2 := blk_frozen BK101.out 2
    go_wp2
    go_ret
    exact ⟨by first | rfl | (simp [errW_none, errW_some] <;> rfl) | (simp [*, errW_none, errW_some] <;> rfl), by repeat (first | (with_reducible first | exact HB.out | apply below_alloc | apply pw_below_drewN | apply below_drew1 | refine below_set ?_ GE101.out) | exact HB.out)⟩

/-! ### queue_in: function 53 -/
def queue_in.f (a0 : Int) (a1 : Int) (a2 : Int) : Option (Bool) := if a0 ≥ a1 then (some (decide (a0 ≤ a2))) else (some false)
set_option maxHeartbeats 8000000 in
set_option maxRecDepth 100000 in
theorem queue_in.calls (a0 : Int) (a1 : Int) (a2 : Int) (r : Bool) (w : World) (h : queue_in.f a0 a1 a2 = some r) :
  Calls Try.prog 53 #[.int .i64 a0, .int .i64 a1, .int .i64 a2] w fun e w' => e = .returned (.bool r) ∧ Drawn0 w w' := by
 have H : (if a0 ≥ a1 then (some (decide (a0 ≤ a2))) else (some false)) = some r := h
 clear h
 by_cases c4 : a0 ≥ a1
 ·rw [if_pos c4] at H
  have c4b0 : decide (a1 ≤ a0) = true := decide_eq_true c4
  clear c4
  obtain rfl := Option.some.inj H
  go_enter Try.func53, Try.ntmps53
  go_wp2
  go_ret
  exact ⟨by first | rfl | (simp; done) | (simp [*]; done), by repeat (first | exact Drawn0.refl _ | apply Drawn0.step)⟩
 ·rw [if_neg c4] at H
  have c4b0 : decide (a1 ≤ a0) = false := decide_eq_false c4
  clear c4
  obtain rfl := Option.some.inj H
  go_enter Try.func53, Try.ntmps53
  go_wp2
  go_ret
  exact ⟨by first | rfl | (simp; done) | (simp [*]; done), by repeat (first | exact Drawn0.refl _ | apply Drawn0.step)⟩

/-! ### queue_index: function 56 (by hand) -/
def queue_index.idx (p : S42 → Bool) : List S42 → Int → Int
 | [], _ => -1
 | x :: t, i => if p x then i else queue_index.idx p t (i + 1)
def queue_index.f (l0_0 : List S42) (a0_1 : Int) (a0_2 : Int) (a1 : ByteArray) : Option Int := if l0_0.length < 9223372036854775807 then some (queue_index.idx (fun x => decide (x.f0 = a1)) l0_0 0) else none
theorem queue_index.idx_hit (p : S42 → Bool) : ∀ (l : List S42) (n : Nat) (z : S42) (s : Int), n < l.length → p (l.getD n z) = true → (∀ j, j < n → p (l.getD j z) = false) → queue_index.idx p l s = s + n
 | [], n, z, s, h, _, _ => by simp at h
 | x :: t, 0, z, s, _, h, _ => by
  simp at h
  simp [queue_index.idx, h]
 | x :: t, n + 1, z, s, hn, h, ha => by
  have h0 := ha 0 (by omega)
  simp only [List.getD_cons_zero] at h0
  simp only [List.getD_cons_succ] at h
  rw [queue_index.idx, h0, if_neg (by simp), queue_index.idx_hit p t n z (s + 1) (by simpa using hn) h (fun j hj => by have := ha (j + 1) (by omega); simpa using this)]
  omega
theorem queue_index.idx_miss (p : S42 → Bool) : ∀ (l : List S42) (z : S42) (s : Int), (∀ j, j < l.length → p (l.getD j z) = false) → queue_index.idx p l s = -1
 | [], _, _, _ => rfl
 | x :: t, z, s, ha => by
  have h0 := ha 0 (by simp)
  simp only [List.getD_cons_zero] at h0
  rw [queue_index.idx, h0, if_neg (by simp)]
  exact queue_index.idx_miss p t z (s + 1) (fun j hj => by have := ha (j + 1) (by simpa using hj); simpa using this)
set_option maxHeartbeats 8000000 in
set_option maxRecDepth 100000 in
theorem queue_index.indexFunc (lb : Array Value) (p : S42 → Bool) (A0 : Option Addr) (c0 : Nat) (l0 : List S42) (w : World) (hr0 : Kd.C k42 w A0 l0.length l0) (hc0 : l0.length ≤ c0) (hlim : l0.length < 9223372036854775807)
  (hp : ∀ (W : World) (x : S42), Below w.heap.size w W → Calls Try.prog 73 (#[.agg #[.string x.f0, .int .i64 x.f1, .int .i64 x.f2, .int .i64 x.f3]] ++ lb) W fun e w' => e = .returned (.bool (p x)) ∧ Below w.heap.size w w') :
  Calls Try.prog 72 #[.slice A0 l0.length c0, .func (.func 73) #[] lb] w fun e w' => e = .returned (.int .i64 (queue_index.idx p l0 0)) ∧ Below w.heap.size w w' := by
 have HR0 := Aside0.mk hr0
 have HC0 := Aside0.mk hc0
 have HP := Aside0.mk hp
 clear hr0 hc0 hp
 have HB := Aside0.mk (Below.refl w.heap.size w)
 have HM := Aside0.mk hlim
 clear hlim
 go_enter Try.func72, Try.ntmps72
 go_wp2
 go_loopg [5, 8] l0.length (fun gk _ v8 w' => ∃ i : Nat, i ≤ l0.length ∧ l0.length - i ≤ gk ∧ v8 = .int .i64 i ∧ Aside0 (Below w.heap.size w w') ∧ Aside0 (∀ j, j < i → p (l0.getD j z42) = false))
 case atStart => exact ⟨0, Nat.zero_le _, Nat.le_refl _, rfl, HB, ⟨fun j hj => absurd hj (Nat.not_lt_zero _)⟩⟩
 case round =>
  clear HB
  obtain ⟨i, hi, hg, rfl, HB, HN⟩ := hrel
  have HI := Aside0.mk hi
  have HG := Aside0.mk hg
  clear hi hg
  by_cases c : i < l0.length
  ·have hdec : decide ((i : Int) < (l0.length : Int)) = true := decide_eq_true (by omega)
   have p1 : 0 ≤ (i : Int) := by omega
   have q1 : (i : Int) < (l0.length : Int) := by omega
   obtain ⟨ad, e1, hx0, hx1, hx2, hx3⟩ := at_T42 HR0.out i p1 q1
   cases e1
   replace hx0 := (HB.out.cell (World.block_lt_of_cell? w _ hx0)).trans hx0
   replace hx1 := (HB.out.cell (World.block_lt_of_cell? w _ hx1)).trans hx1
   replace hx2 := (HB.out.cell (World.block_lt_of_cell? w _ hx2)).trans hx2
   replace hx3 := (HB.out.cell (World.block_lt_of_cell? w _ hx3)).trans hx3
   simp only [Int.toNat_natCast] at hx0 hx1 hx2 hx3
   replace p1 := eq_true p1
   replace q1 := eq_true q1
   have hcall := HP.out wr (rd_T42 l0 i) HB.out
   have HC := Aside0.mk c
   clear c
   have HE : Aside0 (rd_T42 l0 (i : Int) = l0.getD i z42) := ⟨rfl⟩
   generalize rd_T42 l0 (i : Int) = x at hx0 hx1 hx2 hx3 hcall HE
   cases hq : p x with
   | true =>
    rw [hq] at hcall
    have HQ := Aside0.mk hq
    clear hq
    go_wp2_with (go_at_call 73; refine hcall.mono ?_; rintro e w' ⟨rfl, hb'⟩)
    go_ret
    exact ⟨by rw [queue_index.idx_hit p l0 i z42 0 HC.out (by rw [← HE.out]; exact HQ.out) HN.out, Int.zero_add]; rfl, hb'⟩
   | false =>
    rw [hq] at hcall
    have HQ := Aside0.mk hq
    clear hq
    go_wp2_with (go_at_call 73; refine hcall.mono ?_; rintro e w' ⟨rfl, hb'⟩)
    go_roundg (l0.length - (i + 1))
    case measure => have := HC.out; have := HG.out; omega
    case rel =>
     have hc := HC.out
     refine ⟨i + 1, by omega, by have := HG.out; omega, ?_, ⟨hb'⟩, ⟨fun j hj => ?_⟩⟩
     ·have e : wrap64 ((i : Int) + 1) = ((i + 1 : Nat) : Int) := by have := HM.out; unfold wrap64; omega
      first | rfl | (rw [← e]; rfl) | (simp [← e]; done) | (simp; omega)
     ·by_cases h : j < i
      ·exact HN.out j h
      ·obtain rfl : j = i := by omega
       rw [← HE.out]; exact HQ.out
  ·have hdec : decide ((i : Int) < (l0.length : Int)) = false := decide_eq_false (by omega)
   go_wp2
   go_ret
   exact ⟨by rw [queue_index.idx_miss p l0 z42 0 (fun j hj => HN.out j (by omega))]; rfl, HB.out⟩
theorem queue_index.str (x y : ByteArray) : (x.toList == y.toList) = decide (x = y) := by
 rw [Bool.eq_iff_iff, decide_eq_true_eq, beq_iff_eq, ByteArray.toList_eq, ByteArray.toList_eq]
 exact ⟨fun h => ByteArray.ext (Array.toList_inj.mp h), fun h => by rw [h]⟩
set_option maxHeartbeats 8000000 in
theorem queue_index.closure (s : ByteArray) (B : Nat) (w : World) (hB : B < w.heap.size) (hcell : w.cell? ⟨B, 0, none⟩ = some (.string s)) (W : World) (x : S42) (hb : Below w.heap.size w W) :
  Calls Try.prog 73 (#[.agg #[.string x.f0, .int .i64 x.f1, .int .i64 x.f2, .int .i64 x.f3]] ++ #[.pointer (some ⟨B, 0, none⟩)]) W fun e w' => e = .returned (.bool (decide (x.f0 = s))) ∧ Below w.heap.size w w' := by
 have hc : W.cell? ⟨B, 0, none⟩ = some (.string s) := (hb.cell (p := ⟨B, 0, none⟩) hB).trans hcell
 have hBW : B < W.heap.size := Nat.lt_of_lt_of_le hB hb.size
 have hne : B ≠ W.heap.size := by omega
 show Calls Try.prog 73 #[.agg #[.string x.f0, .int .i64 x.f1, .int .i64 x.f2, .int .i64 x.f3], .pointer (some ⟨B, 0, none⟩)] W _
 go_enter Try.func73, Try.ntmps73
 go_wp2
 all_goals (go_ret; exact ⟨by simp_all; exact queue_index.str x.f0 s, hb.alloc hb.size _⟩)
set_option maxHeartbeats 8000000 in
set_option maxRecDepth 100000 in
theorem queue_index.calls (A0_0 : Option Addr) (c0_0 : Nat) (l0_0 : List (S42)) (a0_1 : Int) (a0_2 : Int) (a1 : ByteArray) (r : Int) (w : World) (hr0_0 : Kd.C k42 w A0_0 l0_0.length l0_0) (hc0_0 : l0_0.length ≤ c0_0) (h : queue_index.f l0_0 a0_1 a0_2 a1 = some r) :
  Calls Try.prog 56 #[.agg #[.slice A0_0 l0_0.length c0_0, .int .i64 a0_1, .int .i64 a0_2], .string a1] w fun e w' => e = .returned (.int .i64 r) ∧ Below w.heap.size w w' := by
 have hlim : l0_0.length < 9223372036854775807 := by
  unfold queue_index.f at h
  split at h
  ·assumption
  ·cases h
 unfold queue_index.f at h
 rw [if_pos hlim] at h
 obtain rfl := Option.some.inj h
 clear h
 have hb1 : Below w.heap.size w (w.alloc (.cells #[.slice A0_0 l0_0.length c0_0, .int .i64 a0_1, .int .i64 a0_2] 24)) := (Below.refl w.heap.size w).alloc (Nat.le_refl _) _
 have hb2 : Below w.heap.size w ((w.alloc (.cells #[.slice A0_0 l0_0.length c0_0, .int .i64 a0_1, .int .i64 a0_2] 24)).alloc (.cells #[.string a1] 9)) := hb1.alloc hb1.size _
 have hcall := queue_index.indexFunc #[.pointer (some ⟨w.heap.size + 1, 0, none⟩)] (fun x => decide (x.f0 = a1)) A0_0 c0_0 l0_0 _ (Kd.C_below hr0_0 hb2) hc0_0 hlim
  (queue_index.closure a1 (w.heap.size + 1) _ (by simp) (by simp))
 generalize queue_index.idx (fun x => decide (x.f0 = a1)) l0_0 0 = r at hcall ⊢
 have HB2 := Aside0.mk hb2
 clear hb1 hb2 hr0_0 hc0_0 hlim
 go_enter Try.func56, Try.ntmps56
 go_wp2_with (go_at_call 72; refine hcall.mono ?_; rintro e w' ⟨rfl, hb'⟩)
 go_ret
 exact ⟨rfl, HB2.out.trans (hb'.mono (by simp; omega))⟩

/-! ### queue_name: function 57 (by hand) -/
def queue_name.bad (first : Bool) (c : Int) : Bool := decide (¬ (97 ≤ c ∧ c ≤ 122)) && (first || (decide (c ≠ 45) && decide (c < 48 ∨ 57 < c)))
def queue_name.scan : List UInt8 → Bool → Bool
 | [], _ => true
 | b :: t, first => if queue_name.bad first (b.toNat : Int) then false else queue_name.scan t false
def queue_name.f (a0 : ByteArray) : Option Bool := if a0.size < 9223372036854775807 then some (queue_name.scan a0.data.toList true && decide (0 < (a0.size : Int) ∧ (a0.size : Int) ≤ 40)) else none
theorem queue_name.below (w : World) (e : TypeId) (s : ByteArray) : Below w.heap.size w (Lib.bytesWorld w e s) :=
 ⟨by simp [Lib.bytesWorld, World.freeze, World.alloc, World.drew, -World.alloc_eq, -World.drew_eq], by simp [Lib.bytesWorld, World.freeze, World.alloc, World.drew, -World.alloc_eq, -World.drew_eq], by simp [Lib.bytesWorld, World.freeze, World.alloc, World.drew, -World.alloc_eq, -World.drew_eq], by rw [Lib.bytesWorld_size]; omega, fun j hj => Lib.bytesWorld_at_old w e s j hj⟩
set_option maxHeartbeats 8000000 in
set_option maxRecDepth 100000 in
theorem queue_name.calls (a0 : ByteArray) (r : Bool) (w : World) (h : queue_name.f a0 = some r) :
  Calls Try.prog 57 #[.string a0] w fun e w' => e = .returned (.bool r) ∧ Below w.heap.size w w' := by
 have hmax : a0.size < 9223372036854775807 := by
  unfold queue_name.f at h
  split at h
  ·assumption
  ·cases h
 unfold queue_name.f at h
 rw [if_pos hmax] at h
 obtain rfl := Option.some.inj h
 have HM := Aside0.mk hmax
 clear h hmax
 have hconv := Lib.run_convert_string_bytes (P := Try.prog) w 9 112 5 a0 Try.underlying9 Try.underlying112 Try.underlying5
 have hcell := Lib.bytesWorld_cell w 5 a0
 have hbw := queue_name.below w 5 a0
 have hlen : a0.data.toList.length = a0.size := Array.length_toList
 generalize Lib.bytesWorld w 5 a0 = w1 at hconv hcell hbw
 have HB := Aside0.mk hbw
 have HCL := Aside0.mk hcell
 have HL := Aside0.mk hlen
 clear hbw hcell hlen
 have HS := Aside0.mk (rfl : queue_name.scan a0.data.toList true = queue_name.scan a0.data.toList true)
 generalize hres : (queue_name.scan a0.data.toList true && decide (0 < (a0.size : Int) ∧ (a0.size : Int) ≤ 40)) = res
 have HR := Aside0.mk hres
 clear hres
 go_enter Try.func57, Try.ntmps57
 go_wp2
 clear hconv
 go_loopg [9] a0.size (fun gk v9 w' => ∃ i : Nat, i ≤ a0.size ∧ a0.size - i ≤ gk ∧ v9 = .int .i64 i ∧ w' = w1 ∧ Aside0 (queue_name.scan a0.data.toList true = queue_name.scan (a0.data.toList.drop i) (decide (i = 0))))
 case atStart => exact ⟨0, Nat.zero_le _, Nat.le_refl _, rfl, rfl, ⟨rfl⟩⟩
 case round =>
  obtain ⟨i, hi, hg, rfl, rfl, HN⟩ := hrel
  have HI := Aside0.mk hi
  have HG := Aside0.mk hg
  clear hi hg
  by_cases c : i < a0.size
  ·have hdec : decide ((i : Int) < (a0.size : Int)) = true := decide_eq_true (by omega)
   have hdec2 : decide (i < a0.size) = true := decide_eq_true c
   have hlt3 : ((i : Int) < (a0.size : Int)) = True := eq_true (by omega)
   have hge3 : (0 ≤ (i : Int)) = True := eq_true (by omega)
   have hc := HCL.out i c
   have hd : a0.data.toList.drop i = (a0.data.toList.getD i 0) :: a0.data.toList.drop (i + 1) := by
    have hlt : i < a0.data.toList.length := by rw [HL.out]; exact c
    rw [List.drop_eq_getElem_cons hlt, List.getD_eq_getElem?_getD, List.getElem?_eq_getElem hlt]; rfl
   have hb0 : (a0.data.toList.getD i 0).toNat < 256 := UInt8.toNat_lt _
   have hn : queue_name.scan a0.data.toList true = if queue_name.bad (decide (i = 0)) ((a0.data.toList.getD i 0).toNat : Int) then false else queue_name.scan (a0.data.toList.drop (i + 1)) false := by rw [HN.out, hd]; rfl
   have HN2 := Aside0.mk hn
   clear hn hd HN
   generalize ((a0.data.toList.getD i 0).toNat : Int) = b at hc HN2
   have HC := Aside0.mk c
   clear c
   by_cases e1 : 97 ≤ b
   ·have f1 : decide (97 ≤ b) = true := decide_eq_true (by omega)
    by_cases e2 : b ≤ 122
    ·have f2 : decide (b ≤ 122) = true := decide_eq_true (by omega)
     have HX := Aside0.mk (show queue_name.bad (decide (i = 0)) b = false by unfold queue_name.bad; simp; omega)
     clear e1 e2
     go_wp2
     go_roundg (a0.size - (i + 1))
     case measure => have := HC.out; have := HG.out; omega
     case rel =>
      have hc0 := HC.out
      refine ⟨i + 1, by omega, by have := HG.out; omega, ?_, rfl, ⟨?_⟩⟩
      ·have e : wrap64 ((i : Int) + 1) = ((i + 1 : Nat) : Int) := by have := HM.out; unfold wrap64; omega
       first | rfl | (rw [← e]; rfl) | (simp [← e]; done) | (simp; omega)
      ·rw [HN2.out, HX.out, if_neg (by simp), decide_eq_false (by omega)]
    ·have f2 : decide (b ≤ 122) = false := decide_eq_false (by omega)
     by_cases e3 : i = 0
     ·have HX := Aside0.mk (show queue_name.bad (decide (i = 0)) b = true by unfold queue_name.bad; simp; omega)
      have f3 : decide ((i : Int) = 0) = true := decide_eq_true (by omega)
      have f3b : ((i : Int) == 0) = true := beq_iff_eq.mpr (by omega)
      clear e3
      try clear e1 e2
      go_wp2
      go_ret
      exact ⟨by rw [show res = false by rw [← HR.out, HN2.out, HX.out, if_pos rfl, Bool.false_and]]; rfl, HB.out⟩
     ·have f3 : decide ((i : Int) = 0) = false := decide_eq_false (by omega)
      have f3b : ((i : Int) == 0) = false := beq_eq_false_iff_ne.mpr (by omega)
      by_cases e4 : b = 45
      ·have HX := Aside0.mk (show queue_name.bad (decide (i = 0)) b = false by unfold queue_name.bad; simp; omega)
       subst e4
       clear e3
       try clear e1 e2
       go_wp2
       go_roundg (a0.size - (i + 1))
       case measure => have := HC.out; have := HG.out; omega
       case rel =>
        have hc0 := HC.out
        refine ⟨i + 1, by omega, by have := HG.out; omega, ?_, rfl, ⟨?_⟩⟩
        ·have e : wrap64 ((i : Int) + 1) = ((i + 1 : Nat) : Int) := by have := HM.out; unfold wrap64; omega
         first | rfl | (rw [← e]; rfl) | (simp [← e]; done) | (simp; omega)
        ·rw [HN2.out, HX.out, if_neg (by simp), decide_eq_false (by omega)]
      ·have f4 : decide (b = 45) = false := decide_eq_false e4
       have f4b : (b == 45) = false := beq_eq_false_iff_ne.mpr e4
       have f4c : (b != 45) = true := bne_iff_ne.mpr e4
       by_cases e5 : b < 48
       ·have HX := Aside0.mk (show queue_name.bad (decide (i = 0)) b = true by unfold queue_name.bad; simp; omega)
        have f5 : decide (b < 48) = true := decide_eq_true (by omega)
        clear e3 e4 e5
        try clear e1 e2
        go_wp2
        go_ret
        exact ⟨by rw [show res = false by rw [← HR.out, HN2.out, HX.out, if_pos rfl, Bool.false_and]]; rfl, HB.out⟩
       ·have f5 : decide (b < 48) = false := decide_eq_false (by omega)
        by_cases e6 : 57 < b
        ·have HX := Aside0.mk (show queue_name.bad (decide (i = 0)) b = true by unfold queue_name.bad; simp; omega)
         have f6 : decide (57 < b) = true := decide_eq_true (by omega)
         clear e3 e4 e5 e6
         try clear e1 e2
         go_wp2
         go_ret
         exact ⟨by rw [show res = false by rw [← HR.out, HN2.out, HX.out, if_pos rfl, Bool.false_and]]; rfl, HB.out⟩
        ·have HX := Aside0.mk (show queue_name.bad (decide (i = 0)) b = false by unfold queue_name.bad; simp; omega)
         have f6 : decide (57 < b) = false := decide_eq_false (by omega)
         clear e3 e4 e5 e6
         try clear e1 e2
         go_wp2
         go_roundg (a0.size - (i + 1))
         case measure => have := HC.out; have := HG.out; omega
         case rel =>
          have hc0 := HC.out
          refine ⟨i + 1, by omega, by have := HG.out; omega, ?_, rfl, ⟨?_⟩⟩
          ·have e : wrap64 ((i : Int) + 1) = ((i + 1 : Nat) : Int) := by have := HM.out; unfold wrap64; omega
           first | rfl | (rw [← e]; rfl) | (simp [← e]; done) | (simp; omega)
          ·rw [HN2.out, HX.out, if_neg (by simp), decide_eq_false (by omega)]
   ·have f1 : decide (97 ≤ b) = false := decide_eq_false (by omega)
    have e2 := e1
    by_cases e3 : i = 0
    ·have HX := Aside0.mk (show queue_name.bad (decide (i = 0)) b = true by unfold queue_name.bad; simp; omega)
     have f3 : decide ((i : Int) = 0) = true := decide_eq_true (by omega)
     have f3b : ((i : Int) == 0) = true := beq_iff_eq.mpr (by omega)
     clear e3
     try clear e1 e2
     go_wp2
     go_ret
     exact ⟨by rw [show res = false by rw [← HR.out, HN2.out, HX.out, if_pos rfl, Bool.false_and]]; rfl, HB.out⟩
    ·have f3 : decide ((i : Int) = 0) = false := decide_eq_false (by omega)
     have f3b : ((i : Int) == 0) = false := beq_eq_false_iff_ne.mpr (by omega)
     by_cases e4 : b = 45
     ·have HX := Aside0.mk (show queue_name.bad (decide (i = 0)) b = false by unfold queue_name.bad; simp; omega)
      subst e4
      clear e3
      try clear e1 e2
      go_wp2
      go_roundg (a0.size - (i + 1))
      case measure => have := HC.out; have := HG.out; omega
      case rel =>
       have hc0 := HC.out
       refine ⟨i + 1, by omega, by have := HG.out; omega, ?_, rfl, ⟨?_⟩⟩
       ·have e : wrap64 ((i : Int) + 1) = ((i + 1 : Nat) : Int) := by have := HM.out; unfold wrap64; omega
        first | rfl | (rw [← e]; rfl) | (simp [← e]; done) | (simp; omega)
       ·rw [HN2.out, HX.out, if_neg (by simp), decide_eq_false (by omega)]
     ·have f4 : decide (b = 45) = false := decide_eq_false e4
      have f4b : (b == 45) = false := beq_eq_false_iff_ne.mpr e4
      have f4c : (b != 45) = true := bne_iff_ne.mpr e4
      by_cases e5 : b < 48
      ·have HX := Aside0.mk (show queue_name.bad (decide (i = 0)) b = true by unfold queue_name.bad; simp; omega)
       have f5 : decide (b < 48) = true := decide_eq_true (by omega)
       clear e3 e4 e5
       try clear e1 e2
       go_wp2
       go_ret
       exact ⟨by rw [show res = false by rw [← HR.out, HN2.out, HX.out, if_pos rfl, Bool.false_and]]; rfl, HB.out⟩
      ·have f5 : decide (b < 48) = false := decide_eq_false (by omega)
       by_cases e6 : 57 < b
       ·have HX := Aside0.mk (show queue_name.bad (decide (i = 0)) b = true by unfold queue_name.bad; simp; omega)
        have f6 : decide (57 < b) = true := decide_eq_true (by omega)
        clear e3 e4 e5 e6
        try clear e1 e2
        go_wp2
        go_ret
        exact ⟨by rw [show res = false by rw [← HR.out, HN2.out, HX.out, if_pos rfl, Bool.false_and]]; rfl, HB.out⟩
       ·have HX := Aside0.mk (show queue_name.bad (decide (i = 0)) b = false by unfold queue_name.bad; simp; omega)
        have f6 : decide (57 < b) = false := decide_eq_false (by omega)
        clear e3 e4 e5 e6
        try clear e1 e2
        go_wp2
        go_roundg (a0.size - (i + 1))
        case measure => have := HC.out; have := HG.out; omega
        case rel =>
         have hc0 := HC.out
         refine ⟨i + 1, by omega, by have := HG.out; omega, ?_, rfl, ⟨?_⟩⟩
         ·have e : wrap64 ((i : Int) + 1) = ((i + 1 : Nat) : Int) := by have := HM.out; unfold wrap64; omega
          first | rfl | (rw [← e]; rfl) | (simp [← e]; done) | (simp; omega)
         ·rw [HN2.out, HX.out, if_neg (by simp), decide_eq_false (by omega)]
  ·have hdec : decide ((i : Int) < (a0.size : Int)) = false := decide_eq_false (by omega)
   by_cases d1 : 0 < (a0.size : Int)
   ·have d1b : decide (0 < (a0.size : Int)) = true := decide_eq_true d1
    have d1c : decide (0 < a0.size) = true := decide_eq_true (by omega)
    by_cases d2 : (a0.size : Int) ≤ 40
    ·have d2b : decide ((a0.size : Int) ≤ 40) = true := decide_eq_true d2
     have d2c : decide (a0.size ≤ 40) = true := decide_eq_true (by omega)
     have hs : queue_name.scan a0.data.toList true = true := by rw [HN.out, List.drop_eq_nil_of_le (by rw [HL.out]; omega)]; rfl
     have HT := Aside0.mk (show res = true by rw [← HR.out, hs, decide_eq_true (show 0 < (a0.size : Int) ∧ (a0.size : Int) ≤ 40 from ⟨d1, d2⟩), Bool.and_true])
     clear hs d1 d2
     go_wp2
     go_ret
     exact ⟨by rw [HT.out]; rfl, HB.out⟩
    ·have d2b : decide ((a0.size : Int) ≤ 40) = false := decide_eq_false d2
     have d2c : decide (a0.size ≤ 40) = false := decide_eq_false (by omega)
     have HT := Aside0.mk (show res = false by rw [← HR.out, decide_eq_false (show ¬ (0 < (a0.size : Int) ∧ (a0.size : Int) ≤ 40) by omega), Bool.and_false])
     clear d1 d2
     go_wp2
     go_ret
     exact ⟨by rw [HT.out]; rfl, HB.out⟩
   ·have d1b : decide (0 < (a0.size : Int)) = false := decide_eq_false d1
    have d1c : decide (0 < a0.size) = false := decide_eq_false (by omega)
    have HT := Aside0.mk (show res = false by rw [← HR.out, decide_eq_false (show ¬ (0 < (a0.size : Int) ∧ (a0.size : Int) ≤ 40) by omega), Bool.and_false])
    clear d1
    go_wp2
    go_ret
    exact ⟨by rw [HT.out]; rfl, HB.out⟩

/-! ### slices_Clone__api_Project_api_Project: function 70 (by hand) -/
def slices_Clone__api_Project_api_Project.f (l0 : List (S42)) : Option (List (S42)) := if l0.length < 3518437208883 then some l0 else none
theorem slices_Clone__api_Project_api_Project.calls (A0 : Option Addr) (c0 : Nat) (l0 : List (S42)) (r : List (S42)) (w : World) (hr0 : Kd.C k42 w A0 l0.length l0) (hc0 : l0.length ≤ c0) (h : slices_Clone__api_Project_api_Project.f l0 = some r) :
  Calls Try.prog 70 #[.slice A0 l0.length c0] w fun e w' => ∃ v0_ : Value, e = .returned (v0_) ∧ Kd.R k42 42 w' w.heap.size (fun _ => True) v0_ r ∧ Below w.heap.size w w' := by
 have HR0 := Aside0.mk hr0
 have HB := Aside0.mk (Below.refl w.heap.size w)
 have hl : l0.length < 3518437208883 := by
  unfold slices_Clone__api_Project_api_Project.f at h
  split at h
  ·assumption
  ·cases h
 have H : some l0 = some r := by rw [← h]; unfold slices_Clone__api_Project_api_Project.f; rw [if_pos hl]
 obtain rfl := Option.some.inj H
 clear h H
 have HL := Aside0.mk hl
 clear hl
 cases A0 with
 | none =>
  have h0 : l0 = [] := by
   cases l0 with
   | nil => rfl
   | cons a l => obtain ⟨ad, he, _⟩ := hr0.2.2 (by simp); cases he
  have HE := Aside0.mk h0
  clear h0 hr0 hc0 HR0 HL
  have hrun : ∀ W, (binOp .eql 22 (.slice none l0.length c0) (.slice none 0 0)).run Try.prog W = .ok (.bool true) W := fun W => _root_.Go.run_eql_slice_nil W 22 42 none _ _ Try.underlying22
  go_enter Try.func70, Try.ntmps70
  go_wp2_with (fail)
  go_ret
  exact ⟨_, rfl, by rw [HE.out]; exact Kd.R_nil _ _ _ _ _, HB.out⟩
 | some ad =>
  clear hr0 hc0
  have hrun : ∀ W, (binOp .eql 22 (.slice (some ad) l0.length c0) (.slice none 0 0)).run Try.prog W = .ok (.bool false) W := fun W => _root_.Go.run_eql_slice_nil W 22 42 (some ad) _ _ Try.underlying22
  go_enter Try.func70, Try.ntmps70
  go_wp2_with (first | ((with_reducible refine gate_dst (N := 5) rfl ?_); refine Kd.R_lit k42 _ 42 ?hg (N := 5) ?hd (xs := []) (inner := []) (ok := fun _ => True) (okp := fun _ => True) ?hr ?hp (fun _ hk => hk) trivial (Below.refl _ _) (Nat.le_refl _) (by simp) ?_; (case hd => rfl); (case hg => rfl); (case hr => first | (go_simp; done) | (go_simp; rfl)); (case hp => exact (Reps.none _ _)); intro v9 w5 ho5 hb _ _; have HO5 := Aside0.mk (Kd.R_lower ho5 (below_size HB.out)); have n2_ := Aside0.mk (below_step HB.out hb); clear HB; have HB := n2_; clear n2_ hb ho5) | ((with_reducible refine gate_builtin (b := .append) (xs := #[.tmp 5, .tmp 6]) rfl ?_); at_builtin; refine Kd.R_append_rows k42 (w0 := w) w.heap.size rfl (.tmp 5) (.tmp 6) 22 42 (.agg #[(.string ⟨#[]⟩), (.int .i64 0), (.int .i64 0), (.int .i64 0)]) 40 rfl Try.underlying22 info42 rfl (by decide) (by omega) v9 [] l0 _ _ _ (fun _ => True) (fun _ => False) rfl rfl ?aO ?aR (fun _ _ h => h) (fun _ h => h.elim) ?aF ?aB ?aS ?aL ?_; (case aR => exact Kd.C_below HR0.out HB.out); (case aB => exact HB.out); (case aF => exact (fun _ _ => trivial)); (case aO => exact HO5.out); (case aS => exact below_size HB.out); (case aL => have := HL.out; simp only [List.length_nil]; omega); intro v10 w6 ho hb _ _; have HO6 := Aside0.mk ho; clear HB; have HB := Aside0.mk hb; clear ho hb))
  go_ret
  exact ⟨_, rfl, HO6.out, HB.out⟩

/-! ### queue_twin: function 50 -/
def queue_twin.f (l0_0 : List (S42)) (a0_1 : Int) (a0_2 : Int) : Option ((List (S42)) × Int × Int) := (slices_Clone__api_Project_api_Project.f l0_0).bind fun t118 => (some (t118, a0_1, a0_2))
set_option maxHeartbeats 8000000 in
set_option maxRecDepth 100000 in
theorem queue_twin.calls (A0_0 : Option Addr) (c0_0 : Nat) (l0_0 : List (S42)) (a0_1 : Int) (a0_2 : Int) (r1 : List (S42)) (r2 : Int) (r3 : Int) (w : World) (hr0_0 : Kd.C k42 w A0_0 l0_0.length l0_0) (hc0_0 : l0_0.length ≤ c0_0) (h : queue_twin.f l0_0 a0_1 a0_2 = some (r1, r2, r3)) :
  Calls Try.prog 50 #[.agg #[.slice A0_0 l0_0.length c0_0, .int .i64 a0_1, .int .i64 a0_2]] w fun e w' => ∃ v0_ : Value, e = .returned (.agg #[v0_, .int .i64 r2, .int .i64 r3]) ∧ Kd.R k42 42 w' w.heap.size (fun _ => True) v0_ r1 ∧ Below w.heap.size w w' := by
 have hu24 := Try.underlying24
 have HR0_0 := Aside0.mk hr0_0
 have HC0_0 := Aside0.mk hc0_0
 clear hr0_0 hc0_0
 have HB := Aside0.mk (Below.refl w.heap.size w)
 have H : ((slices_Clone__api_Project_api_Project.f l0_0).bind fun t118 => (some (t118, a0_1, a0_2))) = some (r1, r2, r3) := h
 clear h
 replace H := Option.bind_eq_some_iff.mp H
 obtain ⟨t118, A20, H⟩ := H
 replace H : (some (t118, a0_1, a0_2)) = some (r1, r2, r3) := H
 have A2 := Aside0.mk A20
 clear A20
 simp only [Option.some.injEq, Prod.mk.injEq] at H
 obtain ⟨rfl, rfl, rfl⟩ := H
 go_enter Try.func50, Try.ntmps50
 go_wp2_with (first | ((with_reducible refine gate_dst (N := 1) rfl ?_); refine box_event ?hg (N := 1) ?hd (cs := #[.slice A0_0 l0_0.length c0_0, .int .i64 a0_1, .int .i64 a0_2]) (t := 24) ?hr ?_; (case hd => rfl); (case hg => rfl); (case hr => first | (go_simp; done) | (go_simp; rfl)); intro gb116 hg w3 hbox hb; have n0_ := Aside0.mk (below_step (by repeat (first | (with_reducible first | exact HB.out | apply below_alloc | apply pw_below_drewN | apply below_drew1) | exact HB.out)) hb); have n1_ := Aside0.mk (hbox); have n2_ := Aside0.mk ((by rw [hg]; exact (below_size (by repeat (first | (with_reducible first | exact HB.out | apply below_alloc | apply pw_below_drewN | apply below_drew1) | exact HB.out))) : w.heap.size ≤ gb116)); have n3_ := Aside0.mk ((by rw [hg]; exact (below_size (by repeat (first | (with_reducible first | exact HB.out | apply below_alloc | apply pw_below_drewN | apply below_drew1) | exact HB.out))) : w.heap.size ≤ gb116)); clear HB; have HB := n0_; have BK116 := n1_; have GW116 := n2_; have GE116 := n3_; clear n0_ n1_ n2_ n3_; clear hb hbox hg) | ((with_reducible refine gate_dst (N := 2) rfl ?_); refine box_event ?hg (N := 2) ?hd (cs := #[.slice none 0 0, .int .i64 0, .int .i64 0]) (t := 24) ?hr ?_; (case hd => rfl); (case hg => rfl); (case hr => first | (go_simp; done) | (go_simp; rfl)); intro gb117 hg w4 hbox hb; have n0_ := Aside0.mk (blk_below (g := gb116) (o := .cells #[.slice A0_0 l0_0.length c0_0, .int .i64 a0_1, .int .i64 a0_2] 24 (0, 0)) (by (with_reducible repeat (first | refine blk_drewN ?_ _ | refine blk_drew ?_ | refine blk_alloc ?_ _)); exact BK116.out) hb); have n1_ := Aside0.mk (below_step (by repeat (first | (with_reducible first | exact HB.out | apply below_alloc | apply pw_below_drewN | apply below_drew1 | refine below_set ?_ GE116.out) | exact HB.out)) hb); have n2_ := Aside0.mk (hbox); have n3_ := Aside0.mk ((by rw [hg]; exact (below_size (by repeat (first | (with_reducible first | exact HB.out | apply below_alloc | apply pw_below_drewN | apply below_drew1 | refine below_set ?_ GE116.out) | exact HB.out))) : w.heap.size ≤ gb117)); have n4_ := Aside0.mk ((by rw [hg]; exact (below_size (by repeat (first | (with_reducible first | exact HB.out | apply below_alloc | apply pw_below_drewN | apply below_drew1 | refine below_set ?_ GE116.out) | exact HB.out))) : w.heap.size ≤ gb117)); have n5_ := Aside0.mk ((by rw [hg]; exact Nat.ne_of_lt (blk_lt (g := gb116) (o := .cells #[.slice A0_0 l0_0.length c0_0, .int .i64 a0_1, .int .i64 a0_2] 24 (0, 0)) (by (with_reducible repeat (first | refine blk_drewN ?_ _ | refine blk_drew ?_ | refine blk_alloc ?_ _)); exact BK116.out)) : gb116 ≠ gb117)); have n6_ := Aside0.mk ((by rw [hg]; exact Nat.ne_of_gt (blk_lt (g := gb116) (o := .cells #[.slice A0_0 l0_0.length c0_0, .int .i64 a0_1, .int .i64 a0_2] 24 (0, 0)) (by (with_reducible repeat (first | refine blk_drewN ?_ _ | refine blk_drew ?_ | refine blk_alloc ?_ _)); exact BK116.out)) : gb117 ≠ gb116)); clear BK116; clear HB; have BK116 := n0_; have HB := n1_; have BK117 := n2_; have GW117 := n3_; have GE117 := n4_; have NB116_117 := n5_; have NB117_116 := n6_; clear n0_ n1_ n2_ n3_ n4_ n5_ n6_; clear hb hbox hg; have hnb5 := NB116_117.out; have hnc5 := NB117_116.out; have hcz6_0 : w4.cell? ⟨gb116, 0, none⟩ = some (.slice A0_0 l0_0.length c0_0) := (blk_cell BK116.out 0).trans rfl; have hcz6_1 : w4.cell? ⟨gb116, 1, none⟩ = some (.int .i64 a0_1) := (blk_cell BK116.out 1).trans rfl; have hcz6_2 : w4.cell? ⟨gb116, 2, none⟩ = some (.int .i64 a0_2) := (blk_cell BK116.out 2).trans rfl; have hfz6_0 := blk_frozen BK116.out 0; have hfz6_1 := blk_frozen BK116.out 1; have hfz6_2 := blk_frozen BK116.out 2) | ((with_reducible refine gate_callee (f := 70) rfl ?_); refine goesL_ (some 5) rfl rfl Try.func70 (by kernel_rfl) rfl #[.slice A0_0 l0_0.length c0_0] rfl (by (try simp only [List.map_toArray, List.map_cons, List.map_nil]); first | done | rfl | (simp only [List.length_drop, List.length_take]; rfl)) ?_; (with_reducible refine (slices_Clone__api_Project_api_Project.calls _ _ l0_0 t118 _ ?side1 ?side2 A2.out).mono ?_); (case side1 => repeat (first | exact (Kd.C_below HR0_0.out HB.out) | (with_reducible refine Kd.C_alloc ?_ _) | (with_reducible refine Kd.C_drewN ?_ _) | (with_reducible refine Kd.C_drew ?_))); (case side2 => exact HC0_0.out); rintro e w7 ⟨v119, rfl, ho0, hb⟩; refine ⟨_, rfl, ?_⟩; have n0_ := Aside0.mk (Kd.R_lower ho0 (below_size (by repeat (first | (with_reducible first | exact HB.out | apply below_alloc | apply pw_below_drewN | apply below_drew1 | refine below_set ?_ GE116.out | refine below_set ?_ GE117.out) | exact HB.out)))); have n1_ := Aside0.mk (blk_below (g := gb116) (o := .cells #[.slice A0_0 l0_0.length c0_0, .int .i64 a0_1, .int .i64 a0_2] 24 (0, 0)) (by (with_reducible repeat (first | refine blk_drewN ?_ _ | refine blk_drew ?_ | refine blk_alloc ?_ _)); exact BK116.out) hb); have n2_ := Aside0.mk (blk_below (g := gb117) (o := .cells #[.slice none 0 0, .int .i64 0, .int .i64 0] 24 (0, 0)) (by (with_reducible repeat (first | refine blk_drewN ?_ _ | refine blk_drew ?_ | refine blk_alloc ?_ _)); exact BK117.out) hb); have n3_ := Aside0.mk (below_step (by repeat (first | (with_reducible first | exact HB.out | apply below_alloc | apply pw_below_drewN | apply below_drew1 | refine below_set ?_ GE116.out | refine below_set ?_ GE117.out) | exact HB.out)) hb); clear BK116; clear BK117; clear HB; have HO120 := n0_; have BK116 := n1_; have BK117 := n2_; have HB := n3_; clear n0_ n1_ n2_ n3_; (try clear hb); (try clear hb2); (try clear hk); (try clear hi); (try clear ho0); obtain ⟨Ao8, co8, eo8⟩ := Kd.R_slice HO120.out; subst eo8; have hcz9_0 : w7.cell? ⟨gb116, 0, none⟩ = some (.slice A0_0 l0_0.length c0_0) := (blk_cell BK116.out 0).trans rfl; have hcz9_1 : w7.cell? ⟨gb116, 1, none⟩ = some (.int .i64 a0_1) := (blk_cell BK116.out 1).trans rfl; have hcz9_2 : w7.cell? ⟨gb116, 2, none⟩ = some (.int .i64 a0_2) := (blk_cell BK116.out 2).trans rfl; have hfz9_0 := blk_frozen BK116.out 0; have hfz9_1 := blk_frozen BK116.out 1; have hfz9_2 := blk_frozen BK116.out 2; have hcz10_0 : w7.cell? ⟨gb117, 0, none⟩ = some (.slice none 0 0) := (blk_cell BK117.out 0).trans rfl; have hcz10_1 : w7.cell? ⟨gb117, 1, none⟩ = some (.int .i64 0) := (blk_cell BK117.out 1).trans rfl; have hcz10_2 : w7.cell? ⟨gb117, 2, none⟩ = some (.int .i64 0) := (blk_cell BK117.out 2).trans rfl; have hfz10_0 := blk_frozen BK117.out 0; have hfz10_1 := blk_frozen BK117.out 1; have hfz10_2 := blk_frozen BK117.out 2))
 refine bodyPost_ret (results_cell_row rfl _ _ gb117 24 #[.slice Ao8 t118.length co8, .int .i64 a0_1, .int .i64 a0_2] (0, 0) _ rfl (by (with_reducible repeat (first | refine blk_drewN ?_ _ | refine blk_drew ?_ | refine blk_alloc ?_ _)); refine blk_put (cs := #[.slice Ao8 t118.length co8, .int .i64 a0_1, .int .i64 0]) ?_ 2 _ rfl; (with_reducible repeat (first | refine blk_drewN ?_ _ | refine blk_drew ?_ | refine blk_alloc ?_ _)); refine blk_put (cs := #[.slice Ao8 t118.length co8, .int .i64 0, .int .i64 0]) ?_ 1 _ rfl; (with_reducible repeat (first | refine blk_drewN ?_ _ | refine blk_drew ?_ | refine blk_alloc ?_ _)); refine blk_put (cs := #[.slice none 0 0, .int .i64 0, .int .i64 0]) ?_ 0 _ rfl; (with_reducible repeat (first | refine blk_drewN ?_ _ | refine blk_drew ?_ | refine blk_alloc ?_ _)); refine blk_far ?_ NB117_116.out _; (with_reducible repeat (first | refine blk_drewN ?_ _ | refine blk_drew ?_ | refine blk_alloc ?_ _)); exact BK117.out) Try.underlying24 rfl (by kernel_rfl)) rfl ?_
 exact ⟨_, by first | rfl | (simp [errW_none, errW_some] <;> rfl) | (simp [*, errW_none, errW_some] <;> rfl), by (with_reducible repeat (first | apply Kd.R_alloc | apply Kd.R_drewN | apply Kd.R_drew)); exact Kd.R_mono (Kd.R_far (p := ⟨gb117, 2, none⟩) (Kd.R_far (p := ⟨gb117, 1, none⟩) (Kd.R_far (p := ⟨gb117, 0, none⟩) (Kd.R_far (p := ⟨gb116, 0, none⟩) (Kd.R_types (Kd.R_types HO120.out BK116.out (by decide)) BK117.out (by decide)) (fun _ hk => hk.1.2) (.slice Ao8 t118.length co8)) (fun _ hk => hk.2) (.slice Ao8 t118.length co8)) (fun _ hk => hk.2) (.int .i64 a0_1)) (fun _ hk => hk.2) (.int .i64 a0_2)) (fun _ hk => trivial), by repeat (first | (with_reducible first | exact HB.out | apply below_alloc | apply pw_below_drewN | apply below_drew1 | refine below_set ?_ GE116.out | refine below_set ?_ GE117.out) | exact HB.out)⟩

end Go.Proofs.Ytelmcaenemjppaa.Q
