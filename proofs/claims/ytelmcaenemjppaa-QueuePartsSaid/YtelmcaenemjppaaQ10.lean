-- Written by qprint.py (a program of this session) over the program of the kit that prints contracts. Not trusted: Lean checks it.
import Derived.Test.YtelmcaenemjppaaQ0
import Derived.Test.YtelmcaenemjppaaQ8
import Derived.Test.YtelmcaenemjppaaQ9
namespace Go.Proofs.Ytelmcaenemjppaa.Q
open Go.RowKit Go.Proofs.YtelmcaenemjppaaW.PrintWords Go.Proofs.YtelmcaenemjppaaW.PrintLast Go.Proofs.YtelmcaenemjppaaW.PrintMore
attribute [local go_sem] max2_int min2_int max_two min_two max_three min_three max_four min_four   -- for this text's walks alone
set_option linter.unusedVariables false
set_option linter.unusedSimpArgs false

/-! ### fringeref42_Twin: function 52 -/
def fringeref42_Twin.f (l0_0 : List (S42)) (a0_1 : Int) (a0_2 : Int) : Option ((List (S42)) × Int × Int) := (some (([] : List (S42)) : List (S42))).bind fun y144 => (if y144.length + l0_0.length < 3518437208883 then (some ((y144 ++ l0_0), a0_1, a0_2)) else (none))
def fringeref42_Twin.T1 : Bool × List (List Nat × List Nat) := (true, [([], []), ([], []), ([1], [1]), ([0, 2], [0, 2]), ([], []), ([4], [4]), ([], []), ([6], [6]), ([3, 5, 7], [3, 5, 7]), ([8, 3, 0, 1, 2, 3, 4, 5, 6, 7, 8], [8])])
def fringeref42_Twin.B1 : List Nat := [0, 0, 2, 7, 0, 16, 0, 64, 255, 511]
theorem fringeref42_Twin.tab1 : rtab .any (opsOf Try.f52 1) = fringeref42_Twin.T1 := by kernel_rfl
theorem fringeref42_Twin.bits1 : waitsOk fringeref42_Twin.T1.2 fringeref42_Twin.B1 = true := by kernel_rfl
set_option maxHeartbeats 8000000 in
set_option maxRecDepth 100000 in
theorem fringeref42_Twin.calls (A0_0 : Option Addr) (c0_0 : Nat) (l0_0 : List (S42)) (a0_1 : Int) (a0_2 : Int) (r1 : List (S42)) (r2 : Int) (r3 : Int) (w : World) (hr0_0 : Kd.C k42 w A0_0 l0_0.length l0_0) (hc0_0 : l0_0.length ≤ c0_0) (h : fringeref42_Twin.f l0_0 a0_1 a0_2 = some (r1, r2, r3)) :
  Calls Try.prog 52 #[.agg #[.slice A0_0 l0_0.length c0_0, .int .i64 a0_1, .int .i64 a0_2]] w fun e w' => ∃ v0_ : Value, e = .returned (.agg #[v0_, .int .i64 r2, .int .i64 r3]) ∧ Kd.R k42 42 w' w.heap.size (fun _ => True) v0_ r1 ∧ Below w.heap.size w w' := by
 have hu24 := Try.underlying24
 have HR0_0 := Aside0.mk hr0_0
 have HC0_0 := Aside0.mk hc0_0
 clear hr0_0 hc0_0
 have HB := Aside0.mk (Below.refl w.heap.size w)
 have H : ((some (([] : List (S42)) : List (S42))).bind fun y144 => (if y144.length + l0_0.length < 3518437208883 then (some ((y144 ++ l0_0), a0_1, a0_2)) else (none))) = some (r1, r2, r3) := h
 clear h
 obtain ⟨y144, hy144⟩ : ∃ y_ : List (S42), y_ = (([] : List (S42))) := ⟨_, rfl⟩
 replace H : (if y144.length + l0_0.length < 3518437208883 then (some ((y144 ++ l0_0), a0_1, a0_2)) else (none)) = some (r1, r2, r3) := by first | (rw [hy144]; with_reducible exact H) | (have H2_ := (Option.bind_some _ _).symm.trans H; rw [hy144]; with_reducible exact H2_) | (have H2_ := (Option.bind_some _ _).symm.trans H; with_reducible exact H2_) | with_reducible exact H | (rw [hy144]; exact H) | exact H
 have Ny144 := Aside0.mk hy144
 clear hy144
 by_cases c2 : y144.length + l0_0.length < 3518437208883
 ·rw [if_pos c2] at H
  have LMc2 := Aside0.mk c2
  clear c2
  obtain ⟨y147, hy147⟩ : ∃ y_ : List (S42), y_ = (y144 ++ l0_0) := ⟨_, rfl⟩
  replace H : (some (y147, a0_1, a0_2)) = some (r1, r2, r3) := by first | (rw [hy147]; with_reducible exact H) | (have H2_ := (Option.bind_some _ _).symm.trans H; rw [hy147]; with_reducible exact H2_) | (have H2_ := (Option.bind_some _ _).symm.trans H; with_reducible exact H2_) | with_reducible exact H | (rw [hy147]; exact H) | exact H
  have Ny147 := Aside0.mk hy147
  clear hy147
  simp only [Option.some.injEq, Prod.mk.injEq] at H
  obtain ⟨rfl, rfl, rfl⟩ := H
  go_enter Try.func52, Try.ntmps52
  try go_wp2_with (first | ((with_reducible refine gate_dst (N := 1) rfl ?_); refine box_event ?hg (N := 1) ?hd (cs := #[.slice A0_0 l0_0.length c0_0, .int .i64 a0_1, .int .i64 a0_2]) (t := 24) ?hr ?_; (case hd => rfl); (case hg => rfl); (case hr => first | (go_simp; done) | (go_simp; rfl)); intro gb142 hg w3 hbox hb; have n0_ := Aside0.mk (below_step (by repeat (first | (with_reducible first | exact HB.out | apply below_alloc | apply pw_below_drewN | apply below_drew1) | exact HB.out)) hb); have n1_ := Aside0.mk (hbox); have n2_ := Aside0.mk ((by rw [hg]; exact (below_size (by repeat (first | (with_reducible first | exact HB.out | apply below_alloc | apply pw_below_drewN | apply below_drew1) | exact HB.out))) : w.heap.size ≤ gb142)); have n3_ := Aside0.mk ((by rw [hg]; exact (below_size (by repeat (first | (with_reducible first | exact HB.out | apply below_alloc | apply pw_below_drewN | apply below_drew1) | exact HB.out))) : w.heap.size ≤ gb142)); clear HB; have HB := n0_; have BK142 := n1_; have GW142 := n2_; have GE142 := n3_; clear n0_ n1_ n2_ n3_; clear hb hbox hg) | ((with_reducible refine gate_dst (N := 2) rfl ?_); refine box_event ?hg (N := 2) ?hd (cs := #[.slice none 0 0, .int .i64 0, .int .i64 0]) (t := 24) ?hr ?_; (case hd => rfl); (case hg => rfl); (case hr => first | (go_simp; done) | (go_simp; rfl)); intro gb143 hg w4 hbox hb; have n0_ := Aside0.mk (blk_below (g := gb142) (o := .cells #[.slice A0_0 l0_0.length c0_0, .int .i64 a0_1, .int .i64 a0_2] 24 (0, 0)) (by (with_reducible repeat (first | refine blk_drewN ?_ _ | refine blk_drew ?_ | refine blk_alloc ?_ _)); exact BK142.out) hb); have n1_ := Aside0.mk (below_step (by repeat (first | (with_reducible first | exact HB.out | apply below_alloc | apply pw_below_drewN | apply below_drew1 | refine below_set ?_ GE142.out) | exact HB.out)) hb); have n2_ := Aside0.mk (hbox); have n3_ := Aside0.mk ((by rw [hg]; exact (below_size (by repeat (first | (with_reducible first | exact HB.out | apply below_alloc | apply pw_below_drewN | apply below_drew1 | refine below_set ?_ GE142.out) | exact HB.out))) : w.heap.size ≤ gb143)); have n4_ := Aside0.mk ((by rw [hg]; exact (below_size (by repeat (first | (with_reducible first | exact HB.out | apply below_alloc | apply pw_below_drewN | apply below_drew1 | refine below_set ?_ GE142.out) | exact HB.out))) : w.heap.size ≤ gb143)); have n5_ := Aside0.mk ((by rw [hg]; exact Nat.ne_of_lt (blk_lt (g := gb142) (o := .cells #[.slice A0_0 l0_0.length c0_0, .int .i64 a0_1, .int .i64 a0_2] 24 (0, 0)) (by (with_reducible repeat (first | refine blk_drewN ?_ _ | refine blk_drew ?_ | refine blk_alloc ?_ _)); exact BK142.out)) : gb142 ≠ gb143)); have n6_ := Aside0.mk ((by rw [hg]; exact Nat.ne_of_gt (blk_lt (g := gb142) (o := .cells #[.slice A0_0 l0_0.length c0_0, .int .i64 a0_1, .int .i64 a0_2] 24 (0, 0)) (by (with_reducible repeat (first | refine blk_drewN ?_ _ | refine blk_drew ?_ | refine blk_alloc ?_ _)); exact BK142.out)) : gb143 ≠ gb142)); clear BK142; clear HB; have BK142 := n0_; have HB := n1_; have BK143 := n2_; have GW143 := n3_; have GE143 := n4_; have NB142_143 := n5_; have NB143_142 := n6_; clear n0_ n1_ n2_ n3_ n4_ n5_ n6_; clear hb hbox hg))
  have n0_ := Aside0.mk (blk_drew BK142.out)
  have n1_ := Aside0.mk (blk_drew BK143.out)
  have n2_ := Aside0.mk (below_drew1 HB.out)
  clear BK142
  clear BK143
  clear HB
  have BK142 := n0_
  have BK143 := n1_
  have HB := n2_
  clear n0_ n1_ n2_
  refine start_ (n := 10) (S := fun w' => w'.cell? ⟨gb142, 0, none⟩ = some (.slice A0_0 l0_0.length c0_0) ∧ w'.cell? ⟨gb142, 1, none⟩ = some (.int .i64 a0_1) ∧ w'.cell? ⟨gb142, 2, none⟩ = some (.int .i64 a0_2)) (ds := []) #[false, false, false, false, false, false, false, false, false, false] (by kernel_rfl) rfl rfl ⟨(blk_cell BK142.out 0).trans rfl, (blk_cell BK142.out 1).trans rfl, (blk_cell BK142.out 2).trans rfl⟩ (fun hHeld => ?_); refine with_tabW fringeref42_Twin.tab1 fringeref42_Twin.bits1 (fun HT_ HW_ => ?_)
  generalize w4.drew = w5 at BK142 BK143 HB hHeld ⊢
  refine pure_ (i := 1) (N := some 4) (v := ?_) (a' := ?_) #[false, true, false, false, false, false, false, false, false, false] rfl rfl (any_of HT_.out (by kernel_rfl)) (fun _ _ _ h => h) (Or.inl ⟨by rfl, ?_⟩) ?_ ?_
  rotate_left
  ·intro w'
   go_simp
   with_reducible rfl
  rotate_left
  ·simp only [Act.put, List.setIfInBounds_toArray, List.set_cons_zero, List.set_cons_succ, i64_w, i32_w]
   rfl
  refine pure_ (i := 4) (N := some 7) (v := ?_) (a' := ?_) #[false, true, false, false, true, false, false, false, false, false] rfl rfl (any_of HT_.out (by kernel_rfl)) (fun _ _ _ h => h) (Or.inl ⟨by rfl, ?_⟩) ?_ ?_
  rotate_left
  ·intro w'
   go_simp
   with_reducible rfl
  rotate_left
  ·simp only [Act.put, List.setIfInBounds_toArray, List.set_cons_zero, List.set_cons_succ, i64_w, i32_w]
   rfl
  refine pure_ (i := 6) (N := some 9) (v := ?_) (a' := ?_) #[false, true, false, false, true, false, true, false, false, false] rfl rfl (any_of HT_.out (by kernel_rfl)) (fun _ _ _ h => h) (Or.inl ⟨by rfl, ?_⟩) ?_ ?_
  rotate_left
  ·intro w'
   go_simp
   with_reducible rfl
  rotate_left
  ·simp only [Act.put, List.setIfInBounds_toArray, List.set_cons_zero, List.set_cons_succ, i64_w, i32_w]
   rfl
  refine take_ (i := 2) (N := some 5) (v := ?_) (a' := ?_) #[false, true, true, false, true, false, true, false, false, false] rfl rfl (take_ofW HT_.out HW_.out (by kernel_rfl)) (fun _ _ _ h => h) (Or.inl ⟨by rfl, ?_⟩) hHeld ?_ ?_
  rotate_left
  ·rintro w' ⟨s0, s1, s2⟩
   go_simp
   with_reducible rfl
  rotate_left
  ·simp only [Act.put, List.setIfInBounds_toArray, List.set_cons_zero, List.set_cons_succ, i64_w, i32_w]
   rfl
  refine take_ (i := 5) (N := some 8) (v := ?_) (a' := ?_) #[false, true, true, false, true, true, true, false, false, false] rfl rfl (take_ofW HT_.out HW_.out (by kernel_rfl)) (fun _ _ _ h => h) (Or.inl ⟨by rfl, ?_⟩) hHeld ?_ ?_
  rotate_left
  ·rintro w' ⟨s0, s1, s2⟩
   go_simp
   with_reducible rfl
  rotate_left
  ·simp only [Act.put, List.setIfInBounds_toArray, List.set_cons_zero, List.set_cons_succ, i64_w, i32_w]
   rfl
  refine take_ (i := 7) (N := some 10) (v := ?_) (a' := ?_) #[false, true, true, false, true, true, true, true, false, false] rfl rfl (take_ofW HT_.out HW_.out (by kernel_rfl)) (fun _ _ _ h => h) (Or.inl ⟨by rfl, ?_⟩) hHeld ?_ ?_
  rotate_left
  ·rintro w' ⟨s0, s1, s2⟩
   go_simp
   with_reducible rfl
  rotate_left
  ·simp only [Act.put, List.setIfInBounds_toArray, List.set_cons_zero, List.set_cons_succ, i64_w, i32_w]
   rfl
  refine one_ (i := 0) (N := some 3) #[true, true, true, false, true, true, true, true, false, false] rfl rfl (one_of HT_.out (by kernel_rfl)) (by decide) (fun K hK => ?_)
  refine Kd.R_lit_step k42 _ 42 ?hg (N := 3) ?hd (xs := ([] : List (S42))) (inner := []) (ok := fun _ => True) (okp := fun _ => True) ?hr ?hp (fun _ hk => hk) trivial (Below.refl _ _) (Nat.le_refl _) (by simp) ?_; (case hd => rfl); (case hg => rfl); (case hr => first | (go_simp; done) | (go_simp; rfl)); (case hp => exact (Reps.none _ _))
  intro v145 w6 ho7 hb hg_ hnew_
  clear hg_ hnew_
  (first | rw [← Ny144.out] at ho7 | (simp only [Int.reduceToNat] at ho7; rw [← Ny144.out] at ho7))
  have n0_ := Aside0.mk (Kd.R_lower ho7 (below_size (by repeat (first | (with_reducible first | exact HB.out | apply below_alloc | apply pw_below_drewN | apply below_drew1 | refine below_set ?_ GE142.out | refine below_set ?_ GE143.out) | exact HB.out))))
  have n1_ := Aside0.mk (blk_below (g := gb142) (o := .cells #[.slice A0_0 l0_0.length c0_0, .int .i64 a0_1, .int .i64 a0_2] 24 (0, 0)) (by (with_reducible repeat (first | refine blk_drewN ?_ _ | refine blk_drew ?_ | refine blk_alloc ?_ _)); exact BK142.out) hb)
  have n2_ := Aside0.mk (blk_below (g := gb143) (o := .cells #[.slice none 0 0, .int .i64 0, .int .i64 0] 24 (0, 0)) (by (with_reducible repeat (first | refine blk_drewN ?_ _ | refine blk_drew ?_ | refine blk_alloc ?_ _)); exact BK143.out) hb)
  have n3_ := Aside0.mk (below_step (by repeat (first | (with_reducible first | exact HB.out | apply below_alloc | apply pw_below_drewN | apply below_drew1 | refine below_set ?_ GE142.out | refine below_set ?_ GE143.out) | exact HB.out)) hb)
  clear BK142
  clear BK143
  clear HB
  have HO146 := n0_
  have BK142 := n1_
  have BK143 := n2_
  have HB := n3_
  clear n0_ n1_ n2_ n3_
  clear hb ho7
  refine hK.out _ _ ⟨(blk_cell BK142.out 0).trans rfl, (blk_cell BK142.out 1).trans rfl, (blk_cell BK142.out 2).trans rfl⟩ (fun hHeld => ?_)
  clear hK K
  refine norm_ (a' := ?_) ?_ ?_
  rotate_left
  ·show Act.put _ (some 3) _ = _
   simp only [Act.put, List.setIfInBounds_toArray, List.set_cons_zero, List.set_cons_succ, i64_w, i32_w]
   rfl
  refine one_ (i := 3) (N := some 6) #[true, true, true, true, true, true, true, true, false, false] rfl rfl (one_of HT_.out (by kernel_rfl)) (by decide) (fun K hK => ?_)
  refine Kd.R_append_rows_step k42 (w0 := w) w.heap.size (by rfl) (.tmp 3) (.tmp 5) 22 42 (.agg #[(.string ⟨#[]⟩), (.int .i64 0), (.int .i64 0), (.int .i64 0)]) 40 rfl Try.underlying22 info42 rfl (by decide) (by omega) v145 y144 l0_0 _ _ _ (fun _ => True) (fun _ => False) rfl rfl ?aO ?aR (fun _ _ h => h) (fun _ h => h.elim) ?aF ?aB ?aS ?aL ?_
  (case aR => repeat (first | exact (Kd.C_below HR0_0.out HB.out) | (with_reducible refine Kd.C_alloc ?_ _) | (with_reducible refine Kd.C_drewN ?_ _) | (with_reducible refine Kd.C_drew ?_)))
  (case aB => exact (by repeat (first | (with_reducible first | exact HB.out | apply below_alloc | apply pw_below_drewN | apply below_drew1 | refine below_set ?_ GE142.out | refine below_set ?_ GE143.out) | exact HB.out)))
  (case aF => exact (fun _ _ => trivial))
  (case aO => exact (by (with_reducible repeat (first | apply Kd.R_alloc | apply Kd.R_drewN | apply Kd.R_drew)); exact HO146.out))
  (case aS => exact (below_size (by repeat (first | (with_reducible first | exact HB.out | apply below_alloc | apply pw_below_drewN | apply below_drew1 | refine below_set ?_ GE142.out | refine below_set ?_ GE143.out) | exact HB.out))))
  (case aL => have := LMc2.out; omega)
  intro v148 w8 ho hb hg hat
  rw [← Ny147.out] at ho
  have n0_ := Aside0.mk (blk_grown (g := gb142) (o := .cells #[.slice A0_0 l0_0.length c0_0, .int .i64 a0_1, .int .i64 a0_2] 24 (0, 0)) (by (with_reducible repeat (first | refine blk_drewN ?_ _ | refine blk_drew ?_ | refine blk_alloc ?_ _)); exact BK142.out) hg (Kd.R_ne HO146.out BK142.out (by decide)))
  have n1_ := Aside0.mk (blk_grown (g := gb143) (o := .cells #[.slice none 0 0, .int .i64 0, .int .i64 0] 24 (0, 0)) (by (with_reducible repeat (first | refine blk_drewN ?_ _ | refine blk_drew ?_ | refine blk_alloc ?_ _)); exact BK143.out) hg (Kd.R_ne HO146.out BK143.out (by decide)))
  have n2_ := Aside0.mk (hb)
  have n3_ := Aside0.mk (ho)
  clear BK142
  clear BK143
  clear HB
  clear HO146
  have BK142 := n0_
  have BK143 := n1_
  have HB := n2_
  have HO149 := n3_
  clear n0_ n1_ n2_ n3_
  clear ho hb hg hat
  obtain ⟨Ao9, co9, eo9⟩ := Kd.R_slice HO149.out
  (first | subst eo9 | (injection eo9 with f1_ f2_ f3_; have f4_ := f1_.symm; have f5_ := f3_.symm; clear f1_ f2_ f3_; subst f4_; subst f5_))
  refine hK.out _ _ ⟨(blk_cell BK142.out 0).trans rfl, (blk_cell BK142.out 1).trans rfl, (blk_cell BK142.out 2).trans rfl⟩ (fun hHeld => ?_)
  clear hK K
  refine norm_ (a' := ?_) ?_ ?_
  rotate_left
  ·show Act.put _ (some 6) _ = _
   simp only [Act.put, List.setIfInBounds_toArray, List.set_cons_zero, List.set_cons_succ, i64_w, i32_w]
   rfl
  refine pure_ (i := 8) (N := some 11) (v := ?_) (a' := ?_) #[true, true, true, true, true, true, true, true, true, false] rfl rfl (any_of HT_.out (by kernel_rfl)) (fun _ _ _ h => h) (Or.inl ⟨by rfl, ?_⟩) ?_ ?_
  rotate_left
  ·intro w'
   go_simp
   with_reducible rfl
  rotate_left
  ·simp only [Act.put, List.setIfInBounds_toArray, List.set_cons_zero, List.set_cons_succ, i64_w, i32_w]
   rfl
  refine one_ (i := 9) (N := none) #[true, true, true, true, true, true, true, true, true, true] rfl rfl (one_of HT_.out (by kernel_rfl)) (by decide) (fun K hK => ?_)
  have hs10 : w8.cell? ⟨gb143, 0, none⟩ = some (.slice none 0 0) := (blk_cell BK143.out 0).trans rfl
  have hfs10 := blk_frozen BK143.out 0
  have hns10_0 := NB142_143.out
  have hms10_0 := NB143_142.out
  have hs11 : w8.cell? ⟨gb143, 1, none⟩ = some (.int .i64 0) := (blk_cell BK143.out 1).trans rfl
  have hfs11 := blk_frozen BK143.out 1
  have hns11_0 := NB142_143.out
  have hms11_0 := NB143_142.out
  have hs12 : w8.cell? ⟨gb143, 2, none⟩ = some (.int .i64 0) := (blk_cell BK143.out 2).trans rfl
  have hfs12 := blk_frozen BK143.out 2
  have hns12_0 := NB142_143.out
  have hms12_0 := NB143_142.out
  refine skip_ (w1 := ?_) (by rfl) rfl ?_ ?_
  rotate_left
  ·go_simp
   rfl
  refine hK.out _ _ ⟨((cell_far (p := ⟨gb143, _, none⟩) NB142_143.out _).trans (((cell_far (p := ⟨gb143, _, none⟩) NB142_143.out _).trans (((cell_far (p := ⟨gb143, _, none⟩) NB142_143.out _).trans (hHeld.1)))))), ((cell_far (p := ⟨gb143, _, none⟩) NB142_143.out _).trans (((cell_far (p := ⟨gb143, _, none⟩) NB142_143.out _).trans (((cell_far (p := ⟨gb143, _, none⟩) NB142_143.out _).trans (hHeld.2.1)))))), ((cell_far (p := ⟨gb143, _, none⟩) NB142_143.out _).trans (((cell_far (p := ⟨gb143, _, none⟩) NB142_143.out _).trans (((cell_far (p := ⟨gb143, _, none⟩) NB142_143.out _).trans (hHeld.2.2))))))⟩ (fun hHeld => ?_)
  clear hK K
  refine done_ (done_of HT_.out (by kernel_rfl)) ?_
  try go_wp2
  refine bodyPost_ret (results_cell_row rfl _ _ gb143 24 #[.slice Ao9 y147.length co9, .int .i64 a0_1, .int .i64 a0_2] (0, 0) _ rfl (by (with_reducible repeat (first | refine blk_drewN ?_ _ | refine blk_drew ?_ | refine blk_alloc ?_ _)); refine blk_put (cs := #[.slice Ao9 y147.length co9, .int .i64 a0_1, .int .i64 0]) ?_ 2 _ rfl; (with_reducible repeat (first | refine blk_drewN ?_ _ | refine blk_drew ?_ | refine blk_alloc ?_ _)); refine blk_put (cs := #[.slice Ao9 y147.length co9, .int .i64 0, .int .i64 0]) ?_ 1 _ rfl; (with_reducible repeat (first | refine blk_drewN ?_ _ | refine blk_drew ?_ | refine blk_alloc ?_ _)); refine blk_put (cs := #[.slice none 0 0, .int .i64 0, .int .i64 0]) ?_ 0 _ rfl; (with_reducible repeat (first | refine blk_drewN ?_ _ | refine blk_drew ?_ | refine blk_alloc ?_ _)); exact BK143.out) Try.underlying24 rfl (by kernel_rfl)) rfl ?_
  exact ⟨_, by first | rfl | (simp [errW_none, errW_some] <;> rfl) | (simp [*, errW_none, errW_some] <;> rfl), by (with_reducible repeat (first | apply Kd.R_alloc | apply Kd.R_drewN | apply Kd.R_drew)); exact Kd.R_mono (Kd.R_far (p := ⟨gb143, 2, none⟩) (Kd.R_far (p := ⟨gb143, 1, none⟩) (Kd.R_far (p := ⟨gb143, 0, none⟩) (Kd.R_types HO149.out BK143.out (by decide)) (fun _ hk => hk.2) (.slice Ao9 y147.length co9)) (fun _ hk => hk.2) (.int .i64 a0_1)) (fun _ hk => hk.2) (.int .i64 a0_2)) (fun _ hk => trivial), by repeat (first | (with_reducible first | exact HB.out | apply below_alloc | apply pw_below_drewN | apply below_drew1 | refine below_set ?_ GE142.out | refine below_set ?_ GE143.out) | exact HB.out)⟩
 ·rw [if_neg c2] at H
  exact absurd H (by simp)

/-! ### fringeref42_Next: function 16 (by hand) -/
def fringeref42_Next.g (l : List S42) (i : Int) : Option (List S42 × Int × Int × Int × Int) := if i.toNat < l.length then some (l.set i.toNat ⟨(rd_T42 l i).f0, (rd_T42 l i).f1, wrap64 ((rd_T42 l i).f2 + 1), wrap64 ((rd_T42 l i).f3 - 1)⟩, wrap64 ((rd_T42 l i).f2 + 1), (rd_T42 l i).f1, i, 0) else none
def fringeref42_Next.f (k : Nat) (l0_0 : List S42) (a0_1 : Int) (a0_2 : Int) : Option (List S42 × Int × Int × Int × Int) := (fringeref42_Check.f k l0_0 a0_1 a0_2).bind fun e => if e = 0 then (fringeref42_Turn.f k l0_0 a0_1 a0_2).bind fun i => if i < 0 then some ([], 0, 0, 0, 6) else if i.toNat < l0_0.length then (if (rd_T42 l0_0 i).f2 = 1000000 then some ([], 0, 0, 0, 16) else (fringeref42_Twin.f l0_0 a0_1 a0_2).bind fun t => fringeref42_Next.g t.1 i) else none else some ([], 0, 0, 0, e)
theorem fringeref42_Next.mono : ∀ a b c k, LeO (fringeref42_Next.f k a b c) (fringeref42_Next.f (k + 1) a b c) := by
 intro a b c k
 unfold fringeref42_Next.f
 exact LeO.bind (fringeref42_Check.mono _ _ _ _) (fun _ => LeO.ite (LeO.bind (fringeref42_Turn.mono _ _ _ _) (fun _ => LeO.refl _)) (LeO.refl _))
theorem fringeref42_Next.own {w : World} {base : Nat} {ok : Nat → Prop} {v : Value} {l : List S42} (HO : Kd.R k42 42 w base ok v l) (hne : l ≠ []) : ∃ g c, v = .slice (some ⟨g, 0, none⟩) l.length c ∧ base ≤ g := by
 obtain ⟨A, c, rfl⟩ := Kd.R_slice HO
 obtain ⟨_, inner, ho, _⟩ := HO
 rcases ho.2 with ⟨hv, _⟩ | ⟨g', cap', cur, hv, hb', _⟩
 ·injection hv with h1 h2 h3
  exact absurd (List.length_eq_zero_iff.1 h2) hne
 ·injection hv with h1 h2 h3
  exact ⟨g', c, by rw [h1], hb'⟩
set_option maxHeartbeats 8000000 in
set_option maxRecDepth 100000 in
theorem fringeref42_Next.calls (k : Nat) (A0_0 : Option Addr) (c0_0 : Nat) (l0_0 : List (S42)) (a0_1 : Int) (a0_2 : Int) (r1 : List (S42)) (r2 : Int) (r3 : Int) (r4 : Int) (r5 : Int) (w : World) (hr0_0 : Kd.C k42 w A0_0 l0_0.length l0_0) (hc0_0 : l0_0.length ≤ c0_0) (h : fringeref42_Next.f k l0_0 a0_1 a0_2 = some (r1, r2, r3, r4, r5)) :
  Calls Try.prog 16 #[.agg #[.slice A0_0 l0_0.length c0_0, .int .i64 a0_1, .int .i64 a0_2]] w fun e w' => ∃ v0_ : Value, e = .returned (.tuple #[.agg #[v0_, .int .i64 r2, .int .i64 r3], .int .i64 r4, .int .i64 r5]) ∧ Kd.R k42 42 w' w.heap.size (fun _ => True) v0_ r1 ∧ Below w.heap.size w w' := by
 have hu24 := Try.underlying24
 have HR0 := Aside0.mk hr0_0
 have HC0 := Aside0.mk hc0_0
 replace h := Option.bind_eq_some_iff.mp h
 obtain ⟨e0, he0, H⟩ := h
 have HE := Aside0.mk he0
 clear he0 hr0_0 hc0_0
 have hb1 : Below w.heap.size w (w.alloc (.cells #[.slice A0_0 l0_0.length c0_0, .int .i64 a0_1, .int .i64 a0_2] 24)) := (Below.refl _ w).alloc (Nat.le_refl _) _
 have hb2 := hb1.alloc hb1.size (.cells #[.slice none 0 0, .int .i64 0, .int .i64 0] 24)
 have hk1 := blk_alloc (blk_new w (.cells #[.slice A0_0 l0_0.length c0_0, .int .i64 a0_1, .int .i64 a0_2] 24)) (.cells #[.slice none 0 0, .int .i64 0, .int .i64 0] 24)
 have hk2 := blk_new (w.alloc (.cells #[.slice A0_0 l0_0.length c0_0, .int .i64 a0_1, .int .i64 a0_2] 24)) (.cells #[.slice none 0 0, .int .i64 0, .int .i64 0] 24)
 have hsz : (w.alloc (.cells #[.slice A0_0 l0_0.length c0_0, .int .i64 a0_1, .int .i64 a0_2] 24)).heap.size = w.heap.size + 1 := by simp
 rw [hsz] at hk2
 have HB2 := Aside0.mk hb2
 have HK1 := Aside0.mk hk1
 have HK2 := Aside0.mk hk2
 have HCH := Aside0.mk (fringeref42_Check.calls k A0_0 c0_0 l0_0 a0_1 a0_2 e0 _ (Kd.C_below HR0.out hb2) HC0.out HE.out)
 clear hb1 hb2 hk1 hk2 hsz
 try dsimp only at H
 by_cases c0 : e0 = 0
 ·rw [if_pos c0] at H
  subst c0
  replace H := Option.bind_eq_some_iff.mp H
  obtain ⟨ti, hti, H⟩ := H
  try dsimp only at H
  have HTU := Aside0.mk (fun W (hW : Below w.heap.size w W) => fringeref42_Turn.calls k A0_0 c0_0 l0_0 a0_1 a0_2 ti W (Kd.C_below HR0.out hW) HC0.out hti)
  clear hti
  by_cases c1 : ti < 0
  ·rw [if_pos c1] at H
   simp only [Option.some.injEq, Prod.mk.injEq] at H
   obtain ⟨rfl, rfl, rfl, rfl, rfl⟩ := H
   have f1 : decide (ti < 0) = true := decide_eq_true c1
   clear c1
   go_enter Try.func16, Try.ntmps16
   go_wp2_with (fail)
   refine HCH.out.mono ?_
   rintro e w1 ⟨rfl, hb⟩
   have HB3 := Aside0.mk (below_step HB2.out hb)
   have hk := blk_below HK1.out hb
   have d0 := (blk_cell hk 0).trans rfl
   have d1 := (blk_cell hk 1).trans rfl
   have d2 := (blk_cell hk 2).trans rfl
   have HK3a := Aside0.mk hk
   have HK3 := Aside0.mk (blk_below HK2.out hb)
   clear hb hk
   go_wp2_with (fail)
   refine (HTU.out _ HB3.out).mono ?_
   rintro e w4 ⟨rfl, hb⟩
   have HB4 := Aside0.mk (below_step HB3.out hb)
   have HK4 := Aside0.mk (blk_below HK3.out hb)
   clear d0 d1 d2
   have hk := blk_below HK3a.out hb
   have d0 := (blk_cell hk 0).trans rfl
   have d1 := (blk_cell hk 1).trans rfl
   have d2 := (blk_cell hk 2).trans rfl
   have hk4 := blk_below HK3.out hb
   have b0 := (blk_cell hk4 0).trans rfl
   have b1 := (blk_cell hk4 1).trans rfl
   have b2 := (blk_cell hk4 2).trans rfl
   have z0 := blk_frozen hk4 0
   have z1 := blk_frozen hk4 1
   have z2 := blk_frozen hk4 2
   clear hb hk hk4 HCH HTU
   go_wp2_with (fail)
   refine bodyPost_ret (results_ctt rfl _ _ (w.heap.size + 1) 24 _ (0, 0) _ rfl (blk_put (blk_put (blk_put HK4.out 0 _ rfl) 1 _ rfl) 2 _ rfl) Try.underlying24 rfl (by kernel_rfl)) rfl ?_
   exact ⟨_, rfl, Kd.R_nil _ _ _ _ _, below_set (below_set (below_set HB4.out (by simp)) (by simp)) (by simp)⟩
  ·rw [if_neg c1] at H
   have f1 : decide (ti < 0) = false := decide_eq_false c1
   obtain ⟨a, rfl⟩ := Int.eq_ofNat_of_zero_le (show 0 ≤ ti by omega)
   clear c1
   by_cases c2 : ((a : Int)).toNat < l0_0.length
   ·rw [if_pos c2] at H
    have p1 : 0 ≤ (a : Int) := by omega
    have q1 : (a : Int) < (l0_0.length : Int) := by omega
    obtain ⟨ad, e1, hx0, hx1, hx2, hx3⟩ := at_T42 HR0.out a p1 q1
    subst e1
    simp only [Int.toNat_natCast] at hx2
    clear hx0 hx1 hx3
    have HP := Aside0.mk p1
    have HQ := Aside0.mk q1
    replace p1 := eq_true p1
    replace q1 := eq_true q1
    clear c2
    have HX2 := Aside0.mk (fun W (hW : Below w.heap.size w W) => (hW.cell (World.block_lt_of_cell? w _ hx2)).trans hx2)
    clear hx2
    by_cases c3 : (rd_T42 l0_0 (a : Int)).f2 = 1000000
    ·rw [if_pos c3] at H
     have f2 : ((rd_T42 l0_0 (a : Int)).f2 == 1000000) = true := beq_iff_eq.mpr c3
     simp only [Option.some.injEq, Prod.mk.injEq] at H
     obtain ⟨rfl, rfl, rfl, rfl, rfl⟩ := H
     clear c3
     generalize (rd_T42 l0_0 (a : Int)).f2 = u at HX2 f2
     go_enter Try.func16, Try.ntmps16
     go_wp2_with (fail)
     refine HCH.out.mono ?_
     rintro e w1 ⟨rfl, hb⟩
     have HB3 := Aside0.mk (below_step HB2.out hb)
     have hk := blk_below HK1.out hb
     have d0 := (blk_cell hk 0).trans rfl
     have d1 := (blk_cell hk 1).trans rfl
     have d2 := (blk_cell hk 2).trans rfl
     have HK3a := Aside0.mk hk
     have HK3 := Aside0.mk (blk_below HK2.out hb)
     clear hb hk
     go_wp2_with (fail)
     refine (HTU.out _ HB3.out).mono ?_
     rintro e w4 ⟨rfl, hb⟩
     have HB4 := Aside0.mk (below_step HB3.out hb)
     have HK4 := Aside0.mk (blk_below HK3.out hb)
     clear d0 d1 d2
     have hk := blk_below HK3a.out hb
     have d0 := (blk_cell hk 0).trans rfl
     have d1 := (blk_cell hk 1).trans rfl
     have d2 := (blk_cell hk 2).trans rfl
     have hk4 := blk_below HK3.out hb
     have b0 := (blk_cell hk4 0).trans rfl
     have b1 := (blk_cell hk4 1).trans rfl
     have b2 := (blk_cell hk4 2).trans rfl
     have z0 := blk_frozen hk4 0
     have z1 := blk_frozen hk4 1
     have z2 := blk_frozen hk4 2
     clear hb hk hk4 HCH HTU
     have hx2 := HX2.out _ HB4.out
     go_wp2_with (fail)
     refine bodyPost_ret (results_ctt rfl _ _ (w.heap.size + 1) 24 _ (0, 0) _ rfl (blk_put (blk_put (blk_put HK4.out 0 _ rfl) 1 _ rfl) 2 _ rfl) Try.underlying24 rfl (by kernel_rfl)) rfl ?_
     exact ⟨_, rfl, Kd.R_nil _ _ _ _ _, below_set (below_set (below_set HB4.out (by simp)) (by simp)) (by simp)⟩
    ·rw [if_neg c3] at H
     have f2 : ((rd_T42 l0_0 (a : Int)).f2 == 1000000) = false := beq_eq_false_iff_ne.mpr c3
     clear c3
     generalize (rd_T42 l0_0 (a : Int)).f2 = u at HX2 f2
     replace H := Option.bind_eq_some_iff.mp H
     obtain ⟨⟨t1, t2, t3⟩, ht, H⟩ := H
     have HTW := Aside0.mk (fun W (hW : Below w.heap.size w W) => fringeref42_Twin.calls (some ad) c0_0 l0_0 a0_1 a0_2 t1 t2 t3 W (Kd.C_below HR0.out hW) HC0.out ht)
     clear ht
     replace H : fringeref42_Next.g t1 (a : Int) = some (r1, r2, r3, r4, r5) := H
     unfold fringeref42_Next.g at H
     by_cases c4 : ((a : Int)).toNat < t1.length
     ·rw [if_pos c4] at H
      simp only [Option.some.injEq, Prod.mk.injEq, Int.toNat_natCast] at H
      obtain ⟨rfl, rfl, rfl, rfl, rfl⟩ := H
      have p2 : 0 ≤ (a : Int) := HP.out
      have q2 : (a : Int) < (t1.length : Int) := by omega
      have HQ2 := Aside0.mk q2
      have HNE := Aside0.mk (show t1 ≠ [] by rintro rfl; simp at c4)
      clear c4
      have hrd : rd_T42 t1 (a : Int) = t1.getD a z42 := rfl
      rw [hrd]
      generalize hx : t1.getD a z42 = x
      have HX := Aside0.mk hx
      clear hx hrd
      replace p2 := eq_true p2
      replace q2 := eq_true q2
      go_enter Try.func16, Try.ntmps16
      go_wp2_with (fail)
      refine HCH.out.mono ?_
      rintro e w1 ⟨rfl, hb⟩
      have HB3 := Aside0.mk (below_step HB2.out hb)
      have hk := blk_below HK1.out hb
      have d0 := (blk_cell hk 0).trans rfl
      have d1 := (blk_cell hk 1).trans rfl
      have d2 := (blk_cell hk 2).trans rfl
      have HK3a := Aside0.mk hk
      have HK3 := Aside0.mk (blk_below HK2.out hb)
      clear hb hk
      go_wp2_with (fail)
      refine (HTU.out _ HB3.out).mono ?_
      rintro e w4 ⟨rfl, hb⟩
      have HB4 := Aside0.mk (below_step HB3.out hb)
      have HK4 := Aside0.mk (blk_below HK3.out hb)
      clear d0 d1 d2
      have hk := blk_below HK3a.out hb
      have d0 := (blk_cell hk 0).trans rfl
      have d1 := (blk_cell hk 1).trans rfl
      have d2 := (blk_cell hk 2).trans rfl
      have hk4 := blk_below HK3.out hb
      have b0 := (blk_cell hk4 0).trans rfl
      have b1 := (blk_cell hk4 1).trans rfl
      have b2 := (blk_cell hk4 2).trans rfl
      have z0 := blk_frozen hk4 0
      have z1 := blk_frozen hk4 1
      have z2 := blk_frozen hk4 2
      clear hb hk hk4 HCH HTU
      have hx2 := HX2.out _ HB4.out
      go_wp2_with (fail)
      refine (HTW.out _ HB4.out).mono ?_
      rintro e w5 ⟨v0, rfl, ho, hb⟩
      obtain ⟨g, co, rfl, hgb⟩ := fringeref42_Next.own ho HNE.out
      have HO5 := Aside0.mk ho
      have HB5 := Aside0.mk (below_step HB4.out hb)
      have HK5 := Aside0.mk (blk_below HK4.out hb)
      have hgl := own_lt (Kd.R_own ho).choose_spec g rfl
      have hg1 : g ≠ w5.heap.size := by omega
      have HGB := Aside0.mk (Nat.le_trans HB4.out.size hgb)
      have hgk : g ≠ w.heap.size + 1 := by have := blk_lt HK4.out; omega
      have ho6 := Kd.R_alloc ho (.cells #[.slice (some ⟨g, 0, none⟩) t1.length co, .int .i64 t2, .int .i64 t3] 24)
      obtain ⟨ce, hcl, hM, hcc, hfr⟩ := Kd.R_elem ho6 z42 (a : Int) HP.out HQ2.out
      rw [show t1.getD ((a : Int).toNat) z42 = x from HX.out] at hM
      obtain rfl := k42_openM hM
      have hy1 : (w5.alloc (.cells #[.slice (some ⟨g, 0, none⟩) t1.length co, .int .i64 t2, .int .i64 t3] 24)).cell? ⟨g, a * 4 + 1, none⟩ = some (.int .i64 x.f1) := hcc 1 _ rfl
      have hy2 : (w5.alloc (.cells #[.slice (some ⟨g, 0, none⟩) t1.length co, .int .i64 t2, .int .i64 t3] 24)).cell? ⟨g, a * 4 + 2, none⟩ = some (.int .i64 x.f2) := hcc 2 _ rfl
      have hy3 : (w5.alloc (.cells #[.slice (some ⟨g, 0, none⟩) t1.length co, .int .i64 t2, .int .i64 t3] 24)).cell? ⟨g, a * 4 + 3, none⟩ = some (.int .i64 x.f3) := hcc 3 _ rfl
      have hf2 : (w5.alloc (.cells #[.slice (some ⟨g, 0, none⟩) t1.length co, .int .i64 t2, .int .i64 t3] 24)).frozen? ⟨g, a * 4 + 2, none⟩ = false := hfr 2
      have hf3 : (w5.alloc (.cells #[.slice (some ⟨g, 0, none⟩) t1.length co, .int .i64 t2, .int .i64 t3] 24)).frozen? ⟨g, a * 4 + 3, none⟩ = false := hfr 3
      have hk5 := blk_below HK4.out hb
      have b0 := (blk_cell hk5 0).trans rfl
      have b1 := (blk_cell hk5 1).trans rfl
      have b2 := (blk_cell hk5 2).trans rfl
      have z0 := blk_frozen hk5 0
      have z1 := blk_frozen hk5 1
      have z2 := blk_frozen hk5 2
      have n7 : w.heap.size + 1 ≠ w5.heap.size := Nat.ne_of_lt (blk_lt hk5)
      have hgk' : w.heap.size + 1 ≠ g := fun e => hgk e.symm
      have hg1' : w5.heap.size ≠ g := fun e => hg1 e.symm
      clear hcl hM hcc hfr hk5 ho ho6 hb hgl hgb d0 d1 d2 hx2
      go_wp2_with (fail)
      have ho6 := Kd.R_alloc HO5.out (.cells #[.slice (some ⟨g, 0, none⟩) t1.length co, .int .i64 t2, .int .i64 t3] 24)
      obtain ⟨ce, hcl, hM, hcc, hfr⟩ := Kd.R_elem ho6 z42 (a : Int) HP.out HQ2.out
      rw [show t1.getD ((a : Int).toNat) z42 = x from HX.out] at hM
      obtain rfl := k42_openM hM
      have s1 := (Kd.R_seg ho6 (a : Int) HP.out HQ2.out (seg := [.int .i64 (wrap64 (x.f3 - 1))]) (j := 3) hcl hcc (show 3 + 1 ≤ 4 by decide) (x' := (⟨x.f0, x.f1, x.f2, wrap64 (x.f3 - 1)⟩ : S42)) (k42_mkM _ _ _ (⟨x.f0, x.f1, x.f2, wrap64 (x.f3 - 1)⟩ : S42)) (fun _ hk => hk)).1
      clear hcl hcc hM hfr
      obtain ⟨ce, hcl, hM, hcc, hfr⟩ := Kd.R_elem s1 z42 (a : Int) HP.out HQ2.out
      rw [show (t1.set ((a : Int).toNat) (⟨x.f0, x.f1, x.f2, wrap64 (x.f3 - 1)⟩ : S42)).getD ((a : Int).toNat) z42 = ⟨x.f0, x.f1, x.f2, wrap64 (x.f3 - 1)⟩ by
       have := HQ2.out; rw [List.getD_eq_getElem?_getD, List.getElem?_set_self (by omega)]; rfl] at hM
      obtain rfl := k42_openM hM
      have s2 := (Kd.R_seg s1 (a : Int) HP.out HQ2.out (seg := [.int .i64 (wrap64 (x.f2 + 1))]) (j := 2) hcl hcc (show 2 + 1 ≤ 4 by decide) (x' := (⟨x.f0, x.f1, wrap64 (x.f2 + 1), wrap64 (x.f3 - 1)⟩ : S42)) (k42_mkM _ _ _ (⟨x.f0, x.f1, wrap64 (x.f2 + 1), wrap64 (x.f3 - 1)⟩ : S42)) (fun _ hk => hk)).1
      clear hcl hcc hM hfr s1 ho6
      rw [List.set_set] at s2
      have s3 : Kd.R k42 42 (((w5.alloc (.cells #[.slice (some ⟨g, 0, none⟩) t1.length co, .int .i64 t2, .int .i64 t3] 24)).setCell ⟨g, a * 4 + 3, none⟩ (.int .i64 (wrap64 (x.f3 - 1)))).setCell ⟨g, a * 4 + 2, none⟩ (.int .i64 (wrap64 (x.f2 + 1)))) w4.heap.size (fun _ => True) (.slice (some ⟨g, 0, none⟩) t1.length co) (t1.set a ⟨x.f0, x.f1, wrap64 (x.f2 + 1), wrap64 (x.f3 - 1)⟩) := s2
      clear s2
      have hq8 := blk_far (blk_far (blk_new w5 (.cells #[.slice (some ⟨g, 0, none⟩) t1.length co, .int .i64 t2, .int .i64 t3] 24)) (p := ⟨g, a * 4 + 3, none⟩) hg1' (.int .i64 (wrap64 (x.f3 - 1)))) (p := ⟨g, a * 4 + 2, none⟩) hg1' (.int .i64 (wrap64 (x.f2 + 1)))
      have hk8 := blk_far (blk_far (blk_alloc HK5.out (.cells #[.slice (some ⟨g, 0, none⟩) t1.length co, .int .i64 t2, .int .i64 t3] 24)) (p := ⟨g, a * 4 + 3, none⟩) hgk' (.int .i64 (wrap64 (x.f3 - 1)))) (p := ⟨g, a * 4 + 2, none⟩) hgk' (.int .i64 (wrap64 (x.f2 + 1)))
      have hb8 := ((HB5.out.alloc HB5.out.size (.cells #[.slice (some ⟨g, 0, none⟩) t1.length co, .int .i64 t2, .int .i64 t3] 24)).setCell (p := ⟨g, a * 4 + 3, none⟩) HGB.out (.int .i64 (wrap64 (x.f3 - 1)))).setCell (p := ⟨g, a * 4 + 2, none⟩) HGB.out (.int .i64 (wrap64 (x.f2 + 1)))
      clear hy1 hy2 hy3 hf2 hf3 b0 b1 b2 z0 z1 z2
      generalize (((w5.alloc (.cells #[.slice (some ⟨g, 0, none⟩) t1.length co, .int .i64 t2, .int .i64 t3] 24)).setCell ⟨g, a * 4 + 3, none⟩ (.int .i64 (wrap64 (x.f3 - 1)))).setCell ⟨g, a * 4 + 2, none⟩ (.int .i64 (wrap64 (x.f2 + 1)))) = w8 at s3 hq8 hk8 hb8 ⊢
      have HS8 := Aside0.mk (Kd.R_lower s3 HB4.out.size)
      have HQ8 := Aside0.mk hq8
      have HK8 := Aside0.mk hk8
      have HB8 := Aside0.mk hb8
      obtain ⟨ce, hcl, hM, hcc, hfr⟩ := Kd.R_elem s3 z42 (a : Int) HP.out HQ2.out
      rw [show (t1.set a (⟨x.f0, x.f1, wrap64 (x.f2 + 1), wrap64 (x.f3 - 1)⟩ : S42)).getD ((a : Int).toNat) z42 = ⟨x.f0, x.f1, wrap64 (x.f2 + 1), wrap64 (x.f3 - 1)⟩ by
       have := HQ2.out; rw [Int.toNat_natCast, List.getD_eq_getElem?_getD, List.getElem?_set_self (by omega)]; rfl] at hM
      obtain rfl := k42_openM hM
      have hy1 : w8.cell? ⟨g, a * 4 + 1, none⟩ = some (.int .i64 x.f1) := hcc 1 _ rfl
      have hy2 : w8.cell? ⟨g, a * 4 + 2, none⟩ = some (.int .i64 (wrap64 (x.f2 + 1))) := hcc 2 _ rfl
      have d0 := (blk_cell hq8 0).trans rfl
      have d1 := (blk_cell hq8 1).trans rfl
      have d2 := (blk_cell hq8 2).trans rfl
      have y1 := blk_frozen hq8 1
      have y2 := blk_frozen hq8 2
      have b0 := (blk_cell hk8 0).trans rfl
      have b1 := (blk_cell hk8 1).trans rfl
      have b2 := (blk_cell hk8 2).trans rfl
      have z0 := blk_frozen hk8 0
      have z1 := blk_frozen hk8 1
      have z2 := blk_frozen hk8 2
      clear hcl hM hcc hfr s3 hq8 hk8 hb8
      go_region
      go_wp2_with (fail)
      have hle := HB5.out.size
      have hk9 := blk_far (blk_far HK8.out (p := ⟨w5.heap.size, 1, none⟩) n7 (.int .i64 (wrap64 (x.f2 + 1)))) (p := ⟨w5.heap.size, 2, none⟩) n7 (.int .i64 x.f1)
      have s4 := Kd.R_set (Kd.R_set HS8.out HQ8.out (by decide) 1 (.int .i64 (wrap64 (x.f2 + 1)))) (blk_put HQ8.out 1 (.int .i64 (wrap64 (x.f2 + 1))) rfl) (by decide) 2 (.int .i64 x.f1)
      refine bodyPost_ret (results_ctt rfl _ _ (w.heap.size + 1) 24 _ (0, 0) _ rfl (blk_drew (blk_put (blk_put (blk_put hk9 0 _ rfl) 1 _ rfl) 2 _ rfl)) Try.underlying24 rfl (by kernel_rfl)) rfl ?_
      exact ⟨_, rfl, Kd.R_drew (Kd.R_set (Kd.R_set (Kd.R_set s4 hk9 (by decide) 0 _) (blk_put hk9 0 _ rfl) (by decide) 1 _) (blk_put (blk_put hk9 0 _ rfl) 1 _ rfl) (by decide) 2 _), below_drew1 (below_set (below_set (below_set (below_set (below_set HB8.out hle) hle) (by simp)) (by simp)) (by simp))⟩
     ·rw [if_neg c4] at H; exact absurd H (by simp)
   ·rw [if_neg c2] at H; exact absurd H (by simp)
 ·rw [if_neg c0] at H
  simp only [Option.some.injEq, Prod.mk.injEq] at H
  obtain ⟨rfl, rfl, rfl, rfl, rfl⟩ := H
  have f1 : (e0 != 0) = true := bne_iff_ne.mpr c0
  clear c0
  go_enter Try.func16, Try.ntmps16
  go_wp2_with (fail)
  refine HCH.out.mono ?_
  rintro e w1 ⟨rfl, hb⟩
  have HB4 := Aside0.mk (below_step HB2.out hb)
  have hk2 := blk_below HK2.out hb
  have HK4 := Aside0.mk hk2
  have b0 := (blk_cell hk2 0).trans rfl
  have b1 := (blk_cell hk2 1).trans rfl
  have b2 := (blk_cell hk2 2).trans rfl
  have z0 := blk_frozen hk2 0
  have z1 := blk_frozen hk2 1
  have z2 := blk_frozen hk2 2
  clear hb hk2
  go_wp2_with (fail)
  refine bodyPost_ret (results_ctt rfl _ _ (w.heap.size + 1) 24 _ (0, 0) _ rfl (blk_put (blk_put (blk_put HK4.out 0 _ rfl) 1 _ rfl) 2 _ rfl) Try.underlying24 rfl (by kernel_rfl)) rfl ?_
  exact ⟨_, rfl, Kd.R_nil _ _ _ _ _, below_set (below_set (below_set HB4.out (by simp)) (by simp)) (by simp)⟩

end Go.Proofs.Ytelmcaenemjppaa.Q
