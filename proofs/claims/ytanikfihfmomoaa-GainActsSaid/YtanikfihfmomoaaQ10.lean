-- Written by qprint.py (a program of this session) over the program of the kit that prints contracts. Not trusted: Lean checks it.
import Derived.Test.YtanikfihfmomoaaQShort
import Derived.Test.YtanikfihfmomoaaQ0
import Derived.Test.YtanikfihfmomoaaQ7
import Derived.Test.YtanikfihfmomoaaQ9
namespace Go.Proofs.Ytanikfihfmomoaa.Q
open Go.RowKit Go.Proofs.YtanikfihfmomoaaW.PrintWords Go.Proofs.YtanikfihfmomoaaW.PrintLast Go.Proofs.YtanikfihfmomoaaW.PrintMore
attribute [local go_sem] max2_int min2_int max_two min_two max_three min_three max_four min_four   -- for this text's walks alone
set_option linter.unusedVariables false
set_option linter.unusedSimpArgs false

/-! ### fringeref26_Act: function 10 -/
def fringeref26_Act.l0 : Nat → List (S36) → List (S38) → List (S38) → Int → Option ((List (S38)) × Int)
 | 0, _, _, _, _ => none
 | k + 1, x0, x1, x6, x7 => if x7 < (x1.length : Int) then (if 0 ≤ x7 then (if 0 ≤ ((rd_T38 x1 x7).f0) then (if ((rd_T38 x1 x7).f0) < (x0.length : Int) then ((fringeref25_Mul.f k ((rd_T36 x0 ((rd_T38 x1 x7).f0)).f0) ((rd_T36 x0 ((rd_T38 x1 x7).f0)).f1) ((rd_T36 x0 ((rd_T38 x1 x7).f0)).f2) ((rd_T38 x1 x7).f2.f0) ((rd_T38 x1 x7).f2.f1) ((rd_T38 x1 x7).f2.f2)).bind fun bt178 => (if bt178.2.2.2 = 0 then (if 0 ≤ ((rd_T38 x1 x7).f1) then (if ((rd_T38 x1 x7).f1) < (x0.length : Int) then ((fringeref26_Apart.f ((rd_T36 x0 ((rd_T38 x1 x7).f1)).f0) ((rd_T36 x0 ((rd_T38 x1 x7).f1)).f1) ((rd_T36 x0 ((rd_T38 x1 x7).f1)).f2)).bind fun bt184 => ((fringeref25_Mul.f k bt178.1 bt178.2.1 bt178.2.2.1 bt184.1 bt184.2.1 bt184.2.2).bind fun bt187 => (if bt187.2.2.2 = 0 then (if x6.length < 2932031007402 then (fringeref26_Act.l0 k x0 x1 (x6 ++ [(⟨(rd_T38 x1 x7).f0, (rd_T38 x1 x7).f1, (⟨bt187.1, bt187.2.1, bt187.2.2.1⟩ : S36), (rd_T38 x1 x7).f3⟩ : S38)]) (wrap64 (x7 + 1))) else (none)) else (some (([] : List (S38)), 16))))) else (none)) else (none)) else (some (([] : List (S38)), 16)))) else (none)) else (none)) else (none)) else (some (x6, 0))
def fringeref26_Act.f (k : Nat) (l0 : List (S36)) (l1 : List (S38)) : Option ((List (S38)) × Int) := (fringeref26_Check.f k l0).bind fun t171 => (if t171 = 0 then ((fringeref26_All.f k l1 (l0.length : Int)).bind fun t173 => (if t173 = 0 then (fringeref26_Act.l0 k l0 l1 ([] : List (S38)) 0) else ((fringeref26_All.f k l1 (l0.length : Int)).bind fun t174 => (some (([] : List (S38)), t174))))) else ((fringeref26_Check.f k l0).bind fun t172 => (some (([] : List (S38)), t172))))
theorem fringeref26_Act.mono_l : ∀ k, (∀ y0 y1 y2 y3, LeO (fringeref26_Act.l0 k y0 y1 y2 y3) (fringeref26_Act.l0 (k + 1) y0 y1 y2 y3))
 | 0 => fun _ _ _ _ r h => by simp [fringeref26_Act.l0] at h
 | k + 1 => by
  have ih0 := fringeref26_Act.mono_l k
  ·intro y0 y1 y2 y3
   unfold fringeref26_Act.l0
   repeat' first
   | (with_reducible exact ih0 _ _ _ _)
   | (with_reducible exact fringeref25_Mul.mono _ _ _ _ _ _ _)
   | (with_reducible exact fringeref26_All.mono _ _ _)
   | (with_reducible exact fringeref26_Check.mono _ _)
   | (with_reducible exact LeO.refl _)
   | (with_reducible exact LeO.none _)
   | (with_reducible refine LeO.ite ?_ ?_)
   | (with_reducible refine LeO.bind ?_ (fun _ => ?_))
   | exact ih0 _ _ _ _
   | exact fringeref25_Mul.mono _ _ _ _ _ _ _
   | exact fringeref26_All.mono _ _ _
   | exact fringeref26_Check.mono _ _
   | exact LeO.none _
   | refine LeO.ite ?_ ?_
   | refine LeO.bind ?_ (fun _ => ?_)
theorem fringeref26_Act.mono : ∀ a0 a1 k, LeO (fringeref26_Act.f k a0 a1) (fringeref26_Act.f (k + 1) a0 a1) := by
 intro a0 a1 k
 have ih0 := fringeref26_Act.mono_l k
 unfold fringeref26_Act.f
 repeat' first
   | (with_reducible exact ih0 _ _ _ _)
   | (with_reducible exact fringeref25_Mul.mono _ _ _ _ _ _ _)
   | (with_reducible exact fringeref26_All.mono _ _ _)
   | (with_reducible exact fringeref26_Check.mono _ _)
   | (with_reducible exact LeO.refl _)
   | (with_reducible exact LeO.none _)
   | (with_reducible refine LeO.ite ?_ ?_)
   | (with_reducible refine LeO.bind ?_ (fun _ => ?_))
   | exact ih0 _ _ _ _
   | exact fringeref25_Mul.mono _ _ _ _ _ _ _
   | exact fringeref26_All.mono _ _ _
   | exact fringeref26_Check.mono _ _
   | exact LeO.none _
   | refine LeO.ite ?_ ?_
   | refine LeO.bind ?_ (fun _ => ?_)
def fringeref26_Act.T10 : Bool × List (List Nat × List Nat) := (true, [([], []), ([], []), ([1], [1]), ([0, 2], [0, 2]), ([3], [3]), ([], []), ([5], [5]), ([4, 6], [4, 6]), ([7], [7]), ([8], [8]), ([8], [8]), ([], []), ([11, 9, 7, 0, 1, 2, 3, 4, 5, 6, 7, 8, 9, 11], [9, 11]), ([10, 12, 0, 1, 2, 3, 4, 5, 6, 7, 8, 9, 10, 11, 12], [10])])
def fringeref26_Act.B10 : List Nat := [0, 0, 2, 7, 15, 0, 32, 127, 255, 511, 511, 0, 3071, 8191]
theorem fringeref26_Act.tab10 : rtab .any (opsOf Try.f10 10) = fringeref26_Act.T10 := by kernel_rfl
theorem fringeref26_Act.bits10 : waitsOk fringeref26_Act.T10.2 fringeref26_Act.B10 = true := by kernel_rfl
def fringeref26_Act.T13 : Bool × List (List Nat × List Nat) := (true, [([], []), ([], []), ([], []), ([2], [2]), ([1, 3], [1, 3]), ([4], [4]), ([5], [5]), ([0, 6, 6], [0, 6]), ([7], [7]), ([8], [8]), ([8], [8]), ([], []), ([11, 9, 7, 0, 1, 2, 3, 4, 5, 6, 7, 8, 9, 11], [9, 11]), ([10, 12, 0, 1, 2, 3, 4, 5, 6, 7, 8, 9, 10, 11, 12], [10])])
def fringeref26_Act.B13 : List Nat := [0, 0, 0, 4, 14, 30, 62, 127, 255, 511, 511, 0, 3071, 8191]
theorem fringeref26_Act.tab13 : rtab .any (opsOf Try.f10 13) = fringeref26_Act.T13 := by kernel_rfl
theorem fringeref26_Act.bits13 : waitsOk fringeref26_Act.T13.2 fringeref26_Act.B13 = true := by kernel_rfl
set_option maxHeartbeats 8000000 in
set_option maxRecDepth 100000 in
theorem fringeref26_Act.calls (k : Nat) (A0 : Option Addr) (c0 : Nat) (l0 : List (S36)) (A1 : Option Addr) (c1 : Nat) (l1 : List (S38)) (r1 : List (S38)) (r2 : Int) (w : World) (hr0 : Kd.C k36 w A0 l0.length l0) (hc0 : l0.length ≤ c0) (hr1 : Kd.C k38 w A1 l1.length l1) (hc1 : l1.length ≤ c1) (h : fringeref26_Act.f k l0 l1 = some (r1, r2)) :
  Calls Try.prog 10 #[.slice A0 l0.length c0, .slice A1 l1.length c1] w fun e w' => ∃ v0_ : Value, e = .returned (.tuple #[v0_, .int .i64 r2]) ∧ Kd.R k38 38 w' w.heap.size (fun _ => True) v0_ r1 ∧ Below w.heap.size w w' := by
 have hu38 := Try.underlying38
 have hu36 := Try.underlying36
 have HR0 := Aside0.mk hr0
 have HC0 := Aside0.mk hc0
 clear hr0 hc0
 have HR1 := Aside0.mk hr1
 have HC1 := Aside0.mk hc1
 clear hr1 hc1
 have HB := Aside0.mk (Below.refl w.heap.size w)
 have H : ((fringeref26_Check.f k l0).bind fun t171 => (if t171 = 0 then ((fringeref26_All.f k l1 (l0.length : Int)).bind fun t173 => (if t173 = 0 then (fringeref26_Act.l0 k l0 l1 ([] : List (S38)) 0) else ((fringeref26_All.f k l1 (l0.length : Int)).bind fun t174 => (some (([] : List (S38)), t174))))) else ((fringeref26_Check.f k l0).bind fun t172 => (some (([] : List (S38)), t172))))) = some (r1, r2) := h
 clear h
 replace H := Option.bind_eq_some_iff.mp H
 obtain ⟨t171, A30, H⟩ := H
 replace H : (if t171 = 0 then ((fringeref26_All.f k l1 (l0.length : Int)).bind fun t173 => (if t173 = 0 then (fringeref26_Act.l0 k l0 l1 ([] : List (S38)) 0) else ((fringeref26_All.f k l1 (l0.length : Int)).bind fun t174 => (some (([] : List (S38)), t174))))) else ((fringeref26_Check.f k l0).bind fun t172 => (some (([] : List (S38)), t172)))) = some (r1, r2) := H
 have A3 := Aside0.mk A30
 clear A30
 by_cases c4 : t171 = 0
 ·rw [if_pos c4] at H
  have c4b0 : (t171 == 0) = true := beq_iff_eq.mpr c4
  have c4b1 : (t171 != 0) = false := bne_eq_false_iff_eq.mpr c4
  clear c4
  replace H := Option.bind_eq_some_iff.mp H
  obtain ⟨t173, A50, H⟩ := H
  replace H : (if t173 = 0 then (fringeref26_Act.l0 k l0 l1 ([] : List (S38)) 0) else ((fringeref26_All.f k l1 (l0.length : Int)).bind fun t174 => (some (([] : List (S38)), t174)))) = some (r1, r2) := H
  have A5 := Aside0.mk A50
  clear A50
  by_cases c6 : t173 = 0
  ·rw [if_pos c6] at H
   have c6b0 : (t173 == 0) = true := beq_iff_eq.mpr c6
   have c6b1 : (t173 != 0) = false := bne_eq_false_iff_eq.mpr c6
   clear c6
   have H' := Aside0.mk H
   clear H
   go_enter Try.func10, Try.ntmps10
   go_wp2_with (first | ((with_reducible refine gate_callee (f := 12) rfl ?_); refine goesL_ (some 13) rfl rfl Try.func12 (by kernel_rfl) rfl #[.slice A0 l0.length c0] rfl (by (try simp only [List.map_toArray, List.map_cons, List.map_nil]); first | done | rfl | (simp only [List.length_drop, List.length_take]; rfl)) ?_; (with_reducible refine (fringeref26_Check.calls k _ _ l0 t171 _ ?side1 ?side2 A3.out).mono ?_); (case side1 => repeat (first | exact HR0.out | (with_reducible refine Kd.C_alloc ?_ _) | (with_reducible refine Kd.C_drewN ?_ _) | (with_reducible refine Kd.C_drew ?_))); (case side2 => exact HC0.out); rintro e w7 ⟨rfl, hb⟩; refine ⟨_, rfl, ?_⟩; have n0_ := Aside0.mk (below_step (bl HB.out) hb); clear HB; have HB := n0_; clear n0_; (try clear hb); (try clear hb2); (try clear hk); (try clear hi)) | ((with_reducible refine gate_callee (f := 15) rfl ?_); refine goesL_ (some 20) rfl rfl Try.func15 (by kernel_rfl) rfl #[.slice A1 l1.length c1, .int .i64 (l0.length : Int)] rfl (by (try simp only [List.map_toArray, List.map_cons, List.map_nil]); first | done | rfl | (simp only [List.length_drop, List.length_take]; rfl)) ?_; (with_reducible refine (fringeref26_All.calls k _ _ l1 (l0.length : Int) t173 _ ?side1 ?side2 A5.out).mono ?_); (case side1 => repeat (first | exact (Kd.C_below HR1.out HB.out) | (with_reducible refine Kd.C_alloc ?_ _) | (with_reducible refine Kd.C_drewN ?_ _) | (with_reducible refine Kd.C_drew ?_))); (case side2 => exact HC1.out); rintro e w8 ⟨rfl, hb⟩; refine ⟨_, rfl, ?_⟩; have n0_ := Aside0.mk (below_step (bl HB.out) hb); clear HB; have HB := n0_; clear n0_; (try clear hb); (try clear hb2); (try clear hk); (try clear hi)))
   go_loopg [6, 7] k (fun kq v6 v7 w' => ∃ (x6_1 : List (S38)) (x7_1 : Int), v7 = .int .i64 x7_1 ∧ Aside0 (fringeref26_Act.l0 kq l0 l1 x6_1 x7_1 = some (r1, r2)) ∧ Aside0 (kq ≤ k) ∧ Aside0 (Kd.R k38 38 w' w.heap.size (fun _ => True) v6 x6_1) ∧ Aside0 (Below w.heap.size w w'))
   case atStart => exact ⟨(([] : List (S38))), (0), (by first | rfl | (simp; done) | (simp [*]; done)), H', ⟨Nat.le_refl _⟩, ⟨by first | exact Kd.R_nil _ _ _ _ _ | exact Kd.N_nil _ _ _ _ _ | exact Kd.V_nil _ _ _ _ _ | exact Kd.Q_nil _ _ _ _ _ | exact Kd.S_nil _ _ _ _ _⟩, ⟨by repeat (first | (with_reducible first | exact HB.out | apply below_alloc | apply pw_below_drewN | apply below_drew1) | exact HB.out)⟩⟩
   case round =>
    clear H'
    (try clear c1); (try clear p2); (try clear c4); (try clear c4b0); (try clear c4b1); (try clear c6); (try clear c6b0); (try clear c6b1)
    obtain ⟨x6_1, x7_1, rfl, HA, HK1, HO_6, HB⟩ := hrel
    cases gk with
    | zero => exact absurd HA.out (by simp [fringeref26_Act.l0])
    | succ k1 =>
     have H := HA.out
     clear HA
     simp only [fringeref26_Act.l0] at H
     by_cases c9 : x7_1 < (l1.length : Int)
     ·rw [if_pos c9] at H
      have c9b0 : decide (x7_1 < (l1.length : Int)) = true := decide_eq_true c9
      clear c9
      by_cases c10 : 0 ≤ x7_1
      ·rw [if_pos c10] at H
       have c10b0 : decide (0 ≤ x7_1) = true := decide_eq_true c10
       clear c10
       by_cases c11 : 0 ≤ ((rd_T38 l1 x7_1).f0)
       ·rw [if_pos c11] at H
        have c11b0 : decide (0 ≤ ((rd_T38 l1 x7_1).f0)) = true := decide_eq_true c11
        clear c11
        by_cases c12 : ((rd_T38 l1 x7_1).f0) < (l0.length : Int)
        ·rw [if_pos c12] at H
         have c12b0 : decide (((rd_T38 l1 x7_1).f0) < (l0.length : Int)) = true := decide_eq_true c12
         clear c12
         replace H := Option.bind_eq_some_iff.mp H
         obtain ⟨⟨t178, t179, t180, t181⟩, A130, H⟩ := H
         replace H : (if t181 = 0 then (if 0 ≤ ((rd_T38 l1 x7_1).f1) then (if ((rd_T38 l1 x7_1).f1) < (l0.length : Int) then ((fringeref26_Apart.f ((rd_T36 l0 ((rd_T38 l1 x7_1).f1)).f0) ((rd_T36 l0 ((rd_T38 l1 x7_1).f1)).f1) ((rd_T36 l0 ((rd_T38 l1 x7_1).f1)).f2)).bind fun bt184 => ((fringeref25_Mul.f k1 t178 t179 t180 bt184.1 bt184.2.1 bt184.2.2).bind fun bt187 => (if bt187.2.2.2 = 0 then (if x6_1.length < 2932031007402 then (fringeref26_Act.l0 k1 l0 l1 (x6_1 ++ [(⟨(rd_T38 l1 x7_1).f0, (rd_T38 l1 x7_1).f1, (⟨bt187.1, bt187.2.1, bt187.2.2.1⟩ : S36), (rd_T38 l1 x7_1).f3⟩ : S38)]) (wrap64 (x7_1 + 1))) else (none)) else (some (([] : List (S38)), 16))))) else (none)) else (none)) else (some (([] : List (S38)), 16))) = some (r1, r2) := H
         have A13 := Aside0.mk A130
         clear A130
         by_cases c14 : t181 = 0
         ·rw [if_pos c14] at H
          have c14b0 : (t181 == 0) = true := beq_iff_eq.mpr c14
          have c14b1 : (t181 != 0) = false := bne_eq_false_iff_eq.mpr c14
          clear c14
          by_cases c15 : 0 ≤ ((rd_T38 l1 x7_1).f1)
          ·rw [if_pos c15] at H
           have c15b0 : decide (0 ≤ ((rd_T38 l1 x7_1).f1)) = true := decide_eq_true c15
           clear c15
           by_cases c16 : ((rd_T38 l1 x7_1).f1) < (l0.length : Int)
           ·rw [if_pos c16] at H
            have c16b0 : decide (((rd_T38 l1 x7_1).f1) < (l0.length : Int)) = true := decide_eq_true c16
            clear c16
            replace H := Option.bind_eq_some_iff.mp H
            obtain ⟨⟨t184, t185, t186⟩, A170, H⟩ := H
            replace H : ((fringeref25_Mul.f k1 t178 t179 t180 t184 t185 t186).bind fun bt187 => (if bt187.2.2.2 = 0 then (if x6_1.length < 2932031007402 then (fringeref26_Act.l0 k1 l0 l1 (x6_1 ++ [(⟨(rd_T38 l1 x7_1).f0, (rd_T38 l1 x7_1).f1, (⟨bt187.1, bt187.2.1, bt187.2.2.1⟩ : S36), (rd_T38 l1 x7_1).f3⟩ : S38)]) (wrap64 (x7_1 + 1))) else (none)) else (some (([] : List (S38)), 16)))) = some (r1, r2) := H
            have A17 := Aside0.mk A170
            clear A170
            replace H := Option.bind_eq_some_iff.mp H
            obtain ⟨⟨t187, t188, t189, t190⟩, A180, H⟩ := H
            replace H : (if t190 = 0 then (if x6_1.length < 2932031007402 then (fringeref26_Act.l0 k1 l0 l1 (x6_1 ++ [(⟨(rd_T38 l1 x7_1).f0, (rd_T38 l1 x7_1).f1, (⟨t187, t188, t189⟩ : S36), (rd_T38 l1 x7_1).f3⟩ : S38)]) (wrap64 (x7_1 + 1))) else (none)) else (some (([] : List (S38)), 16))) = some (r1, r2) := H
            have A18 := Aside0.mk A180
            clear A180
            by_cases c19 : t190 = 0
            ·rw [if_pos c19] at H
             have c19b0 : (t190 == 0) = true := beq_iff_eq.mpr c19
             have c19b1 : (t190 != 0) = false := bne_eq_false_iff_eq.mpr c19
             clear c19
             by_cases c20 : x6_1.length < 2932031007402
             ·rw [if_pos c20] at H
              have LMc20 := Aside0.mk c20
              clear c20
              obtain ⟨y192, hy192⟩ : ∃ y_ : List (S38), y_ = (x6_1 ++ [(⟨(rd_T38 l1 x7_1).f0, (rd_T38 l1 x7_1).f1, (⟨t187, t188, t189⟩ : S36), (rd_T38 l1 x7_1).f3⟩ : S38)]) := ⟨_, rfl⟩
              replace H : (fringeref26_Act.l0 k1 l0 l1 y192 (wrap64 (x7_1 + 1))) = some (r1, r2) := by first | (rw [hy192]; with_reducible exact H) | (have H2_ := (Option.bind_some _ _).symm.trans H; rw [hy192]; with_reducible exact H2_) | (have H2_ := (Option.bind_some _ _).symm.trans H; with_reducible exact H2_) | with_reducible exact H | (rw [hy192]; exact H) | exact H
              have Ny192 := Aside0.mk hy192
              clear hy192
              have H' := Aside0.mk H
              clear H
              have p175 : 0 ≤ (x7_1 : Int) := of_decide_eq_true (by first | (with_reducible assumption) | assumption)
              have q175 : x7_1 < (l1.length : Int) := of_decide_eq_true (by first | (with_reducible assumption) | assumption)
              obtain ⟨ad175, e175, hx175_0, hx175_1, hx175_2, hx175_3, hx175_4, hx175_5⟩ := at_T38 HR1.out x7_1 p175 q175
              cases e175
              replace hx175_0 := (HB.out.cell (World.block_lt_of_cell? w _ hx175_0)).trans hx175_0
              replace hx175_1 := (HB.out.cell (World.block_lt_of_cell? w _ hx175_1)).trans hx175_1
              replace hx175_2 := (HB.out.cell (World.block_lt_of_cell? w _ hx175_2)).trans hx175_2
              replace hx175_3 := (HB.out.cell (World.block_lt_of_cell? w _ hx175_3)).trans hx175_3
              replace hx175_4 := (HB.out.cell (World.block_lt_of_cell? w _ hx175_4)).trans hx175_4
              replace hx175_5 := (HB.out.cell (World.block_lt_of_cell? w _ hx175_5)).trans hx175_5
              replace p175 := eq_true p175
              replace q175 := eq_true q175
              try go_wp2_with (first | ((with_reducible refine gate_dst (N := 8) rfl ?_); refine box_event ?hg (N := 8) ?hd (cs := #[.int .i64 0, .int .i64 0, .int .i64 0, .int .i64 0, .int .i64 0, .int .i64 0]) (t := 38) ?hr ?_; (case hd => rfl); (case hg => rfl); (case hr => first | (go_simp; done) | (go_simp; rfl)); intro gb176 hg w21 hbox hb; have n0_ := Aside0.mk (Kd.R_below (Kd.R_elderB (Rt HO_6.out) gb176 (Nat.le_of_eq hg.symm)) hb); have n1_ := Aside0.mk (below_step (bl HB.out) hb); have n2_ := Aside0.mk (hbox); have n3_ := Aside0.mk ((by rw [hg]; exact (below_size (bl HB.out)) : w.heap.size ≤ gb176)); have n4_ := Aside0.mk ((by rw [hg]; exact (below_size (bl HB.out)) : w.heap.size ≤ gb176)); clear HO_6; clear HB; have HO_6 := n0_; have HB := n1_; have BK176 := n2_; have GW176 := n3_; have GE176 := n4_; clear n0_ n1_ n2_ n3_ n4_; clear hb hbox hg; have hcz22_0 : w21.cell? ⟨gb176, 0, none⟩ = some (.int .i64 0) := (blk_cell BK176.out 0).trans rfl; have hcz22_1 : w21.cell? ⟨gb176, 1, none⟩ = some (.int .i64 0) := (blk_cell BK176.out 1).trans rfl; have hcz22_2 : w21.cell? ⟨gb176, 2, none⟩ = some (.int .i64 0) := (blk_cell BK176.out 2).trans rfl; have hcz22_3 : w21.cell? ⟨gb176, 3, none⟩ = some (.int .i64 0) := (blk_cell BK176.out 3).trans rfl; have hcz22_4 : w21.cell? ⟨gb176, 4, none⟩ = some (.int .i64 0) := (blk_cell BK176.out 4).trans rfl; have hcz22_5 : w21.cell? ⟨gb176, 5, none⟩ = some (.int .i64 0) := (blk_cell BK176.out 5).trans rfl; have hfz22_0 := blk_frozen BK176.out 0; have hfz22_1 := blk_frozen BK176.out 1; have hfz22_2 := blk_frozen BK176.out 2; have hfz22_3 := blk_frozen BK176.out 3; have hfz22_4 := blk_frozen BK176.out 4; have hfz22_5 := blk_frozen BK176.out 5))
              have n0_ : Aside0 (Kd.R k38 38 ((((((w21.setCell ⟨gb176, 0, none⟩ (.int .i64 ((rd_T38 l1 x7_1).f0))).setCell ⟨gb176, 1, none⟩ (.int .i64 ((rd_T38 l1 x7_1).f1))).setCell ⟨gb176, 2, none⟩ (.int .i64 ((rd_T38 l1 x7_1).f2.f0))).setCell ⟨gb176, 3, none⟩ (.int .i64 ((rd_T38 l1 x7_1).f2.f1))).setCell ⟨gb176, 4, none⟩ (.int .i64 ((rd_T38 l1 x7_1).f2.f2))).setCell ⟨gb176, 5, none⟩ (.int .i64 ((rd_T38 l1 x7_1).f3))) w.heap.size (fun k_ => k_ ≠ gb176) u6 x6_1) := ⟨by (with_reducible repeat (first | apply Kd.R_alloc | apply Kd.R_drewN | apply Kd.R_drew)); exact Kd.R_mono (Kd.R_far (p := ⟨gb176, 5, none⟩) (Kd.R_far (p := ⟨gb176, 4, none⟩) (Kd.R_far (p := ⟨gb176, 3, none⟩) (Kd.R_far (p := ⟨gb176, 2, none⟩) (Kd.R_far (p := ⟨gb176, 1, none⟩) (Kd.R_far (p := ⟨gb176, 0, none⟩) (Kd.R_mono HO_6.out (fun k_ hk => (⟨hk, hk.2⟩ : _ ∧ k_ ≠ gb176))) (fun _ hk => hk.2) (.int .i64 ((rd_T38 l1 x7_1).f0))) (fun _ hk => hk.2) (.int .i64 ((rd_T38 l1 x7_1).f1))) (fun _ hk => hk.2) (.int .i64 ((rd_T38 l1 x7_1).f2.f0))) (fun _ hk => hk.2) (.int .i64 ((rd_T38 l1 x7_1).f2.f1))) (fun _ hk => hk.2) (.int .i64 ((rd_T38 l1 x7_1).f2.f2))) (fun _ hk => hk.2) (.int .i64 ((rd_T38 l1 x7_1).f3))) (fun _ hk => hk.1.2)⟩
              have n1_ : Aside0 (((((((w21.setCell ⟨gb176, 0, none⟩ (.int .i64 ((rd_T38 l1 x7_1).f0))).setCell ⟨gb176, 1, none⟩ (.int .i64 ((rd_T38 l1 x7_1).f1))).setCell ⟨gb176, 2, none⟩ (.int .i64 ((rd_T38 l1 x7_1).f2.f0))).setCell ⟨gb176, 3, none⟩ (.int .i64 ((rd_T38 l1 x7_1).f2.f1))).setCell ⟨gb176, 4, none⟩ (.int .i64 ((rd_T38 l1 x7_1).f2.f2))).setCell ⟨gb176, 5, none⟩ (.int .i64 ((rd_T38 l1 x7_1).f3))).heap[gb176]? = some (.cells #[.int .i64 ((rd_T38 l1 x7_1).f0), .int .i64 ((rd_T38 l1 x7_1).f1), .int .i64 ((rd_T38 l1 x7_1).f2.f0), .int .i64 ((rd_T38 l1 x7_1).f2.f1), .int .i64 ((rd_T38 l1 x7_1).f2.f2), .int .i64 ((rd_T38 l1 x7_1).f3)] 38 (0, 0))) := ⟨by (with_reducible repeat (first | refine blk_drewN ?_ _ | refine blk_drew ?_ | refine blk_alloc ?_ _)); refine blk_put (cs := #[.int .i64 ((rd_T38 l1 x7_1).f0), .int .i64 ((rd_T38 l1 x7_1).f1), .int .i64 ((rd_T38 l1 x7_1).f2.f0), .int .i64 ((rd_T38 l1 x7_1).f2.f1), .int .i64 ((rd_T38 l1 x7_1).f2.f2), .int .i64 0]) ?_ 5 _ rfl; (with_reducible repeat (first | refine blk_drewN ?_ _ | refine blk_drew ?_ | refine blk_alloc ?_ _)); refine blk_put (cs := #[.int .i64 ((rd_T38 l1 x7_1).f0), .int .i64 ((rd_T38 l1 x7_1).f1), .int .i64 ((rd_T38 l1 x7_1).f2.f0), .int .i64 ((rd_T38 l1 x7_1).f2.f1), .int .i64 0, .int .i64 0]) ?_ 4 _ rfl; (with_reducible repeat (first | refine blk_drewN ?_ _ | refine blk_drew ?_ | refine blk_alloc ?_ _)); refine blk_put (cs := #[.int .i64 ((rd_T38 l1 x7_1).f0), .int .i64 ((rd_T38 l1 x7_1).f1), .int .i64 ((rd_T38 l1 x7_1).f2.f0), .int .i64 0, .int .i64 0, .int .i64 0]) ?_ 3 _ rfl; (with_reducible repeat (first | refine blk_drewN ?_ _ | refine blk_drew ?_ | refine blk_alloc ?_ _)); refine blk_put (cs := #[.int .i64 ((rd_T38 l1 x7_1).f0), .int .i64 ((rd_T38 l1 x7_1).f1), .int .i64 0, .int .i64 0, .int .i64 0, .int .i64 0]) ?_ 2 _ rfl; (with_reducible repeat (first | refine blk_drewN ?_ _ | refine blk_drew ?_ | refine blk_alloc ?_ _)); refine blk_put (cs := #[.int .i64 ((rd_T38 l1 x7_1).f0), .int .i64 0, .int .i64 0, .int .i64 0, .int .i64 0, .int .i64 0]) ?_ 1 _ rfl; (with_reducible repeat (first | refine blk_drewN ?_ _ | refine blk_drew ?_ | refine blk_alloc ?_ _)); refine blk_put (cs := #[.int .i64 0, .int .i64 0, .int .i64 0, .int .i64 0, .int .i64 0, .int .i64 0]) ?_ 0 _ rfl; (with_reducible repeat (first | refine blk_drewN ?_ _ | refine blk_drew ?_ | refine blk_alloc ?_ _)); exact BK176.out⟩
              have n2_ : Aside0 (Below w.heap.size w ((((((w21.setCell ⟨gb176, 0, none⟩ (.int .i64 ((rd_T38 l1 x7_1).f0))).setCell ⟨gb176, 1, none⟩ (.int .i64 ((rd_T38 l1 x7_1).f1))).setCell ⟨gb176, 2, none⟩ (.int .i64 ((rd_T38 l1 x7_1).f2.f0))).setCell ⟨gb176, 3, none⟩ (.int .i64 ((rd_T38 l1 x7_1).f2.f1))).setCell ⟨gb176, 4, none⟩ (.int .i64 ((rd_T38 l1 x7_1).f2.f2))).setCell ⟨gb176, 5, none⟩ (.int .i64 ((rd_T38 l1 x7_1).f3)))) := ⟨by repeat (first | (with_reducible first | exact HB.out | apply below_alloc | apply pw_below_drewN | apply below_drew1 | refine below_set ?_ GE176.out) | exact HB.out)⟩
              (try clear HO_6)
              (try clear BK176)
              (try clear HB)
              generalize ((((((w21.setCell ⟨gb176, 0, none⟩ (.int .i64 ((rd_T38 l1 x7_1).f0))).setCell ⟨gb176, 1, none⟩ (.int .i64 ((rd_T38 l1 x7_1).f1))).setCell ⟨gb176, 2, none⟩ (.int .i64 ((rd_T38 l1 x7_1).f2.f0))).setCell ⟨gb176, 3, none⟩ (.int .i64 ((rd_T38 l1 x7_1).f2.f1))).setCell ⟨gb176, 4, none⟩ (.int .i64 ((rd_T38 l1 x7_1).f2.f2))).setCell ⟨gb176, 5, none⟩ (.int .i64 ((rd_T38 l1 x7_1).f3))) = w23 at n0_ n1_ n2_ ⊢
              have HO_6 := n0_
              have BK176 := n1_
              have HB := n2_
              clear n0_ n1_ n2_
              have n0_ := Aside0.mk (Kd.R_drew HO_6.out)
              have n1_ := Aside0.mk (blk_drew BK176.out)
              have n2_ := Aside0.mk (below_drew1 HB.out)
              clear HO_6
              clear BK176
              clear HB
              have HO_6 := n0_
              have BK176 := n1_
              have HB := n2_
              clear n0_ n1_ n2_
              have p177 : 0 ≤ (((rd_T38 l1 x7_1).f0) : Int) := of_decide_eq_true (by first | (with_reducible assumption) | assumption)
              have q177 : ((rd_T38 l1 x7_1).f0) < (l0.length : Int) := of_decide_eq_true (by first | (with_reducible assumption) | assumption)
              obtain ⟨ad177, e177, hx177_0, hx177_1, hx177_2⟩ := at_T36 HR0.out ((rd_T38 l1 x7_1).f0) p177 q177
              have hw177_2 := hx177_2
              have hw177_1 := hx177_1
              have hw177_0 := hx177_0
              cases e177
              replace hx177_0 := (HB.out.cell (World.block_lt_of_cell? w _ hx177_0)).trans hx177_0
              replace hx177_1 := (HB.out.cell (World.block_lt_of_cell? w _ hx177_1)).trans hx177_1
              replace hx177_2 := (HB.out.cell (World.block_lt_of_cell? w _ hx177_2)).trans hx177_2
              replace p177 := eq_true p177
              replace q177 := eq_true q177
              refine start_ (n := 14) (S := fun w' => w'.cell? ⟨gb176, 0, none⟩ = some (.int .i64 ((rd_T38 l1 x7_1).f0)) ∧ w'.cell? ⟨gb176, 1, none⟩ = some (.int .i64 ((rd_T38 l1 x7_1).f1)) ∧ w'.cell? ⟨gb176, 2, none⟩ = some (.int .i64 ((rd_T38 l1 x7_1).f2.f0)) ∧ w'.cell? ⟨gb176, 3, none⟩ = some (.int .i64 ((rd_T38 l1 x7_1).f2.f1)) ∧ w'.cell? ⟨gb176, 4, none⟩ = some (.int .i64 ((rd_T38 l1 x7_1).f2.f2)) ∧ w'.cell? ⟨gb176, 5, none⟩ = some (.int .i64 ((rd_T38 l1 x7_1).f3)) ∧ w'.cell? (ad177.add ((((rd_T38 l1 x7_1).f0)).toNat * 3)) = some (.int .i64 ((rd_T36 l0 ((rd_T38 l1 x7_1).f0)).f0)) ∧ w'.cell? ⟨(ad177.add ((((rd_T38 l1 x7_1).f0)).toNat * 3)).block, (ad177.add ((((rd_T38 l1 x7_1).f0)).toNat * 3)).off + 1, none⟩ = some (.int .i64 ((rd_T36 l0 ((rd_T38 l1 x7_1).f0)).f1)) ∧ w'.cell? ⟨(ad177.add ((((rd_T38 l1 x7_1).f0)).toNat * 3)).block, (ad177.add ((((rd_T38 l1 x7_1).f0)).toNat * 3)).off + 2, none⟩ = some (.int .i64 ((rd_T36 l0 ((rd_T38 l1 x7_1).f0)).f2))) (ds := []) #[false, false, false, false, false, false, false, false, false, false, false, false, false, false] (by kernel_rfl) rfl rfl ⟨(blk_cell BK176.out 0).trans rfl, (blk_cell BK176.out 1).trans rfl, (blk_cell BK176.out 2).trans rfl, (blk_cell BK176.out 3).trans rfl, (blk_cell BK176.out 4).trans rfl, (blk_cell BK176.out 5).trans rfl, ((HB.out.cell (World.block_lt_of_cell? w _ hw177_0)).trans hw177_0), ((HB.out.cell (World.block_lt_of_cell? w _ hw177_1)).trans hw177_1), ((HB.out.cell (World.block_lt_of_cell? w _ hw177_2)).trans hw177_2)⟩ (fun hHeld => ?_); refine with_tabW fringeref26_Act.tab10 fringeref26_Act.bits10 (fun HT_ HW_ => ?_)
              generalize w23.drew = w24 at HO_6 BK176 HB hx177_0 hx177_1 hx177_2 hHeld ⊢
              refine pure_ (i := 0) (N := some 37) (v := ?_) (a' := ?_) #[true, false, false, false, false, false, false, false, false, false, false, false, false, false] rfl rfl (any_of HT_.out (by kernel_rfl)) (fun _ _ _ h => h) (Or.inl ⟨by rfl, ?_⟩) ?_ ?_
              rotate_left
              ·intro w'
               go_simp
               with_reducible rfl
              rotate_left
              ·simp only [Act.put, List.setIfInBounds_toArray, List.set_cons_zero, List.set_cons_succ, i64_w, i32_w]
               rfl
              refine pure_ (i := 1) (N := some 38) (v := ?_) (a' := ?_) #[true, true, false, false, false, false, false, false, false, false, false, false, false, false] rfl rfl (any_of HT_.out (by kernel_rfl)) (fun _ _ _ h => h) (Or.inl ⟨by rfl, ?_⟩) ?_ ?_
              rotate_left
              ·intro w'
               go_simp
               with_reducible rfl
              rotate_left
              ·simp only [Act.put, List.setIfInBounds_toArray, List.set_cons_zero, List.set_cons_succ, i64_w, i32_w]
               rfl
              refine pure_ (i := 5) (N := some 42) (v := ?_) (a' := ?_) #[true, true, false, false, false, true, false, false, false, false, false, false, false, false] rfl rfl (any_of HT_.out (by kernel_rfl)) (fun _ _ _ h => h) (Or.inl ⟨by rfl, ?_⟩) ?_ ?_
              rotate_left
              ·intro w'
               go_simp
               with_reducible rfl
              rotate_left
              ·simp only [Act.put, List.setIfInBounds_toArray, List.set_cons_zero, List.set_cons_succ, i64_w, i32_w]
               rfl
              refine take_ (i := 2) (N := some 39) (v := ?_) (a' := ?_) #[true, true, true, false, false, true, false, false, false, false, false, false, false, false] rfl rfl (take_ofW HT_.out HW_.out (by kernel_rfl)) (fun _ _ _ h => h) (Or.inl ⟨by rfl, ?_⟩) hHeld ?_ ?_
              rotate_left
              ·rintro w' ⟨s0, s1, s2, s3, s4, s5, s6, s7, s8⟩
               go_simp
               with_reducible rfl
              rotate_left
              ·simp only [Act.put, List.setIfInBounds_toArray, List.set_cons_zero, List.set_cons_succ, i64_w, i32_w]
               rfl
              refine pure_ (i := 3) (N := some 40) (v := ?_) (a' := ?_) #[true, true, true, true, false, true, false, false, false, false, false, false, false, false] rfl rfl (any_of HT_.out (by kernel_rfl)) (fun _ _ _ h => h) (Or.inl ⟨by rfl, ?_⟩) ?_ ?_
              rotate_left
              ·intro w'
               go_simp
               with_reducible rfl
              rotate_left
              ·simp only [Act.put, List.setIfInBounds_toArray, List.set_cons_zero, List.set_cons_succ, i64_w, i32_w]
               rfl
              refine take_ (i := 4) (N := some 41) (v := ?_) (a' := ?_) #[true, true, true, true, true, true, false, false, false, false, false, false, false, false] rfl rfl (take_ofW HT_.out HW_.out (by kernel_rfl)) (fun _ _ _ h => h) (Or.inl ⟨by rfl, ?_⟩) hHeld ?_ ?_
              rotate_left
              ·rintro w' ⟨s0, s1, s2, s3, s4, s5, s6, s7, s8⟩
               go_simp
               with_reducible rfl
              rotate_left
              ·simp only [Act.put, List.setIfInBounds_toArray, List.set_cons_zero, List.set_cons_succ, i64_w, i32_w]
               rfl
              refine take_ (i := 6) (N := some 43) (v := ?_) (a' := ?_) #[true, true, true, true, true, true, true, false, false, false, false, false, false, false] rfl rfl (take_ofW HT_.out HW_.out (by kernel_rfl)) (fun _ _ _ h => h) (Or.inl ⟨by rfl, ?_⟩) hHeld ?_ ?_
              rotate_left
              ·rintro w' ⟨s0, s1, s2, s3, s4, s5, s6, s7, s8⟩
               go_simp
               with_reducible rfl
              rotate_left
              ·simp only [Act.put, List.setIfInBounds_toArray, List.set_cons_zero, List.set_cons_succ, i64_w, i32_w]
               rfl
              refine join_ (σ := Nat) 2 #[true, true, true, true, true, true, true, true, true, true, true, true, false, false] (fun s_ => [(44, .tuple #[.agg #[.int .i64 t178, .int .i64 t179, .int .i64 t180], .int .i64 t181]), (9, .pointer (some ⟨s_, 0, none⟩)), (36, .tuple #[.agg #[.int .i64 t178, .int .i64 t179, .int .i64 t180], .int .i64 t181]), (45, .agg #[.int .i64 t178, .int .i64 t179, .int .i64 t180]), (46, .int .i64 t181)]) (fun s_ w' => (w'.cell? ⟨gb176, 0, none⟩ = some (.int .i64 ((rd_T38 l1 x7_1).f0)) ∧ w'.cell? ⟨gb176, 1, none⟩ = some (.int .i64 ((rd_T38 l1 x7_1).f1)) ∧ w'.cell? ⟨gb176, 2, none⟩ = some (.int .i64 ((rd_T38 l1 x7_1).f2.f0)) ∧ w'.cell? ⟨gb176, 3, none⟩ = some (.int .i64 ((rd_T38 l1 x7_1).f2.f1)) ∧ w'.cell? ⟨gb176, 4, none⟩ = some (.int .i64 ((rd_T38 l1 x7_1).f2.f2)) ∧ w'.cell? ⟨gb176, 5, none⟩ = some (.int .i64 ((rd_T38 l1 x7_1).f3)) ∧ w'.cell? (ad177.add ((((rd_T38 l1 x7_1).f0)).toNat * 3)) = some (.int .i64 ((rd_T36 l0 ((rd_T38 l1 x7_1).f0)).f0)) ∧ w'.cell? ⟨(ad177.add ((((rd_T38 l1 x7_1).f0)).toNat * 3)).block, (ad177.add ((((rd_T38 l1 x7_1).f0)).toNat * 3)).off + 1, none⟩ = some (.int .i64 ((rd_T36 l0 ((rd_T38 l1 x7_1).f0)).f1)) ∧ w'.cell? ⟨(ad177.add ((((rd_T38 l1 x7_1).f0)).toNat * 3)).block, (ad177.add ((((rd_T38 l1 x7_1).f0)).toNat * 3)).off + 2, none⟩ = some (.int .i64 ((rd_T36 l0 ((rd_T38 l1 x7_1).f0)).f2))) ∧ (Kd.R k38 38 w' w.heap.size (fun k_ => k_ ≠ gb176) u6 x6_1) ∧ (w'.heap[gb176]? = some (.cells #[.int .i64 ((rd_T38 l1 x7_1).f0), .int .i64 ((rd_T38 l1 x7_1).f1), .int .i64 ((rd_T38 l1 x7_1).f2.f0), .int .i64 ((rd_T38 l1 x7_1).f2.f1), .int .i64 ((rd_T38 l1 x7_1).f2.f2), .int .i64 ((rd_T38 l1 x7_1).f3)] 38 (0, 0))) ∧ (w'.heap[s_]? = some (.cells #[.int .i64 0, .int .i64 0, .int .i64 0] 36 (0, 0))) ∧ (w.heap.size ≤ s_) ∧ (w.heap.size ≤ s_) ∧ (gb176 ≠ s_) ∧ (s_ ≠ gb176) ∧ (Below w.heap.size w w')) ?_ ?_
              rotate_left
              ·intro hCont
               refine two_ (i := 7) (j := 11) (Ni := some 44) (Nj := some 9) #[true, true, true, true, true, true, true, true, false, false, false, false, false, false] #[true, true, true, true, true, true, true, false, false, false, false, true, false, false] rfl rfl rfl rfl (two_of HT_.out (by kernel_rfl)) (by decide) (by decide) (fun K hK => ?_) (fun K hK => ?_)
               ·skip
                refine goes_ Try.func23 (by kernel_rfl) rfl #[.agg #[.int .i64 ((rd_T36 l0 ((rd_T38 l1 x7_1).f0)).f0), .int .i64 ((rd_T36 l0 ((rd_T38 l1 x7_1).f0)).f1), .int .i64 ((rd_T36 l0 ((rd_T38 l1 x7_1).f0)).f2)], .agg #[.int .i64 ((rd_T38 l1 x7_1).f2.f0), .int .i64 ((rd_T38 l1 x7_1).f2.f1), .int .i64 ((rd_T38 l1 x7_1).f2.f2)]] (by rfl) rfl rfl (by (try simp only [List.map_toArray, List.map_cons, List.map_nil]); first | done | rfl | (simp only [List.length_drop, List.length_take]; rfl)) ?_
                with_reducible refine (fringeref25_Mul.calls k1 ((rd_T36 l0 ((rd_T38 l1 x7_1).f0)).f0) ((rd_T36 l0 ((rd_T38 l1 x7_1).f0)).f1) ((rd_T36 l0 ((rd_T38 l1 x7_1).f0)).f2) ((rd_T38 l1 x7_1).f2.f0) ((rd_T38 l1 x7_1).f2.f1) ((rd_T38 l1 x7_1).f2.f2) t178 t179 t180 t181 _ A13.out).mono ?_
                rintro e w25 ⟨rfl, hb⟩
                refine ⟨_, rfl, ?_⟩
                have n0_ := Aside0.mk (Kd.R_below (Rt HO_6.out) hb)
                have n1_ := Aside0.mk (blk_below (g := gb176) (o := .cells #[.int .i64 ((rd_T38 l1 x7_1).f0), .int .i64 ((rd_T38 l1 x7_1).f1), .int .i64 ((rd_T38 l1 x7_1).f2.f0), .int .i64 ((rd_T38 l1 x7_1).f2.f1), .int .i64 ((rd_T38 l1 x7_1).f2.f2), .int .i64 ((rd_T38 l1 x7_1).f3)] 38 (0, 0)) (bt BK176.out) hb)
                have n2_ := Aside0.mk (below_step (bl HB.out) hb)
                clear HO_6
                clear BK176
                clear HB
                have HO_6 := n0_
                have BK176 := n1_
                have HB := n2_
                clear n0_ n1_ n2_
                (try clear hb)
                (try clear hb2)
                (try clear hk)
                (try clear hi)
                refine hK.out _ _ ⟨(blk_cell BK176.out 0).trans rfl, (blk_cell BK176.out 1).trans rfl, (blk_cell BK176.out 2).trans rfl, (blk_cell BK176.out 3).trans rfl, (blk_cell BK176.out 4).trans rfl, (blk_cell BK176.out 5).trans rfl, ((HB.out.cell (World.block_lt_of_cell? w _ hw177_0)).trans hw177_0), ((HB.out.cell (World.block_lt_of_cell? w _ hw177_1)).trans hw177_1), ((HB.out.cell (World.block_lt_of_cell? w _ hw177_2)).trans hw177_2)⟩ (fun hHeld => ?_)
                clear hK K
                refine norm_ (a' := ?_) ?_ ?_
                rotate_left
                ·show Act.put _ (some 44) _ = _
                 simp only [Act.put, List.setIfInBounds_toArray, List.set_cons_zero, List.set_cons_succ, i64_w, i32_w]
                 rfl
                refine pure_ (i := 8) (N := some 36) (v := ?_) (a' := ?_) #[true, true, true, true, true, true, true, true, true, false, false, false, false, false] rfl rfl (any_of HT_.out (by kernel_rfl)) (fun _ _ _ h => h) (Or.inl ⟨by rfl, ?_⟩) ?_ ?_
                rotate_left
                ·intro w'
                 go_simp
                 with_reducible rfl
                rotate_left
                ·simp only [Act.put, List.setIfInBounds_toArray, List.set_cons_zero, List.set_cons_succ, i64_w, i32_w]
                 rfl
                refine pure_ (i := 9) (N := some 45) (v := ?_) (a' := ?_) #[true, true, true, true, true, true, true, true, true, true, false, false, false, false] rfl rfl (any_of HT_.out (by kernel_rfl)) (fun _ _ _ h => h) (Or.inl ⟨by rfl, ?_⟩) ?_ ?_
                rotate_left
                ·intro w'
                 go_simp
                 with_reducible rfl
                rotate_left
                ·simp only [Act.put, List.setIfInBounds_toArray, List.set_cons_zero, List.set_cons_succ, i64_w, i32_w]
                 rfl
                refine pure_ (i := 10) (N := some 46) (v := ?_) (a' := ?_) #[true, true, true, true, true, true, true, true, true, true, true, false, false, false] rfl rfl (any_of HT_.out (by kernel_rfl)) (fun _ _ _ h => h) (Or.inl ⟨by rfl, ?_⟩) ?_ ?_
                rotate_left
                ·intro w'
                 go_simp
                 with_reducible rfl
                rotate_left
                ·simp only [Act.put, List.setIfInBounds_toArray, List.set_cons_zero, List.set_cons_succ, i64_w, i32_w]
                 rfl
                refine one_ (i := 11) (N := some 9) #[true, true, true, true, true, true, true, true, true, true, true, true, false, false] rfl rfl (one_of HT_.out (by kernel_rfl)) (by decide) (fun K hK => ?_)
                refine box_step ?hg (N := 9) ?hd (cs := #[.int .i64 0, .int .i64 0, .int .i64 0]) (t := 36) ?hr ?_; (case hd => rfl); (case hg => rfl); (case hr => first | (go_simp; done) | (go_simp; rfl))
                intro gb182 hg w26 hbox hb
                have n0_ := Aside0.mk (Kd.R_below (Rt HO_6.out) hb)
                have n1_ := Aside0.mk (blk_below (g := gb176) (o := .cells #[.int .i64 ((rd_T38 l1 x7_1).f0), .int .i64 ((rd_T38 l1 x7_1).f1), .int .i64 ((rd_T38 l1 x7_1).f2.f0), .int .i64 ((rd_T38 l1 x7_1).f2.f1), .int .i64 ((rd_T38 l1 x7_1).f2.f2), .int .i64 ((rd_T38 l1 x7_1).f3)] 38 (0, 0)) (bt BK176.out) hb)
                have n2_ := Aside0.mk (below_step (bl HB.out) hb)
                have n3_ := Aside0.mk (hbox)
                have n4_ := Aside0.mk ((by rw [hg]; exact (below_size (bl HB.out)) : w.heap.size ≤ gb182))
                have n5_ := Aside0.mk ((by rw [hg]; exact (below_size (bl HB.out)) : w.heap.size ≤ gb182))
                have n6_ := Aside0.mk ((by rw [hg]; exact Nat.ne_of_lt (blk_lt (g := gb176) (o := .cells #[.int .i64 ((rd_T38 l1 x7_1).f0), .int .i64 ((rd_T38 l1 x7_1).f1), .int .i64 ((rd_T38 l1 x7_1).f2.f0), .int .i64 ((rd_T38 l1 x7_1).f2.f1), .int .i64 ((rd_T38 l1 x7_1).f2.f2), .int .i64 ((rd_T38 l1 x7_1).f3)] 38 (0, 0)) (bt BK176.out)) : gb176 ≠ gb182))
                have n7_ := Aside0.mk ((by rw [hg]; exact Nat.ne_of_gt (blk_lt (g := gb176) (o := .cells #[.int .i64 ((rd_T38 l1 x7_1).f0), .int .i64 ((rd_T38 l1 x7_1).f1), .int .i64 ((rd_T38 l1 x7_1).f2.f0), .int .i64 ((rd_T38 l1 x7_1).f2.f1), .int .i64 ((rd_T38 l1 x7_1).f2.f2), .int .i64 ((rd_T38 l1 x7_1).f3)] 38 (0, 0)) (bt BK176.out)) : gb182 ≠ gb176))
                clear HO_6
                clear BK176
                clear HB
                have HO_6 := n0_
                have BK176 := n1_
                have HB := n2_
                have BK182 := n3_
                have GW182 := n4_
                have GE182 := n5_
                have NB176_182 := n6_
                have NB182_176 := n7_
                clear n0_ n1_ n2_ n3_ n4_ n5_ n6_ n7_
                clear hb hbox hg
                refine hK.out _ _ ⟨(blk_cell BK176.out 0).trans rfl, (blk_cell BK176.out 1).trans rfl, (blk_cell BK176.out 2).trans rfl, (blk_cell BK176.out 3).trans rfl, (blk_cell BK176.out 4).trans rfl, (blk_cell BK176.out 5).trans rfl, ((HB.out.cell (World.block_lt_of_cell? w _ hw177_0)).trans hw177_0), ((HB.out.cell (World.block_lt_of_cell? w _ hw177_1)).trans hw177_1), ((HB.out.cell (World.block_lt_of_cell? w _ hw177_2)).trans hw177_2)⟩ (fun hHeld => ?_)
                clear hK K
                refine norm_ (a' := ?_) ?_ ?_
                rotate_left
                ·show Act.put _ (some 9) _ = _
                 simp only [Act.put, List.setIfInBounds_toArray, List.set_cons_zero, List.set_cons_succ, i64_w, i32_w]
                 rfl
                exact norm_ (by simp only [putAll, Act.put, List.setIfInBounds_toArray, List.set_cons_zero, List.set_cons_succ]) (hCont (gb182) _ ⟨hHeld, (Rt HO_6.out), (bt BK176.out), (bt BK182.out), GW182.out, GE182.out, NB176_182.out, NB182_176.out, (bl HB.out)⟩)
               ·skip
                refine box_step ?hg (N := 9) ?hd (cs := #[.int .i64 0, .int .i64 0, .int .i64 0]) (t := 36) ?hr ?_; (case hd => rfl); (case hg => rfl); (case hr => first | (go_simp; done) | (go_simp; rfl))
                intro gb182 hg w25 hbox hb
                have n0_ := Aside0.mk (Kd.R_below (Rt HO_6.out) hb)
                have n1_ := Aside0.mk (blk_below (g := gb176) (o := .cells #[.int .i64 ((rd_T38 l1 x7_1).f0), .int .i64 ((rd_T38 l1 x7_1).f1), .int .i64 ((rd_T38 l1 x7_1).f2.f0), .int .i64 ((rd_T38 l1 x7_1).f2.f1), .int .i64 ((rd_T38 l1 x7_1).f2.f2), .int .i64 ((rd_T38 l1 x7_1).f3)] 38 (0, 0)) (bt BK176.out) hb)
                have n2_ := Aside0.mk (below_step (bl HB.out) hb)
                have n3_ := Aside0.mk (hbox)
                have n4_ := Aside0.mk ((by rw [hg]; exact (below_size (bl HB.out)) : w.heap.size ≤ gb182))
                have n5_ := Aside0.mk ((by rw [hg]; exact (below_size (bl HB.out)) : w.heap.size ≤ gb182))
                have n6_ := Aside0.mk ((by rw [hg]; exact Nat.ne_of_lt (blk_lt (g := gb176) (o := .cells #[.int .i64 ((rd_T38 l1 x7_1).f0), .int .i64 ((rd_T38 l1 x7_1).f1), .int .i64 ((rd_T38 l1 x7_1).f2.f0), .int .i64 ((rd_T38 l1 x7_1).f2.f1), .int .i64 ((rd_T38 l1 x7_1).f2.f2), .int .i64 ((rd_T38 l1 x7_1).f3)] 38 (0, 0)) (bt BK176.out)) : gb176 ≠ gb182))
                have n7_ := Aside0.mk ((by rw [hg]; exact Nat.ne_of_gt (blk_lt (g := gb176) (o := .cells #[.int .i64 ((rd_T38 l1 x7_1).f0), .int .i64 ((rd_T38 l1 x7_1).f1), .int .i64 ((rd_T38 l1 x7_1).f2.f0), .int .i64 ((rd_T38 l1 x7_1).f2.f1), .int .i64 ((rd_T38 l1 x7_1).f2.f2), .int .i64 ((rd_T38 l1 x7_1).f3)] 38 (0, 0)) (bt BK176.out)) : gb182 ≠ gb176))
                clear HO_6
                clear BK176
                clear HB
                have HO_6 := n0_
                have BK176 := n1_
                have HB := n2_
                have BK182 := n3_
                have GW182 := n4_
                have GE182 := n5_
                have NB176_182 := n6_
                have NB182_176 := n7_
                clear n0_ n1_ n2_ n3_ n4_ n5_ n6_ n7_
                clear hb hbox hg
                refine hK.out _ _ ⟨(blk_cell BK176.out 0).trans rfl, (blk_cell BK176.out 1).trans rfl, (blk_cell BK176.out 2).trans rfl, (blk_cell BK176.out 3).trans rfl, (blk_cell BK176.out 4).trans rfl, (blk_cell BK176.out 5).trans rfl, ((HB.out.cell (World.block_lt_of_cell? w _ hw177_0)).trans hw177_0), ((HB.out.cell (World.block_lt_of_cell? w _ hw177_1)).trans hw177_1), ((HB.out.cell (World.block_lt_of_cell? w _ hw177_2)).trans hw177_2)⟩ (fun hHeld => ?_)
                clear hK K
                refine norm_ (a' := ?_) ?_ ?_
                rotate_left
                ·show Act.put _ (some 9) _ = _
                 simp only [Act.put, List.setIfInBounds_toArray, List.set_cons_zero, List.set_cons_succ, i64_w, i32_w]
                 rfl
                refine one_ (i := 7) (N := some 44) #[true, true, true, true, true, true, true, true, false, false, false, true, false, false] rfl rfl (one_of HT_.out (by kernel_rfl)) (by decide) (fun K hK => ?_)
                refine goes_ Try.func23 (by kernel_rfl) rfl #[.agg #[.int .i64 ((rd_T36 l0 ((rd_T38 l1 x7_1).f0)).f0), .int .i64 ((rd_T36 l0 ((rd_T38 l1 x7_1).f0)).f1), .int .i64 ((rd_T36 l0 ((rd_T38 l1 x7_1).f0)).f2)], .agg #[.int .i64 ((rd_T38 l1 x7_1).f2.f0), .int .i64 ((rd_T38 l1 x7_1).f2.f1), .int .i64 ((rd_T38 l1 x7_1).f2.f2)]] (by rfl) rfl rfl (by (try simp only [List.map_toArray, List.map_cons, List.map_nil]); first | done | rfl | (simp only [List.length_drop, List.length_take]; rfl)) ?_
                with_reducible refine (fringeref25_Mul.calls k1 ((rd_T36 l0 ((rd_T38 l1 x7_1).f0)).f0) ((rd_T36 l0 ((rd_T38 l1 x7_1).f0)).f1) ((rd_T36 l0 ((rd_T38 l1 x7_1).f0)).f2) ((rd_T38 l1 x7_1).f2.f0) ((rd_T38 l1 x7_1).f2.f1) ((rd_T38 l1 x7_1).f2.f2) t178 t179 t180 t181 _ A13.out).mono ?_
                rintro e w26 ⟨rfl, hb⟩
                refine ⟨_, rfl, ?_⟩
                have n0_ := Aside0.mk (Kd.R_below (Rt HO_6.out) hb)
                have n1_ := Aside0.mk (blk_below (g := gb176) (o := .cells #[.int .i64 ((rd_T38 l1 x7_1).f0), .int .i64 ((rd_T38 l1 x7_1).f1), .int .i64 ((rd_T38 l1 x7_1).f2.f0), .int .i64 ((rd_T38 l1 x7_1).f2.f1), .int .i64 ((rd_T38 l1 x7_1).f2.f2), .int .i64 ((rd_T38 l1 x7_1).f3)] 38 (0, 0)) (bt BK176.out) hb)
                have n2_ := Aside0.mk (blk_below (g := gb182) (o := .cells #[.int .i64 0, .int .i64 0, .int .i64 0] 36 (0, 0)) (bt BK182.out) hb)
                have n3_ := Aside0.mk (below_step (bl HB.out) hb)
                clear HO_6
                clear BK176
                clear BK182
                clear HB
                have HO_6 := n0_
                have BK176 := n1_
                have BK182 := n2_
                have HB := n3_
                clear n0_ n1_ n2_ n3_
                (try clear hb)
                (try clear hb2)
                (try clear hk)
                (try clear hi)
                refine hK.out _ _ ⟨(blk_cell BK176.out 0).trans rfl, (blk_cell BK176.out 1).trans rfl, (blk_cell BK176.out 2).trans rfl, (blk_cell BK176.out 3).trans rfl, (blk_cell BK176.out 4).trans rfl, (blk_cell BK176.out 5).trans rfl, ((HB.out.cell (World.block_lt_of_cell? w _ hw177_0)).trans hw177_0), ((HB.out.cell (World.block_lt_of_cell? w _ hw177_1)).trans hw177_1), ((HB.out.cell (World.block_lt_of_cell? w _ hw177_2)).trans hw177_2)⟩ (fun hHeld => ?_)
                clear hK K
                refine norm_ (a' := ?_) ?_ ?_
                rotate_left
                ·show Act.put _ (some 44) _ = _
                 simp only [Act.put, List.setIfInBounds_toArray, List.set_cons_zero, List.set_cons_succ, i64_w, i32_w]
                 rfl
                refine pure_ (i := 8) (N := some 36) (v := ?_) (a' := ?_) #[true, true, true, true, true, true, true, true, true, false, false, true, false, false] rfl rfl (any_of HT_.out (by kernel_rfl)) (fun _ _ _ h => h) (Or.inl ⟨by rfl, ?_⟩) ?_ ?_
                rotate_left
                ·intro w'
                 go_simp
                 with_reducible rfl
                rotate_left
                ·simp only [Act.put, List.setIfInBounds_toArray, List.set_cons_zero, List.set_cons_succ, i64_w, i32_w]
                 rfl
                refine pure_ (i := 9) (N := some 45) (v := ?_) (a' := ?_) #[true, true, true, true, true, true, true, true, true, true, false, true, false, false] rfl rfl (any_of HT_.out (by kernel_rfl)) (fun _ _ _ h => h) (Or.inl ⟨by rfl, ?_⟩) ?_ ?_
                rotate_left
                ·intro w'
                 go_simp
                 with_reducible rfl
                rotate_left
                ·simp only [Act.put, List.setIfInBounds_toArray, List.set_cons_zero, List.set_cons_succ, i64_w, i32_w]
                 rfl
                refine pure_ (i := 10) (N := some 46) (v := ?_) (a' := ?_) #[true, true, true, true, true, true, true, true, true, true, true, true, false, false] rfl rfl (any_of HT_.out (by kernel_rfl)) (fun _ _ _ h => h) (Or.inl ⟨by rfl, ?_⟩) ?_ ?_
                rotate_left
                ·intro w'
                 go_simp
                 with_reducible rfl
                rotate_left
                ·simp only [Act.put, List.setIfInBounds_toArray, List.set_cons_zero, List.set_cons_succ, i64_w, i32_w]
                 rfl
                exact norm_ (by simp only [putAll, Act.put, List.setIfInBounds_toArray, List.set_cons_zero, List.set_cons_succ]) (hCont (gb182) _ ⟨hHeld, (Rt HO_6.out), (bt BK176.out), (bt BK182.out), GW182.out, GE182.out, NB176_182.out, NB182_176.out, (bl HB.out)⟩)
              rintro gb182 w27 ⟨hS_, h0_, h1_, h2_, h3_, h4_, h5_, h6_, h7_⟩
              have n0_ : Aside0 (Kd.R k38 38 w27 w.heap.size (fun k_ => k_ ≠ gb176) u6 x6_1) := ⟨h0_⟩
              have n1_ : Aside0 (w27.heap[gb176]? = some (.cells #[.int .i64 ((rd_T38 l1 x7_1).f0), .int .i64 ((rd_T38 l1 x7_1).f1), .int .i64 ((rd_T38 l1 x7_1).f2.f0), .int .i64 ((rd_T38 l1 x7_1).f2.f1), .int .i64 ((rd_T38 l1 x7_1).f2.f2), .int .i64 ((rd_T38 l1 x7_1).f3)] 38 (0, 0))) := ⟨h1_⟩
              have n2_ : Aside0 (w27.heap[gb182]? = some (.cells #[.int .i64 0, .int .i64 0, .int .i64 0] 36 (0, 0))) := ⟨h2_⟩
              have n3_ : Aside0 (w.heap.size ≤ gb182) := ⟨h3_⟩
              have n4_ : Aside0 (w.heap.size ≤ gb182) := ⟨h4_⟩
              have n5_ : Aside0 (gb176 ≠ gb182) := ⟨h5_⟩
              have n6_ : Aside0 (gb182 ≠ gb176) := ⟨h6_⟩
              have n7_ : Aside0 (Below w.heap.size w w27) := ⟨h7_⟩
              clear HO_6
              clear BK176
              clear HB
              clear h0_ h1_ h2_ h3_ h4_ h5_ h6_ h7_
              have HO_6 := n0_
              have BK176 := n1_
              have BK182 := n2_
              have GW182 := n3_
              have GE182 := n4_
              have NB176_182 := n5_
              have NB182_176 := n6_
              have HB := n7_
              clear n0_ n1_ n2_ n3_ n4_ n5_ n6_ n7_
              have hHeld : w27.cell? ⟨gb176, 0, none⟩ = some (.int .i64 ((rd_T38 l1 x7_1).f0)) ∧ w27.cell? ⟨gb176, 1, none⟩ = some (.int .i64 ((rd_T38 l1 x7_1).f1)) ∧ w27.cell? ⟨gb176, 2, none⟩ = some (.int .i64 ((rd_T38 l1 x7_1).f2.f0)) ∧ w27.cell? ⟨gb176, 3, none⟩ = some (.int .i64 ((rd_T38 l1 x7_1).f2.f1)) ∧ w27.cell? ⟨gb176, 4, none⟩ = some (.int .i64 ((rd_T38 l1 x7_1).f2.f2)) ∧ w27.cell? ⟨gb176, 5, none⟩ = some (.int .i64 ((rd_T38 l1 x7_1).f3)) ∧ w27.cell? (ad177.add ((((rd_T38 l1 x7_1).f0)).toNat * 3)) = some (.int .i64 ((rd_T36 l0 ((rd_T38 l1 x7_1).f0)).f0)) ∧ w27.cell? ⟨(ad177.add ((((rd_T38 l1 x7_1).f0)).toNat * 3)).block, (ad177.add ((((rd_T38 l1 x7_1).f0)).toNat * 3)).off + 1, none⟩ = some (.int .i64 ((rd_T36 l0 ((rd_T38 l1 x7_1).f0)).f1)) ∧ w27.cell? ⟨(ad177.add ((((rd_T38 l1 x7_1).f0)).toNat * 3)).block, (ad177.add ((((rd_T38 l1 x7_1).f0)).toNat * 3)).off + 2, none⟩ = some (.int .i64 ((rd_T36 l0 ((rd_T38 l1 x7_1).f0)).f2)) := hS_
              refine norm_ (a' := ?_) ?_ ?_
              rotate_left
              ·simp only [putAll, Act.put, List.setIfInBounds_toArray, List.set_cons_zero, List.set_cons_succ]
               rfl
              refine one_ (i := 12) (N := none) #[true, true, true, true, true, true, true, true, true, true, true, true, true, false] rfl rfl (one_of HT_.out (by kernel_rfl)) (by decide) (fun K hK => ?_)
              have hs28 : w27.cell? ⟨gb182, 0, none⟩ = some (.int .i64 0) := (blk_cell BK182.out 0).trans rfl
              have hfs28 := blk_frozen BK182.out 0
              have hns28_0 := NB176_182.out
              have hms28_0 := NB182_176.out
              have hs29 : w27.cell? ⟨gb182, 1, none⟩ = some (.int .i64 0) := (blk_cell BK182.out 1).trans rfl
              have hfs29 := blk_frozen BK182.out 1
              have hns29_0 := NB176_182.out
              have hms29_0 := NB182_176.out
              have hs30 : w27.cell? ⟨gb182, 2, none⟩ = some (.int .i64 0) := (blk_cell BK182.out 2).trans rfl
              have hfs30 := blk_frozen BK182.out 2
              have hns30_0 := NB176_182.out
              have hms30_0 := NB182_176.out
              refine skip_ (w1 := ?_) (by rfl) rfl ?_ ?_
              rotate_left
              ·go_simp
               rfl
              refine hK.out _ _ ⟨((cell_far (p := ⟨gb182, _, none⟩) NB176_182.out _).trans (((cell_far (p := ⟨gb182, _, none⟩) NB176_182.out _).trans (((cell_far (p := ⟨gb182, _, none⟩) NB176_182.out _).trans (hHeld.1)))))), ((cell_far (p := ⟨gb182, _, none⟩) NB176_182.out _).trans (((cell_far (p := ⟨gb182, _, none⟩) NB176_182.out _).trans (((cell_far (p := ⟨gb182, _, none⟩) NB176_182.out _).trans (hHeld.2.1)))))), ((cell_far (p := ⟨gb182, _, none⟩) NB176_182.out _).trans (((cell_far (p := ⟨gb182, _, none⟩) NB176_182.out _).trans (((cell_far (p := ⟨gb182, _, none⟩) NB176_182.out _).trans (hHeld.2.2.1)))))), ((cell_far (p := ⟨gb182, _, none⟩) NB176_182.out _).trans (((cell_far (p := ⟨gb182, _, none⟩) NB176_182.out _).trans (((cell_far (p := ⟨gb182, _, none⟩) NB176_182.out _).trans (hHeld.2.2.2.1)))))), ((cell_far (p := ⟨gb182, _, none⟩) NB176_182.out _).trans (((cell_far (p := ⟨gb182, _, none⟩) NB176_182.out _).trans (((cell_far (p := ⟨gb182, _, none⟩) NB176_182.out _).trans (hHeld.2.2.2.2.1)))))), ((cell_far (p := ⟨gb182, _, none⟩) NB176_182.out _).trans (((cell_far (p := ⟨gb182, _, none⟩) NB176_182.out _).trans (((cell_far (p := ⟨gb182, _, none⟩) NB176_182.out _).trans (hHeld.2.2.2.2.2.1)))))), ((cell_far (p := ⟨gb182, _, none⟩) (by first | exact Nat.ne_of_lt (Nat.lt_of_lt_of_le (by have := World.block_lt_of_cell? _ _ hw177_0; first | rwa [add_block] at this | exact this) GW182.out) | (rw [add_block]; exact Nat.ne_of_lt (Nat.lt_of_lt_of_le (by have := World.block_lt_of_cell? _ _ hw177_0; first | rwa [add_block] at this | exact this) GW182.out)) | (show (Addr.add _ _).block ≠ _; rw [add_block]; exact Nat.ne_of_lt (Nat.lt_of_lt_of_le (by have := World.block_lt_of_cell? _ _ hw177_0; first | rwa [add_block] at this | exact this) GW182.out)) | (dsimp only; exact Nat.ne_of_lt (Nat.lt_of_lt_of_le (by have := World.block_lt_of_cell? _ _ hw177_0; first | rwa [add_block] at this | exact this) GW182.out))) _).trans (((cell_far (p := ⟨gb182, _, none⟩) (by first | exact Nat.ne_of_lt (Nat.lt_of_lt_of_le (by have := World.block_lt_of_cell? _ _ hw177_0; first | rwa [add_block] at this | exact this) GW182.out) | (rw [add_block]; exact Nat.ne_of_lt (Nat.lt_of_lt_of_le (by have := World.block_lt_of_cell? _ _ hw177_0; first | rwa [add_block] at this | exact this) GW182.out)) | (show (Addr.add _ _).block ≠ _; rw [add_block]; exact Nat.ne_of_lt (Nat.lt_of_lt_of_le (by have := World.block_lt_of_cell? _ _ hw177_0; first | rwa [add_block] at this | exact this) GW182.out)) | (dsimp only; exact Nat.ne_of_lt (Nat.lt_of_lt_of_le (by have := World.block_lt_of_cell? _ _ hw177_0; first | rwa [add_block] at this | exact this) GW182.out))) _).trans (((cell_far (p := ⟨gb182, _, none⟩) (by first | exact Nat.ne_of_lt (Nat.lt_of_lt_of_le (by have := World.block_lt_of_cell? _ _ hw177_0; first | rwa [add_block] at this | exact this) GW182.out) | (rw [add_block]; exact Nat.ne_of_lt (Nat.lt_of_lt_of_le (by have := World.block_lt_of_cell? _ _ hw177_0; first | rwa [add_block] at this | exact this) GW182.out)) | (show (Addr.add _ _).block ≠ _; rw [add_block]; exact Nat.ne_of_lt (Nat.lt_of_lt_of_le (by have := World.block_lt_of_cell? _ _ hw177_0; first | rwa [add_block] at this | exact this) GW182.out)) | (dsimp only; exact Nat.ne_of_lt (Nat.lt_of_lt_of_le (by have := World.block_lt_of_cell? _ _ hw177_0; first | rwa [add_block] at this | exact this) GW182.out))) _).trans (hHeld.2.2.2.2.2.2.1)))))), ((cell_far (p := ⟨gb182, _, none⟩) (by first | exact Nat.ne_of_lt (Nat.lt_of_lt_of_le (by have := World.block_lt_of_cell? _ _ hw177_1; first | rwa [add_block] at this | exact this) GW182.out) | (rw [add_block]; exact Nat.ne_of_lt (Nat.lt_of_lt_of_le (by have := World.block_lt_of_cell? _ _ hw177_1; first | rwa [add_block] at this | exact this) GW182.out)) | (show (Addr.add _ _).block ≠ _; rw [add_block]; exact Nat.ne_of_lt (Nat.lt_of_lt_of_le (by have := World.block_lt_of_cell? _ _ hw177_1; first | rwa [add_block] at this | exact this) GW182.out)) | (dsimp only; exact Nat.ne_of_lt (Nat.lt_of_lt_of_le (by have := World.block_lt_of_cell? _ _ hw177_1; first | rwa [add_block] at this | exact this) GW182.out))) _).trans (((cell_far (p := ⟨gb182, _, none⟩) (by first | exact Nat.ne_of_lt (Nat.lt_of_lt_of_le (by have := World.block_lt_of_cell? _ _ hw177_1; first | rwa [add_block] at this | exact this) GW182.out) | (rw [add_block]; exact Nat.ne_of_lt (Nat.lt_of_lt_of_le (by have := World.block_lt_of_cell? _ _ hw177_1; first | rwa [add_block] at this | exact this) GW182.out)) | (show (Addr.add _ _).block ≠ _; rw [add_block]; exact Nat.ne_of_lt (Nat.lt_of_lt_of_le (by have := World.block_lt_of_cell? _ _ hw177_1; first | rwa [add_block] at this | exact this) GW182.out)) | (dsimp only; exact Nat.ne_of_lt (Nat.lt_of_lt_of_le (by have := World.block_lt_of_cell? _ _ hw177_1; first | rwa [add_block] at this | exact this) GW182.out))) _).trans (((cell_far (p := ⟨gb182, _, none⟩) (by first | exact Nat.ne_of_lt (Nat.lt_of_lt_of_le (by have := World.block_lt_of_cell? _ _ hw177_1; first | rwa [add_block] at this | exact this) GW182.out) | (rw [add_block]; exact Nat.ne_of_lt (Nat.lt_of_lt_of_le (by have := World.block_lt_of_cell? _ _ hw177_1; first | rwa [add_block] at this | exact this) GW182.out)) | (show (Addr.add _ _).block ≠ _; rw [add_block]; exact Nat.ne_of_lt (Nat.lt_of_lt_of_le (by have := World.block_lt_of_cell? _ _ hw177_1; first | rwa [add_block] at this | exact this) GW182.out)) | (dsimp only; exact Nat.ne_of_lt (Nat.lt_of_lt_of_le (by have := World.block_lt_of_cell? _ _ hw177_1; first | rwa [add_block] at this | exact this) GW182.out))) _).trans (hHeld.2.2.2.2.2.2.2.1)))))), ((cell_far (p := ⟨gb182, _, none⟩) (by first | exact Nat.ne_of_lt (Nat.lt_of_lt_of_le (by have := World.block_lt_of_cell? _ _ hw177_2; first | rwa [add_block] at this | exact this) GW182.out) | (rw [add_block]; exact Nat.ne_of_lt (Nat.lt_of_lt_of_le (by have := World.block_lt_of_cell? _ _ hw177_2; first | rwa [add_block] at this | exact this) GW182.out)) | (show (Addr.add _ _).block ≠ _; rw [add_block]; exact Nat.ne_of_lt (Nat.lt_of_lt_of_le (by have := World.block_lt_of_cell? _ _ hw177_2; first | rwa [add_block] at this | exact this) GW182.out)) | (dsimp only; exact Nat.ne_of_lt (Nat.lt_of_lt_of_le (by have := World.block_lt_of_cell? _ _ hw177_2; first | rwa [add_block] at this | exact this) GW182.out))) _).trans (((cell_far (p := ⟨gb182, _, none⟩) (by first | exact Nat.ne_of_lt (Nat.lt_of_lt_of_le (by have := World.block_lt_of_cell? _ _ hw177_2; first | rwa [add_block] at this | exact this) GW182.out) | (rw [add_block]; exact Nat.ne_of_lt (Nat.lt_of_lt_of_le (by have := World.block_lt_of_cell? _ _ hw177_2; first | rwa [add_block] at this | exact this) GW182.out)) | (show (Addr.add _ _).block ≠ _; rw [add_block]; exact Nat.ne_of_lt (Nat.lt_of_lt_of_le (by have := World.block_lt_of_cell? _ _ hw177_2; first | rwa [add_block] at this | exact this) GW182.out)) | (dsimp only; exact Nat.ne_of_lt (Nat.lt_of_lt_of_le (by have := World.block_lt_of_cell? _ _ hw177_2; first | rwa [add_block] at this | exact this) GW182.out))) _).trans (((cell_far (p := ⟨gb182, _, none⟩) (by first | exact Nat.ne_of_lt (Nat.lt_of_lt_of_le (by have := World.block_lt_of_cell? _ _ hw177_2; first | rwa [add_block] at this | exact this) GW182.out) | (rw [add_block]; exact Nat.ne_of_lt (Nat.lt_of_lt_of_le (by have := World.block_lt_of_cell? _ _ hw177_2; first | rwa [add_block] at this | exact this) GW182.out)) | (show (Addr.add _ _).block ≠ _; rw [add_block]; exact Nat.ne_of_lt (Nat.lt_of_lt_of_le (by have := World.block_lt_of_cell? _ _ hw177_2; first | rwa [add_block] at this | exact this) GW182.out)) | (dsimp only; exact Nat.ne_of_lt (Nat.lt_of_lt_of_le (by have := World.block_lt_of_cell? _ _ hw177_2; first | rwa [add_block] at this | exact this) GW182.out))) _).trans (hHeld.2.2.2.2.2.2.2.2))))))⟩ (fun hHeld => ?_)
              clear hK K
              refine pure_ (i := 13) (N := some 10) (v := ?_) (a' := ?_) #[true, true, true, true, true, true, true, true, true, true, true, true, true, true] rfl rfl (any_of HT_.out (by kernel_rfl)) (fun _ _ _ h => h) (Or.inl ⟨by rfl, ?_⟩) ?_ ?_
              rotate_left
              ·intro w'
               go_simp
               with_reducible rfl
              rotate_left
              ·simp only [Act.put, List.setIfInBounds_toArray, List.set_cons_zero, List.set_cons_succ, i64_w, i32_w]
               rfl
              refine done_ (done_of HT_.out (by kernel_rfl)) ?_
              try go_wp2
              have n0_ : Aside0 (Kd.R k38 38 (((w27.setCell ⟨gb182, 0, none⟩ (.int .i64 t178)).setCell ⟨gb182, 1, none⟩ (.int .i64 t179)).setCell ⟨gb182, 2, none⟩ (.int .i64 t180)) w.heap.size (fun k_ => k_ ≠ gb176) u6 x6_1) := ⟨by (with_reducible repeat (first | apply Kd.R_alloc | apply Kd.R_drewN | apply Kd.R_drew)); exact Kd.R_mono (Kd.R_far (p := ⟨gb182, 2, none⟩) (Kd.R_far (p := ⟨gb182, 1, none⟩) (Kd.R_far (p := ⟨gb182, 0, none⟩) (Kd.R_types HO_6.out BK182.out (by decide)) (fun _ hk => hk.2) (.int .i64 t178)) (fun _ hk => hk.2) (.int .i64 t179)) (fun _ hk => hk.2) (.int .i64 t180)) (fun _ hk => hk.1)⟩
              have n1_ : Aside0 ((((w27.setCell ⟨gb182, 0, none⟩ (.int .i64 t178)).setCell ⟨gb182, 1, none⟩ (.int .i64 t179)).setCell ⟨gb182, 2, none⟩ (.int .i64 t180)).heap[gb176]? = some (.cells #[.int .i64 ((rd_T38 l1 x7_1).f0), .int .i64 ((rd_T38 l1 x7_1).f1), .int .i64 ((rd_T38 l1 x7_1).f2.f0), .int .i64 ((rd_T38 l1 x7_1).f2.f1), .int .i64 ((rd_T38 l1 x7_1).f2.f2), .int .i64 ((rd_T38 l1 x7_1).f3)] 38 (0, 0))) := ⟨by (with_reducible repeat (first | refine blk_drewN ?_ _ | refine blk_drew ?_ | refine blk_alloc ?_ _ | refine blk_far ?_ NB176_182.out _)); exact BK176.out⟩
              have n2_ : Aside0 ((((w27.setCell ⟨gb182, 0, none⟩ (.int .i64 t178)).setCell ⟨gb182, 1, none⟩ (.int .i64 t179)).setCell ⟨gb182, 2, none⟩ (.int .i64 t180)).heap[gb182]? = some (.cells #[.int .i64 t178, .int .i64 t179, .int .i64 t180] 36 (0, 0))) := ⟨by (with_reducible repeat (first | refine blk_drewN ?_ _ | refine blk_drew ?_ | refine blk_alloc ?_ _)); refine blk_put (cs := #[.int .i64 t178, .int .i64 t179, .int .i64 0]) ?_ 2 _ rfl; (with_reducible repeat (first | refine blk_drewN ?_ _ | refine blk_drew ?_ | refine blk_alloc ?_ _)); refine blk_put (cs := #[.int .i64 t178, .int .i64 0, .int .i64 0]) ?_ 1 _ rfl; (with_reducible repeat (first | refine blk_drewN ?_ _ | refine blk_drew ?_ | refine blk_alloc ?_ _)); refine blk_put (cs := #[.int .i64 0, .int .i64 0, .int .i64 0]) ?_ 0 _ rfl; (with_reducible repeat (first | refine blk_drewN ?_ _ | refine blk_drew ?_ | refine blk_alloc ?_ _)); exact BK182.out⟩
              have n3_ : Aside0 (Below w.heap.size w (((w27.setCell ⟨gb182, 0, none⟩ (.int .i64 t178)).setCell ⟨gb182, 1, none⟩ (.int .i64 t179)).setCell ⟨gb182, 2, none⟩ (.int .i64 t180))) := ⟨by repeat (first | (with_reducible first | exact HB.out | apply below_alloc | apply pw_below_drewN | apply below_drew1 | refine below_set ?_ GE176.out | refine below_set ?_ GE182.out) | exact HB.out)⟩
              (try clear HO_6)
              (try clear BK176)
              (try clear BK182)
              (try clear HB)
              generalize (((w27.setCell ⟨gb182, 0, none⟩ (.int .i64 t178)).setCell ⟨gb182, 1, none⟩ (.int .i64 t179)).setCell ⟨gb182, 2, none⟩ (.int .i64 t180)) = w31 at n0_ n1_ n2_ n3_ ⊢
              have HO_6 := n0_
              have BK176 := n1_
              have BK182 := n2_
              have HB := n3_
              clear n0_ n1_ n2_ n3_
              have n0_ := Aside0.mk (Kd.R_drew HO_6.out)
              have n1_ := Aside0.mk (blk_drew BK176.out)
              have n2_ := Aside0.mk (blk_drew BK182.out)
              have n3_ := Aside0.mk (below_drew1 HB.out)
              clear HO_6
              clear BK176
              clear BK182
              clear HB
              have HO_6 := n0_
              have BK176 := n1_
              have BK182 := n2_
              have HB := n3_
              clear n0_ n1_ n2_ n3_
              have p183 : 0 ≤ (((rd_T38 l1 x7_1).f1) : Int) := of_decide_eq_true (by first | (with_reducible assumption) | assumption)
              have q183 : ((rd_T38 l1 x7_1).f1) < (l0.length : Int) := of_decide_eq_true (by first | (with_reducible assumption) | assumption)
              obtain ⟨ad183, e183, hx183_0, hx183_1, hx183_2⟩ := at_T36 HR0.out ((rd_T38 l1 x7_1).f1) p183 q183
              have hw183_2 := hx183_2
              have hw183_1 := hx183_1
              have hw183_0 := hx183_0
              obtain rfl : ad177 = ad183 := (by injection e183)
              replace hx183_0 := (HB.out.cell (World.block_lt_of_cell? w _ hx183_0)).trans hx183_0
              replace hx183_1 := (HB.out.cell (World.block_lt_of_cell? w _ hx183_1)).trans hx183_1
              replace hx183_2 := (HB.out.cell (World.block_lt_of_cell? w _ hx183_2)).trans hx183_2
              replace p183 := eq_true p183
              replace q183 := eq_true q183
              refine start_ (n := 14) (S := fun w' => w'.cell? ⟨gb182, 0, none⟩ = some (.int .i64 t178) ∧ w'.cell? ⟨gb182, 1, none⟩ = some (.int .i64 t179) ∧ w'.cell? ⟨gb182, 2, none⟩ = some (.int .i64 t180) ∧ w'.cell? ⟨gb176, 0, none⟩ = some (.int .i64 ((rd_T38 l1 x7_1).f0)) ∧ w'.cell? ⟨gb176, 1, none⟩ = some (.int .i64 ((rd_T38 l1 x7_1).f1)) ∧ w'.cell? ⟨gb176, 2, none⟩ = some (.int .i64 ((rd_T38 l1 x7_1).f2.f0)) ∧ w'.cell? ⟨gb176, 3, none⟩ = some (.int .i64 ((rd_T38 l1 x7_1).f2.f1)) ∧ w'.cell? ⟨gb176, 4, none⟩ = some (.int .i64 ((rd_T38 l1 x7_1).f2.f2)) ∧ w'.cell? ⟨gb176, 5, none⟩ = some (.int .i64 ((rd_T38 l1 x7_1).f3)) ∧ w'.cell? (ad177.add ((((rd_T38 l1 x7_1).f1)).toNat * 3)) = some (.int .i64 ((rd_T36 l0 ((rd_T38 l1 x7_1).f1)).f0)) ∧ w'.cell? ⟨(ad177.add ((((rd_T38 l1 x7_1).f1)).toNat * 3)).block, (ad177.add ((((rd_T38 l1 x7_1).f1)).toNat * 3)).off + 1, none⟩ = some (.int .i64 ((rd_T36 l0 ((rd_T38 l1 x7_1).f1)).f1)) ∧ w'.cell? ⟨(ad177.add ((((rd_T38 l1 x7_1).f1)).toNat * 3)).block, (ad177.add ((((rd_T38 l1 x7_1).f1)).toNat * 3)).off + 2, none⟩ = some (.int .i64 ((rd_T36 l0 ((rd_T38 l1 x7_1).f1)).f2))) (ds := []) #[false, false, false, false, false, false, false, false, false, false, false, false, false, false] (by kernel_rfl) rfl rfl ⟨(blk_cell BK182.out 0).trans rfl, (blk_cell BK182.out 1).trans rfl, (blk_cell BK182.out 2).trans rfl, (blk_cell BK176.out 0).trans rfl, (blk_cell BK176.out 1).trans rfl, (blk_cell BK176.out 2).trans rfl, (blk_cell BK176.out 3).trans rfl, (blk_cell BK176.out 4).trans rfl, (blk_cell BK176.out 5).trans rfl, ((HB.out.cell (World.block_lt_of_cell? w _ hw183_0)).trans hw183_0), ((HB.out.cell (World.block_lt_of_cell? w _ hw183_1)).trans hw183_1), ((HB.out.cell (World.block_lt_of_cell? w _ hw183_2)).trans hw183_2)⟩ (fun hHeld => ?_); refine with_tabW fringeref26_Act.tab13 fringeref26_Act.bits13 (fun HT_ HW_ => ?_)
              generalize w31.drew = w32 at HO_6 BK176 BK182 HB hx183_0 hx183_1 hx183_2 hHeld ⊢
              refine pure_ (i := 1) (N := some 51) (v := ?_) (a' := ?_) #[false, true, false, false, false, false, false, false, false, false, false, false, false, false] rfl rfl (any_of HT_.out (by kernel_rfl)) (fun _ _ _ h => h) (Or.inl ⟨by rfl, ?_⟩) ?_ ?_
              rotate_left
              ·intro w'
               go_simp
               with_reducible rfl
              rotate_left
              ·simp only [Act.put, List.setIfInBounds_toArray, List.set_cons_zero, List.set_cons_succ, i64_w, i32_w]
               rfl
              refine pure_ (i := 2) (N := some 52) (v := ?_) (a' := ?_) #[false, true, true, false, false, false, false, false, false, false, false, false, false, false] rfl rfl (any_of HT_.out (by kernel_rfl)) (fun _ _ _ h => h) (Or.inl ⟨by rfl, ?_⟩) ?_ ?_
              rotate_left
              ·intro w'
               go_simp
               with_reducible rfl
              rotate_left
              ·simp only [Act.put, List.setIfInBounds_toArray, List.set_cons_zero, List.set_cons_succ, i64_w, i32_w]
               rfl
              refine take_ (i := 0) (N := some 50) (v := ?_) (a' := ?_) #[true, true, true, false, false, false, false, false, false, false, false, false, false, false] rfl rfl (take_ofW HT_.out HW_.out (by kernel_rfl)) (fun _ _ _ h => h) (Or.inl ⟨by rfl, ?_⟩) hHeld ?_ ?_
              rotate_left
              ·rintro w' ⟨s0, s1, s2, s3, s4, s5, s6, s7, s8, s9, s10, s11⟩
               go_simp
               with_reducible rfl
              rotate_left
              ·simp only [Act.put, List.setIfInBounds_toArray, List.set_cons_zero, List.set_cons_succ, i64_w, i32_w]
               rfl
              refine take_ (i := 3) (N := some 53) (v := ?_) (a' := ?_) #[true, true, true, true, false, false, false, false, false, false, false, false, false, false] rfl rfl (take_ofW HT_.out HW_.out (by kernel_rfl)) (fun _ _ _ h => h) (Or.inl ⟨by rfl, ?_⟩) hHeld ?_ ?_
              rotate_left
              ·rintro w' ⟨s0, s1, s2, s3, s4, s5, s6, s7, s8, s9, s10, s11⟩
               go_simp
               with_reducible rfl
              rotate_left
              ·simp only [Act.put, List.setIfInBounds_toArray, List.set_cons_zero, List.set_cons_succ, i64_w, i32_w]
               rfl
              refine pure_ (i := 4) (N := some 54) (v := ?_) (a' := ?_) #[true, true, true, true, true, false, false, false, false, false, false, false, false, false] rfl rfl (any_of HT_.out (by kernel_rfl)) (fun _ _ _ h => h) (Or.inl ⟨by rfl, ?_⟩) ?_ ?_
              rotate_left
              ·intro w'
               go_simp
               with_reducible rfl
              rotate_left
              ·simp only [Act.put, List.setIfInBounds_toArray, List.set_cons_zero, List.set_cons_succ, i64_w, i32_w]
               rfl
              refine take_ (i := 5) (N := some 55) (v := ?_) (a' := ?_) #[true, true, true, true, true, true, false, false, false, false, false, false, false, false] rfl rfl (take_ofW HT_.out HW_.out (by kernel_rfl)) (fun _ _ _ h => h) (Or.inl ⟨by rfl, ?_⟩) hHeld ?_ ?_
              rotate_left
              ·rintro w' ⟨s0, s1, s2, s3, s4, s5, s6, s7, s8, s9, s10, s11⟩
               go_simp
               with_reducible rfl
              rotate_left
              ·simp only [Act.put, List.setIfInBounds_toArray, List.set_cons_zero, List.set_cons_succ, i64_w, i32_w]
               rfl
              refine join_ (σ := Nat) 2 #[true, true, true, true, true, true, true, true, true, true, true, true, false, false] (fun s_ => [(56, .agg #[.int .i64 t184, .int .i64 t185, .int .i64 t186]), (57, .tuple #[.agg #[.int .i64 t187, .int .i64 t188, .int .i64 t189], .int .i64 t190]), (11, .pointer (some ⟨s_, 0, none⟩)), (49, .tuple #[.agg #[.int .i64 t187, .int .i64 t188, .int .i64 t189], .int .i64 t190]), (58, .agg #[.int .i64 t187, .int .i64 t188, .int .i64 t189]), (59, .int .i64 t190)]) (fun s_ w' => (w'.cell? ⟨gb182, 0, none⟩ = some (.int .i64 t178) ∧ w'.cell? ⟨gb182, 1, none⟩ = some (.int .i64 t179) ∧ w'.cell? ⟨gb182, 2, none⟩ = some (.int .i64 t180) ∧ w'.cell? ⟨gb176, 0, none⟩ = some (.int .i64 ((rd_T38 l1 x7_1).f0)) ∧ w'.cell? ⟨gb176, 1, none⟩ = some (.int .i64 ((rd_T38 l1 x7_1).f1)) ∧ w'.cell? ⟨gb176, 2, none⟩ = some (.int .i64 ((rd_T38 l1 x7_1).f2.f0)) ∧ w'.cell? ⟨gb176, 3, none⟩ = some (.int .i64 ((rd_T38 l1 x7_1).f2.f1)) ∧ w'.cell? ⟨gb176, 4, none⟩ = some (.int .i64 ((rd_T38 l1 x7_1).f2.f2)) ∧ w'.cell? ⟨gb176, 5, none⟩ = some (.int .i64 ((rd_T38 l1 x7_1).f3)) ∧ w'.cell? (ad177.add ((((rd_T38 l1 x7_1).f1)).toNat * 3)) = some (.int .i64 ((rd_T36 l0 ((rd_T38 l1 x7_1).f1)).f0)) ∧ w'.cell? ⟨(ad177.add ((((rd_T38 l1 x7_1).f1)).toNat * 3)).block, (ad177.add ((((rd_T38 l1 x7_1).f1)).toNat * 3)).off + 1, none⟩ = some (.int .i64 ((rd_T36 l0 ((rd_T38 l1 x7_1).f1)).f1)) ∧ w'.cell? ⟨(ad177.add ((((rd_T38 l1 x7_1).f1)).toNat * 3)).block, (ad177.add ((((rd_T38 l1 x7_1).f1)).toNat * 3)).off + 2, none⟩ = some (.int .i64 ((rd_T36 l0 ((rd_T38 l1 x7_1).f1)).f2))) ∧ (Kd.R k38 38 w' w.heap.size (fun k_ => k_ ≠ gb176) u6 x6_1) ∧ (w'.heap[gb176]? = some (.cells #[.int .i64 ((rd_T38 l1 x7_1).f0), .int .i64 ((rd_T38 l1 x7_1).f1), .int .i64 ((rd_T38 l1 x7_1).f2.f0), .int .i64 ((rd_T38 l1 x7_1).f2.f1), .int .i64 ((rd_T38 l1 x7_1).f2.f2), .int .i64 ((rd_T38 l1 x7_1).f3)] 38 (0, 0))) ∧ (w'.heap[gb182]? = some (.cells #[.int .i64 t178, .int .i64 t179, .int .i64 t180] 36 (0, 0))) ∧ (w'.heap[s_]? = some (.cells #[.int .i64 0, .int .i64 0, .int .i64 0] 36 (0, 0))) ∧ (w.heap.size ≤ s_) ∧ (w.heap.size ≤ s_) ∧ (gb176 ≠ s_) ∧ (s_ ≠ gb176) ∧ (gb182 ≠ s_) ∧ (s_ ≠ gb182) ∧ (Below w.heap.size w w')) ?_ ?_
              rotate_left
              ·intro hCont
               refine two_ (i := 6) (j := 11) (Ni := some 56) (Nj := some 11) #[true, true, true, true, true, true, true, false, false, false, false, false, false, false] #[true, true, true, true, true, true, false, false, false, false, false, true, false, false] rfl rfl rfl rfl (two_of HT_.out (by kernel_rfl)) (by decide) (by decide) (fun K hK => ?_) (fun K hK => ?_)
               ·skip
                refine goes_ Try.func36 (by kernel_rfl) rfl #[.agg #[.int .i64 ((rd_T36 l0 ((rd_T38 l1 x7_1).f1)).f0), .int .i64 ((rd_T36 l0 ((rd_T38 l1 x7_1).f1)).f1), .int .i64 ((rd_T36 l0 ((rd_T38 l1 x7_1).f1)).f2)]] (by rfl) rfl rfl (by (try simp only [List.map_toArray, List.map_cons, List.map_nil]); first | done | rfl | (simp only [List.length_drop, List.length_take]; rfl)) ?_
                with_reducible refine (fringeref26_Apart.calls ((rd_T36 l0 ((rd_T38 l1 x7_1).f1)).f0) ((rd_T36 l0 ((rd_T38 l1 x7_1).f1)).f1) ((rd_T36 l0 ((rd_T38 l1 x7_1).f1)).f2) t184 t185 t186 _ A17.out).mono ?_
                rintro e w33 ⟨rfl, hb⟩
                refine ⟨_, rfl, ?_⟩
                have n0_ := Aside0.mk (Kd.R_below (Rt HO_6.out) hb)
                have n1_ := Aside0.mk (blk_below (g := gb176) (o := .cells #[.int .i64 ((rd_T38 l1 x7_1).f0), .int .i64 ((rd_T38 l1 x7_1).f1), .int .i64 ((rd_T38 l1 x7_1).f2.f0), .int .i64 ((rd_T38 l1 x7_1).f2.f1), .int .i64 ((rd_T38 l1 x7_1).f2.f2), .int .i64 ((rd_T38 l1 x7_1).f3)] 38 (0, 0)) (bt BK176.out) hb)
                have n2_ := Aside0.mk (blk_below (g := gb182) (o := .cells #[.int .i64 t178, .int .i64 t179, .int .i64 t180] 36 (0, 0)) (bt BK182.out) hb)
                have n3_ := Aside0.mk (below_step (bl HB.out) hb)
                clear HO_6
                clear BK176
                clear BK182
                clear HB
                have HO_6 := n0_
                have BK176 := n1_
                have BK182 := n2_
                have HB := n3_
                clear n0_ n1_ n2_ n3_
                (try clear hb)
                (try clear hb2)
                (try clear hk)
                (try clear hi)
                refine hK.out _ _ ⟨(blk_cell BK182.out 0).trans rfl, (blk_cell BK182.out 1).trans rfl, (blk_cell BK182.out 2).trans rfl, (blk_cell BK176.out 0).trans rfl, (blk_cell BK176.out 1).trans rfl, (blk_cell BK176.out 2).trans rfl, (blk_cell BK176.out 3).trans rfl, (blk_cell BK176.out 4).trans rfl, (blk_cell BK176.out 5).trans rfl, ((HB.out.cell (World.block_lt_of_cell? w _ hw183_0)).trans hw183_0), ((HB.out.cell (World.block_lt_of_cell? w _ hw183_1)).trans hw183_1), ((HB.out.cell (World.block_lt_of_cell? w _ hw183_2)).trans hw183_2)⟩ (fun hHeld => ?_)
                clear hK K
                refine norm_ (a' := ?_) ?_ ?_
                rotate_left
                ·show Act.put _ (some 56) _ = _
                 simp only [Act.put, List.setIfInBounds_toArray, List.set_cons_zero, List.set_cons_succ, i64_w, i32_w]
                 rfl
                refine two_ (i := 7) (j := 11) (Ni := some 57) (Nj := some 11) #[true, true, true, true, true, true, true, true, false, false, false, false, false, false] #[true, true, true, true, true, true, true, false, false, false, false, true, false, false] rfl rfl rfl rfl (two_of HT_.out (by kernel_rfl)) (by decide) (by decide) (fun K hK => ?_) (fun K hK => ?_)
                ·skip
                 refine goes_ Try.func23 (by kernel_rfl) rfl #[.agg #[.int .i64 t178, .int .i64 t179, .int .i64 t180], .agg #[.int .i64 t184, .int .i64 t185, .int .i64 t186]] (by rfl) rfl rfl (by (try simp only [List.map_toArray, List.map_cons, List.map_nil]); first | done | rfl | (simp only [List.length_drop, List.length_take]; rfl)) ?_
                 with_reducible refine (fringeref25_Mul.calls k1 t178 t179 t180 t184 t185 t186 t187 t188 t189 t190 _ A18.out).mono ?_
                 rintro e w34 ⟨rfl, hb⟩
                 refine ⟨_, rfl, ?_⟩
                 have n0_ := Aside0.mk (Kd.R_below (Rt HO_6.out) hb)
                 have n1_ := Aside0.mk (blk_below (g := gb176) (o := .cells #[.int .i64 ((rd_T38 l1 x7_1).f0), .int .i64 ((rd_T38 l1 x7_1).f1), .int .i64 ((rd_T38 l1 x7_1).f2.f0), .int .i64 ((rd_T38 l1 x7_1).f2.f1), .int .i64 ((rd_T38 l1 x7_1).f2.f2), .int .i64 ((rd_T38 l1 x7_1).f3)] 38 (0, 0)) (bt BK176.out) hb)
                 have n2_ := Aside0.mk (blk_below (g := gb182) (o := .cells #[.int .i64 t178, .int .i64 t179, .int .i64 t180] 36 (0, 0)) (bt BK182.out) hb)
                 have n3_ := Aside0.mk (below_step (bl HB.out) hb)
                 clear HO_6
                 clear BK176
                 clear BK182
                 clear HB
                 have HO_6 := n0_
                 have BK176 := n1_
                 have BK182 := n2_
                 have HB := n3_
                 clear n0_ n1_ n2_ n3_
                 (try clear hb)
                 (try clear hb2)
                 (try clear hk)
                 (try clear hi)
                 refine hK.out _ _ ⟨(blk_cell BK182.out 0).trans rfl, (blk_cell BK182.out 1).trans rfl, (blk_cell BK182.out 2).trans rfl, (blk_cell BK176.out 0).trans rfl, (blk_cell BK176.out 1).trans rfl, (blk_cell BK176.out 2).trans rfl, (blk_cell BK176.out 3).trans rfl, (blk_cell BK176.out 4).trans rfl, (blk_cell BK176.out 5).trans rfl, ((HB.out.cell (World.block_lt_of_cell? w _ hw183_0)).trans hw183_0), ((HB.out.cell (World.block_lt_of_cell? w _ hw183_1)).trans hw183_1), ((HB.out.cell (World.block_lt_of_cell? w _ hw183_2)).trans hw183_2)⟩ (fun hHeld => ?_)
                 clear hK K
                 refine norm_ (a' := ?_) ?_ ?_
                 rotate_left
                 ·show Act.put _ (some 57) _ = _
                  simp only [Act.put, List.setIfInBounds_toArray, List.set_cons_zero, List.set_cons_succ, i64_w, i32_w]
                  rfl
                 refine pure_ (i := 8) (N := some 49) (v := ?_) (a' := ?_) #[true, true, true, true, true, true, true, true, true, false, false, false, false, false] rfl rfl (any_of HT_.out (by kernel_rfl)) (fun _ _ _ h => h) (Or.inl ⟨by rfl, ?_⟩) ?_ ?_
                 rotate_left
                 ·intro w'
                  go_simp
                  with_reducible rfl
                 rotate_left
                 ·simp only [Act.put, List.setIfInBounds_toArray, List.set_cons_zero, List.set_cons_succ, i64_w, i32_w]
                  rfl
                 refine pure_ (i := 9) (N := some 58) (v := ?_) (a' := ?_) #[true, true, true, true, true, true, true, true, true, true, false, false, false, false] rfl rfl (any_of HT_.out (by kernel_rfl)) (fun _ _ _ h => h) (Or.inl ⟨by rfl, ?_⟩) ?_ ?_
                 rotate_left
                 ·intro w'
                  go_simp
                  with_reducible rfl
                 rotate_left
                 ·simp only [Act.put, List.setIfInBounds_toArray, List.set_cons_zero, List.set_cons_succ, i64_w, i32_w]
                  rfl
                 refine pure_ (i := 10) (N := some 59) (v := ?_) (a' := ?_) #[true, true, true, true, true, true, true, true, true, true, true, false, false, false] rfl rfl (any_of HT_.out (by kernel_rfl)) (fun _ _ _ h => h) (Or.inl ⟨by rfl, ?_⟩) ?_ ?_
                 rotate_left
                 ·intro w'
                  go_simp
                  with_reducible rfl
                 rotate_left
                 ·simp only [Act.put, List.setIfInBounds_toArray, List.set_cons_zero, List.set_cons_succ, i64_w, i32_w]
                  rfl
                 refine one_ (i := 11) (N := some 11) #[true, true, true, true, true, true, true, true, true, true, true, true, false, false] rfl rfl (one_of HT_.out (by kernel_rfl)) (by decide) (fun K hK => ?_)
                 refine box_step ?hg (N := 11) ?hd (cs := #[.int .i64 0, .int .i64 0, .int .i64 0]) (t := 36) ?hr ?_; (case hd => rfl); (case hg => rfl); (case hr => first | (go_simp; done) | (go_simp; rfl))
                 intro gb191 hg w35 hbox hb
                 have n0_ := Aside0.mk (Kd.R_below (Rt HO_6.out) hb)
                 have n1_ := Aside0.mk (blk_below (g := gb176) (o := .cells #[.int .i64 ((rd_T38 l1 x7_1).f0), .int .i64 ((rd_T38 l1 x7_1).f1), .int .i64 ((rd_T38 l1 x7_1).f2.f0), .int .i64 ((rd_T38 l1 x7_1).f2.f1), .int .i64 ((rd_T38 l1 x7_1).f2.f2), .int .i64 ((rd_T38 l1 x7_1).f3)] 38 (0, 0)) (bt BK176.out) hb)
                 have n2_ := Aside0.mk (blk_below (g := gb182) (o := .cells #[.int .i64 t178, .int .i64 t179, .int .i64 t180] 36 (0, 0)) (bt BK182.out) hb)
                 have n3_ := Aside0.mk (below_step (bl HB.out) hb)
                 have n4_ := Aside0.mk (hbox)
                 have n5_ := Aside0.mk ((by rw [hg]; exact (below_size (bl HB.out)) : w.heap.size ≤ gb191))
                 have n6_ := Aside0.mk ((by rw [hg]; exact (below_size (bl HB.out)) : w.heap.size ≤ gb191))
                 have n7_ := Aside0.mk ((by rw [hg]; exact Nat.ne_of_lt (blk_lt (g := gb176) (o := .cells #[.int .i64 ((rd_T38 l1 x7_1).f0), .int .i64 ((rd_T38 l1 x7_1).f1), .int .i64 ((rd_T38 l1 x7_1).f2.f0), .int .i64 ((rd_T38 l1 x7_1).f2.f1), .int .i64 ((rd_T38 l1 x7_1).f2.f2), .int .i64 ((rd_T38 l1 x7_1).f3)] 38 (0, 0)) (bt BK176.out)) : gb176 ≠ gb191))
                 have n8_ := Aside0.mk ((by rw [hg]; exact Nat.ne_of_gt (blk_lt (g := gb176) (o := .cells #[.int .i64 ((rd_T38 l1 x7_1).f0), .int .i64 ((rd_T38 l1 x7_1).f1), .int .i64 ((rd_T38 l1 x7_1).f2.f0), .int .i64 ((rd_T38 l1 x7_1).f2.f1), .int .i64 ((rd_T38 l1 x7_1).f2.f2), .int .i64 ((rd_T38 l1 x7_1).f3)] 38 (0, 0)) (bt BK176.out)) : gb191 ≠ gb176))
                 have n9_ := Aside0.mk ((by rw [hg]; exact Nat.ne_of_lt (blk_lt (g := gb182) (o := .cells #[.int .i64 t178, .int .i64 t179, .int .i64 t180] 36 (0, 0)) (bt BK182.out)) : gb182 ≠ gb191))
                 have n10_ := Aside0.mk ((by rw [hg]; exact Nat.ne_of_gt (blk_lt (g := gb182) (o := .cells #[.int .i64 t178, .int .i64 t179, .int .i64 t180] 36 (0, 0)) (bt BK182.out)) : gb191 ≠ gb182))
                 clear HO_6
                 clear BK176
                 clear BK182
                 clear HB
                 have HO_6 := n0_
                 have BK176 := n1_
                 have BK182 := n2_
                 have HB := n3_
                 have BK191 := n4_
                 have GW191 := n5_
                 have GE191 := n6_
                 have NB176_191 := n7_
                 have NB191_176 := n8_
                 have NB182_191 := n9_
                 have NB191_182 := n10_
                 clear n0_ n1_ n2_ n3_ n4_ n5_ n6_ n7_ n8_ n9_ n10_
                 clear hb hbox hg
                 refine hK.out _ _ ⟨(blk_cell BK182.out 0).trans rfl, (blk_cell BK182.out 1).trans rfl, (blk_cell BK182.out 2).trans rfl, (blk_cell BK176.out 0).trans rfl, (blk_cell BK176.out 1).trans rfl, (blk_cell BK176.out 2).trans rfl, (blk_cell BK176.out 3).trans rfl, (blk_cell BK176.out 4).trans rfl, (blk_cell BK176.out 5).trans rfl, ((HB.out.cell (World.block_lt_of_cell? w _ hw183_0)).trans hw183_0), ((HB.out.cell (World.block_lt_of_cell? w _ hw183_1)).trans hw183_1), ((HB.out.cell (World.block_lt_of_cell? w _ hw183_2)).trans hw183_2)⟩ (fun hHeld => ?_)
                 clear hK K
                 refine norm_ (a' := ?_) ?_ ?_
                 rotate_left
                 ·show Act.put _ (some 11) _ = _
                  simp only [Act.put, List.setIfInBounds_toArray, List.set_cons_zero, List.set_cons_succ, i64_w, i32_w]
                  rfl
                 exact norm_ (by simp only [putAll, Act.put, List.setIfInBounds_toArray, List.set_cons_zero, List.set_cons_succ]) (hCont (gb191) _ ⟨hHeld, (Rt HO_6.out), (bt BK176.out), (bt BK182.out), (bt BK191.out), GW191.out, GE191.out, NB176_191.out, NB191_176.out, NB182_191.out, NB191_182.out, (bl HB.out)⟩)
                ·skip
                 refine box_step ?hg (N := 11) ?hd (cs := #[.int .i64 0, .int .i64 0, .int .i64 0]) (t := 36) ?hr ?_; (case hd => rfl); (case hg => rfl); (case hr => first | (go_simp; done) | (go_simp; rfl))
                 intro gb191 hg w34 hbox hb
                 have n0_ := Aside0.mk (Kd.R_below (Rt HO_6.out) hb)
                 have n1_ := Aside0.mk (blk_below (g := gb176) (o := .cells #[.int .i64 ((rd_T38 l1 x7_1).f0), .int .i64 ((rd_T38 l1 x7_1).f1), .int .i64 ((rd_T38 l1 x7_1).f2.f0), .int .i64 ((rd_T38 l1 x7_1).f2.f1), .int .i64 ((rd_T38 l1 x7_1).f2.f2), .int .i64 ((rd_T38 l1 x7_1).f3)] 38 (0, 0)) (bt BK176.out) hb)
                 have n2_ := Aside0.mk (blk_below (g := gb182) (o := .cells #[.int .i64 t178, .int .i64 t179, .int .i64 t180] 36 (0, 0)) (bt BK182.out) hb)
                 have n3_ := Aside0.mk (below_step (bl HB.out) hb)
                 have n4_ := Aside0.mk (hbox)
                 have n5_ := Aside0.mk ((by rw [hg]; exact (below_size (bl HB.out)) : w.heap.size ≤ gb191))
                 have n6_ := Aside0.mk ((by rw [hg]; exact (below_size (bl HB.out)) : w.heap.size ≤ gb191))
                 have n7_ := Aside0.mk ((by rw [hg]; exact Nat.ne_of_lt (blk_lt (g := gb176) (o := .cells #[.int .i64 ((rd_T38 l1 x7_1).f0), .int .i64 ((rd_T38 l1 x7_1).f1), .int .i64 ((rd_T38 l1 x7_1).f2.f0), .int .i64 ((rd_T38 l1 x7_1).f2.f1), .int .i64 ((rd_T38 l1 x7_1).f2.f2), .int .i64 ((rd_T38 l1 x7_1).f3)] 38 (0, 0)) (bt BK176.out)) : gb176 ≠ gb191))
                 have n8_ := Aside0.mk ((by rw [hg]; exact Nat.ne_of_gt (blk_lt (g := gb176) (o := .cells #[.int .i64 ((rd_T38 l1 x7_1).f0), .int .i64 ((rd_T38 l1 x7_1).f1), .int .i64 ((rd_T38 l1 x7_1).f2.f0), .int .i64 ((rd_T38 l1 x7_1).f2.f1), .int .i64 ((rd_T38 l1 x7_1).f2.f2), .int .i64 ((rd_T38 l1 x7_1).f3)] 38 (0, 0)) (bt BK176.out)) : gb191 ≠ gb176))
                 have n9_ := Aside0.mk ((by rw [hg]; exact Nat.ne_of_lt (blk_lt (g := gb182) (o := .cells #[.int .i64 t178, .int .i64 t179, .int .i64 t180] 36 (0, 0)) (bt BK182.out)) : gb182 ≠ gb191))
                 have n10_ := Aside0.mk ((by rw [hg]; exact Nat.ne_of_gt (blk_lt (g := gb182) (o := .cells #[.int .i64 t178, .int .i64 t179, .int .i64 t180] 36 (0, 0)) (bt BK182.out)) : gb191 ≠ gb182))
                 clear HO_6
                 clear BK176
                 clear BK182
                 clear HB
                 have HO_6 := n0_
                 have BK176 := n1_
                 have BK182 := n2_
                 have HB := n3_
                 have BK191 := n4_
                 have GW191 := n5_
                 have GE191 := n6_
                 have NB176_191 := n7_
                 have NB191_176 := n8_
                 have NB182_191 := n9_
                 have NB191_182 := n10_
                 clear n0_ n1_ n2_ n3_ n4_ n5_ n6_ n7_ n8_ n9_ n10_
                 clear hb hbox hg
                 refine hK.out _ _ ⟨(blk_cell BK182.out 0).trans rfl, (blk_cell BK182.out 1).trans rfl, (blk_cell BK182.out 2).trans rfl, (blk_cell BK176.out 0).trans rfl, (blk_cell BK176.out 1).trans rfl, (blk_cell BK176.out 2).trans rfl, (blk_cell BK176.out 3).trans rfl, (blk_cell BK176.out 4).trans rfl, (blk_cell BK176.out 5).trans rfl, ((HB.out.cell (World.block_lt_of_cell? w _ hw183_0)).trans hw183_0), ((HB.out.cell (World.block_lt_of_cell? w _ hw183_1)).trans hw183_1), ((HB.out.cell (World.block_lt_of_cell? w _ hw183_2)).trans hw183_2)⟩ (fun hHeld => ?_)
                 clear hK K
                 refine norm_ (a' := ?_) ?_ ?_
                 rotate_left
                 ·show Act.put _ (some 11) _ = _
                  simp only [Act.put, List.setIfInBounds_toArray, List.set_cons_zero, List.set_cons_succ, i64_w, i32_w]
                  rfl
                 refine one_ (i := 7) (N := some 57) #[true, true, true, true, true, true, true, true, false, false, false, true, false, false] rfl rfl (one_of HT_.out (by kernel_rfl)) (by decide) (fun K hK => ?_)
                 refine goes_ Try.func23 (by kernel_rfl) rfl #[.agg #[.int .i64 t178, .int .i64 t179, .int .i64 t180], .agg #[.int .i64 t184, .int .i64 t185, .int .i64 t186]] (by rfl) rfl rfl (by (try simp only [List.map_toArray, List.map_cons, List.map_nil]); first | done | rfl | (simp only [List.length_drop, List.length_take]; rfl)) ?_
                 with_reducible refine (fringeref25_Mul.calls k1 t178 t179 t180 t184 t185 t186 t187 t188 t189 t190 _ A18.out).mono ?_
                 rintro e w35 ⟨rfl, hb⟩
                 refine ⟨_, rfl, ?_⟩
                 have n0_ := Aside0.mk (Kd.R_below (Rt HO_6.out) hb)
                 have n1_ := Aside0.mk (blk_below (g := gb176) (o := .cells #[.int .i64 ((rd_T38 l1 x7_1).f0), .int .i64 ((rd_T38 l1 x7_1).f1), .int .i64 ((rd_T38 l1 x7_1).f2.f0), .int .i64 ((rd_T38 l1 x7_1).f2.f1), .int .i64 ((rd_T38 l1 x7_1).f2.f2), .int .i64 ((rd_T38 l1 x7_1).f3)] 38 (0, 0)) (bt BK176.out) hb)
                 have n2_ := Aside0.mk (blk_below (g := gb182) (o := .cells #[.int .i64 t178, .int .i64 t179, .int .i64 t180] 36 (0, 0)) (bt BK182.out) hb)
                 have n3_ := Aside0.mk (blk_below (g := gb191) (o := .cells #[.int .i64 0, .int .i64 0, .int .i64 0] 36 (0, 0)) (bt BK191.out) hb)
                 have n4_ := Aside0.mk (below_step (bl HB.out) hb)
                 clear HO_6
                 clear BK176
                 clear BK182
                 clear BK191
                 clear HB
                 have HO_6 := n0_
                 have BK176 := n1_
                 have BK182 := n2_
                 have BK191 := n3_
                 have HB := n4_
                 clear n0_ n1_ n2_ n3_ n4_
                 (try clear hb)
                 (try clear hb2)
                 (try clear hk)
                 (try clear hi)
                 refine hK.out _ _ ⟨(blk_cell BK182.out 0).trans rfl, (blk_cell BK182.out 1).trans rfl, (blk_cell BK182.out 2).trans rfl, (blk_cell BK176.out 0).trans rfl, (blk_cell BK176.out 1).trans rfl, (blk_cell BK176.out 2).trans rfl, (blk_cell BK176.out 3).trans rfl, (blk_cell BK176.out 4).trans rfl, (blk_cell BK176.out 5).trans rfl, ((HB.out.cell (World.block_lt_of_cell? w _ hw183_0)).trans hw183_0), ((HB.out.cell (World.block_lt_of_cell? w _ hw183_1)).trans hw183_1), ((HB.out.cell (World.block_lt_of_cell? w _ hw183_2)).trans hw183_2)⟩ (fun hHeld => ?_)
                 clear hK K
                 refine norm_ (a' := ?_) ?_ ?_
                 rotate_left
                 ·show Act.put _ (some 57) _ = _
                  simp only [Act.put, List.setIfInBounds_toArray, List.set_cons_zero, List.set_cons_succ, i64_w, i32_w]
                  rfl
                 refine pure_ (i := 8) (N := some 49) (v := ?_) (a' := ?_) #[true, true, true, true, true, true, true, true, true, false, false, true, false, false] rfl rfl (any_of HT_.out (by kernel_rfl)) (fun _ _ _ h => h) (Or.inl ⟨by rfl, ?_⟩) ?_ ?_
                 rotate_left
                 ·intro w'
                  go_simp
                  with_reducible rfl
                 rotate_left
                 ·simp only [Act.put, List.setIfInBounds_toArray, List.set_cons_zero, List.set_cons_succ, i64_w, i32_w]
                  rfl
                 refine pure_ (i := 9) (N := some 58) (v := ?_) (a' := ?_) #[true, true, true, true, true, true, true, true, true, true, false, true, false, false] rfl rfl (any_of HT_.out (by kernel_rfl)) (fun _ _ _ h => h) (Or.inl ⟨by rfl, ?_⟩) ?_ ?_
                 rotate_left
                 ·intro w'
                  go_simp
                  with_reducible rfl
                 rotate_left
                 ·simp only [Act.put, List.setIfInBounds_toArray, List.set_cons_zero, List.set_cons_succ, i64_w, i32_w]
                  rfl
                 refine pure_ (i := 10) (N := some 59) (v := ?_) (a' := ?_) #[true, true, true, true, true, true, true, true, true, true, true, true, false, false] rfl rfl (any_of HT_.out (by kernel_rfl)) (fun _ _ _ h => h) (Or.inl ⟨by rfl, ?_⟩) ?_ ?_
                 rotate_left
                 ·intro w'
                  go_simp
                  with_reducible rfl
                 rotate_left
                 ·simp only [Act.put, List.setIfInBounds_toArray, List.set_cons_zero, List.set_cons_succ, i64_w, i32_w]
                  rfl
                 exact norm_ (by simp only [putAll, Act.put, List.setIfInBounds_toArray, List.set_cons_zero, List.set_cons_succ]) (hCont (gb191) _ ⟨hHeld, (Rt HO_6.out), (bt BK176.out), (bt BK182.out), (bt BK191.out), GW191.out, GE191.out, NB176_191.out, NB191_176.out, NB182_191.out, NB191_182.out, (bl HB.out)⟩)
               ·skip
                refine box_step ?hg (N := 11) ?hd (cs := #[.int .i64 0, .int .i64 0, .int .i64 0]) (t := 36) ?hr ?_; (case hd => rfl); (case hg => rfl); (case hr => first | (go_simp; done) | (go_simp; rfl))
                intro gb191 hg w33 hbox hb
                have n0_ := Aside0.mk (Kd.R_below (Rt HO_6.out) hb)
                have n1_ := Aside0.mk (blk_below (g := gb176) (o := .cells #[.int .i64 ((rd_T38 l1 x7_1).f0), .int .i64 ((rd_T38 l1 x7_1).f1), .int .i64 ((rd_T38 l1 x7_1).f2.f0), .int .i64 ((rd_T38 l1 x7_1).f2.f1), .int .i64 ((rd_T38 l1 x7_1).f2.f2), .int .i64 ((rd_T38 l1 x7_1).f3)] 38 (0, 0)) (bt BK176.out) hb)
                have n2_ := Aside0.mk (blk_below (g := gb182) (o := .cells #[.int .i64 t178, .int .i64 t179, .int .i64 t180] 36 (0, 0)) (bt BK182.out) hb)
                have n3_ := Aside0.mk (below_step (bl HB.out) hb)
                have n4_ := Aside0.mk (hbox)
                have n5_ := Aside0.mk ((by rw [hg]; exact (below_size (bl HB.out)) : w.heap.size ≤ gb191))
                have n6_ := Aside0.mk ((by rw [hg]; exact (below_size (bl HB.out)) : w.heap.size ≤ gb191))
                have n7_ := Aside0.mk ((by rw [hg]; exact Nat.ne_of_lt (blk_lt (g := gb176) (o := .cells #[.int .i64 ((rd_T38 l1 x7_1).f0), .int .i64 ((rd_T38 l1 x7_1).f1), .int .i64 ((rd_T38 l1 x7_1).f2.f0), .int .i64 ((rd_T38 l1 x7_1).f2.f1), .int .i64 ((rd_T38 l1 x7_1).f2.f2), .int .i64 ((rd_T38 l1 x7_1).f3)] 38 (0, 0)) (bt BK176.out)) : gb176 ≠ gb191))
                have n8_ := Aside0.mk ((by rw [hg]; exact Nat.ne_of_gt (blk_lt (g := gb176) (o := .cells #[.int .i64 ((rd_T38 l1 x7_1).f0), .int .i64 ((rd_T38 l1 x7_1).f1), .int .i64 ((rd_T38 l1 x7_1).f2.f0), .int .i64 ((rd_T38 l1 x7_1).f2.f1), .int .i64 ((rd_T38 l1 x7_1).f2.f2), .int .i64 ((rd_T38 l1 x7_1).f3)] 38 (0, 0)) (bt BK176.out)) : gb191 ≠ gb176))
                have n9_ := Aside0.mk ((by rw [hg]; exact Nat.ne_of_lt (blk_lt (g := gb182) (o := .cells #[.int .i64 t178, .int .i64 t179, .int .i64 t180] 36 (0, 0)) (bt BK182.out)) : gb182 ≠ gb191))
                have n10_ := Aside0.mk ((by rw [hg]; exact Nat.ne_of_gt (blk_lt (g := gb182) (o := .cells #[.int .i64 t178, .int .i64 t179, .int .i64 t180] 36 (0, 0)) (bt BK182.out)) : gb191 ≠ gb182))
                clear HO_6
                clear BK176
                clear BK182
                clear HB
                have HO_6 := n0_
                have BK176 := n1_
                have BK182 := n2_
                have HB := n3_
                have BK191 := n4_
                have GW191 := n5_
                have GE191 := n6_
                have NB176_191 := n7_
                have NB191_176 := n8_
                have NB182_191 := n9_
                have NB191_182 := n10_
                clear n0_ n1_ n2_ n3_ n4_ n5_ n6_ n7_ n8_ n9_ n10_
                clear hb hbox hg
                refine hK.out _ _ ⟨(blk_cell BK182.out 0).trans rfl, (blk_cell BK182.out 1).trans rfl, (blk_cell BK182.out 2).trans rfl, (blk_cell BK176.out 0).trans rfl, (blk_cell BK176.out 1).trans rfl, (blk_cell BK176.out 2).trans rfl, (blk_cell BK176.out 3).trans rfl, (blk_cell BK176.out 4).trans rfl, (blk_cell BK176.out 5).trans rfl, ((HB.out.cell (World.block_lt_of_cell? w _ hw183_0)).trans hw183_0), ((HB.out.cell (World.block_lt_of_cell? w _ hw183_1)).trans hw183_1), ((HB.out.cell (World.block_lt_of_cell? w _ hw183_2)).trans hw183_2)⟩ (fun hHeld => ?_)
                clear hK K
                refine norm_ (a' := ?_) ?_ ?_
                rotate_left
                ·show Act.put _ (some 11) _ = _
                 simp only [Act.put, List.setIfInBounds_toArray, List.set_cons_zero, List.set_cons_succ, i64_w, i32_w]
                 rfl
                refine one_ (i := 6) (N := some 56) #[true, true, true, true, true, true, true, false, false, false, false, true, false, false] rfl rfl (one_of HT_.out (by kernel_rfl)) (by decide) (fun K hK => ?_)
                refine goes_ Try.func36 (by kernel_rfl) rfl #[.agg #[.int .i64 ((rd_T36 l0 ((rd_T38 l1 x7_1).f1)).f0), .int .i64 ((rd_T36 l0 ((rd_T38 l1 x7_1).f1)).f1), .int .i64 ((rd_T36 l0 ((rd_T38 l1 x7_1).f1)).f2)]] (by rfl) rfl rfl (by (try simp only [List.map_toArray, List.map_cons, List.map_nil]); first | done | rfl | (simp only [List.length_drop, List.length_take]; rfl)) ?_
                with_reducible refine (fringeref26_Apart.calls ((rd_T36 l0 ((rd_T38 l1 x7_1).f1)).f0) ((rd_T36 l0 ((rd_T38 l1 x7_1).f1)).f1) ((rd_T36 l0 ((rd_T38 l1 x7_1).f1)).f2) t184 t185 t186 _ A17.out).mono ?_
                rintro e w34 ⟨rfl, hb⟩
                refine ⟨_, rfl, ?_⟩
                have n0_ := Aside0.mk (Kd.R_below (Rt HO_6.out) hb)
                have n1_ := Aside0.mk (blk_below (g := gb176) (o := .cells #[.int .i64 ((rd_T38 l1 x7_1).f0), .int .i64 ((rd_T38 l1 x7_1).f1), .int .i64 ((rd_T38 l1 x7_1).f2.f0), .int .i64 ((rd_T38 l1 x7_1).f2.f1), .int .i64 ((rd_T38 l1 x7_1).f2.f2), .int .i64 ((rd_T38 l1 x7_1).f3)] 38 (0, 0)) (bt BK176.out) hb)
                have n2_ := Aside0.mk (blk_below (g := gb182) (o := .cells #[.int .i64 t178, .int .i64 t179, .int .i64 t180] 36 (0, 0)) (bt BK182.out) hb)
                have n3_ := Aside0.mk (blk_below (g := gb191) (o := .cells #[.int .i64 0, .int .i64 0, .int .i64 0] 36 (0, 0)) (bt BK191.out) hb)
                have n4_ := Aside0.mk (below_step (bl HB.out) hb)
                clear HO_6
                clear BK176
                clear BK182
                clear BK191
                clear HB
                have HO_6 := n0_
                have BK176 := n1_
                have BK182 := n2_
                have BK191 := n3_
                have HB := n4_
                clear n0_ n1_ n2_ n3_ n4_
                (try clear hb)
                (try clear hb2)
                (try clear hk)
                (try clear hi)
                refine hK.out _ _ ⟨(blk_cell BK182.out 0).trans rfl, (blk_cell BK182.out 1).trans rfl, (blk_cell BK182.out 2).trans rfl, (blk_cell BK176.out 0).trans rfl, (blk_cell BK176.out 1).trans rfl, (blk_cell BK176.out 2).trans rfl, (blk_cell BK176.out 3).trans rfl, (blk_cell BK176.out 4).trans rfl, (blk_cell BK176.out 5).trans rfl, ((HB.out.cell (World.block_lt_of_cell? w _ hw183_0)).trans hw183_0), ((HB.out.cell (World.block_lt_of_cell? w _ hw183_1)).trans hw183_1), ((HB.out.cell (World.block_lt_of_cell? w _ hw183_2)).trans hw183_2)⟩ (fun hHeld => ?_)
                clear hK K
                refine norm_ (a' := ?_) ?_ ?_
                rotate_left
                ·show Act.put _ (some 56) _ = _
                 simp only [Act.put, List.setIfInBounds_toArray, List.set_cons_zero, List.set_cons_succ, i64_w, i32_w]
                 rfl
                refine one_ (i := 7) (N := some 57) #[true, true, true, true, true, true, true, true, false, false, false, true, false, false] rfl rfl (one_of HT_.out (by kernel_rfl)) (by decide) (fun K hK => ?_)
                refine goes_ Try.func23 (by kernel_rfl) rfl #[.agg #[.int .i64 t178, .int .i64 t179, .int .i64 t180], .agg #[.int .i64 t184, .int .i64 t185, .int .i64 t186]] (by rfl) rfl rfl (by (try simp only [List.map_toArray, List.map_cons, List.map_nil]); first | done | rfl | (simp only [List.length_drop, List.length_take]; rfl)) ?_
                with_reducible refine (fringeref25_Mul.calls k1 t178 t179 t180 t184 t185 t186 t187 t188 t189 t190 _ A18.out).mono ?_
                rintro e w35 ⟨rfl, hb⟩
                refine ⟨_, rfl, ?_⟩
                have n0_ := Aside0.mk (Kd.R_below (Rt HO_6.out) hb)
                have n1_ := Aside0.mk (blk_below (g := gb176) (o := .cells #[.int .i64 ((rd_T38 l1 x7_1).f0), .int .i64 ((rd_T38 l1 x7_1).f1), .int .i64 ((rd_T38 l1 x7_1).f2.f0), .int .i64 ((rd_T38 l1 x7_1).f2.f1), .int .i64 ((rd_T38 l1 x7_1).f2.f2), .int .i64 ((rd_T38 l1 x7_1).f3)] 38 (0, 0)) (bt BK176.out) hb)
                have n2_ := Aside0.mk (blk_below (g := gb182) (o := .cells #[.int .i64 t178, .int .i64 t179, .int .i64 t180] 36 (0, 0)) (bt BK182.out) hb)
                have n3_ := Aside0.mk (blk_below (g := gb191) (o := .cells #[.int .i64 0, .int .i64 0, .int .i64 0] 36 (0, 0)) (bt BK191.out) hb)
                have n4_ := Aside0.mk (below_step (bl HB.out) hb)
                clear HO_6
                clear BK176
                clear BK182
                clear BK191
                clear HB
                have HO_6 := n0_
                have BK176 := n1_
                have BK182 := n2_
                have BK191 := n3_
                have HB := n4_
                clear n0_ n1_ n2_ n3_ n4_
                (try clear hb)
                (try clear hb2)
                (try clear hk)
                (try clear hi)
                refine hK.out _ _ ⟨(blk_cell BK182.out 0).trans rfl, (blk_cell BK182.out 1).trans rfl, (blk_cell BK182.out 2).trans rfl, (blk_cell BK176.out 0).trans rfl, (blk_cell BK176.out 1).trans rfl, (blk_cell BK176.out 2).trans rfl, (blk_cell BK176.out 3).trans rfl, (blk_cell BK176.out 4).trans rfl, (blk_cell BK176.out 5).trans rfl, ((HB.out.cell (World.block_lt_of_cell? w _ hw183_0)).trans hw183_0), ((HB.out.cell (World.block_lt_of_cell? w _ hw183_1)).trans hw183_1), ((HB.out.cell (World.block_lt_of_cell? w _ hw183_2)).trans hw183_2)⟩ (fun hHeld => ?_)
                clear hK K
                refine norm_ (a' := ?_) ?_ ?_
                rotate_left
                ·show Act.put _ (some 57) _ = _
                 simp only [Act.put, List.setIfInBounds_toArray, List.set_cons_zero, List.set_cons_succ, i64_w, i32_w]
                 rfl
                refine pure_ (i := 8) (N := some 49) (v := ?_) (a' := ?_) #[true, true, true, true, true, true, true, true, true, false, false, true, false, false] rfl rfl (any_of HT_.out (by kernel_rfl)) (fun _ _ _ h => h) (Or.inl ⟨by rfl, ?_⟩) ?_ ?_
                rotate_left
                ·intro w'
                 go_simp
                 with_reducible rfl
                rotate_left
                ·simp only [Act.put, List.setIfInBounds_toArray, List.set_cons_zero, List.set_cons_succ, i64_w, i32_w]
                 rfl
                refine pure_ (i := 9) (N := some 58) (v := ?_) (a' := ?_) #[true, true, true, true, true, true, true, true, true, true, false, true, false, false] rfl rfl (any_of HT_.out (by kernel_rfl)) (fun _ _ _ h => h) (Or.inl ⟨by rfl, ?_⟩) ?_ ?_
                rotate_left
                ·intro w'
                 go_simp
                 with_reducible rfl
                rotate_left
                ·simp only [Act.put, List.setIfInBounds_toArray, List.set_cons_zero, List.set_cons_succ, i64_w, i32_w]
                 rfl
                refine pure_ (i := 10) (N := some 59) (v := ?_) (a' := ?_) #[true, true, true, true, true, true, true, true, true, true, true, true, false, false] rfl rfl (any_of HT_.out (by kernel_rfl)) (fun _ _ _ h => h) (Or.inl ⟨by rfl, ?_⟩) ?_ ?_
                rotate_left
                ·intro w'
                 go_simp
                 with_reducible rfl
                rotate_left
                ·simp only [Act.put, List.setIfInBounds_toArray, List.set_cons_zero, List.set_cons_succ, i64_w, i32_w]
                 rfl
                exact norm_ (by simp only [putAll, Act.put, List.setIfInBounds_toArray, List.set_cons_zero, List.set_cons_succ]) (hCont (gb191) _ ⟨hHeld, (Rt HO_6.out), (bt BK176.out), (bt BK182.out), (bt BK191.out), GW191.out, GE191.out, NB176_191.out, NB191_176.out, NB182_191.out, NB191_182.out, (bl HB.out)⟩)
              rintro gb191 w36 ⟨hS_, h0_, h1_, h2_, h3_, h4_, h5_, h6_, h7_, h8_, h9_, h10_⟩
              have n0_ : Aside0 (Kd.R k38 38 w36 w.heap.size (fun k_ => k_ ≠ gb176) u6 x6_1) := ⟨h0_⟩
              have n1_ : Aside0 (w36.heap[gb176]? = some (.cells #[.int .i64 ((rd_T38 l1 x7_1).f0), .int .i64 ((rd_T38 l1 x7_1).f1), .int .i64 ((rd_T38 l1 x7_1).f2.f0), .int .i64 ((rd_T38 l1 x7_1).f2.f1), .int .i64 ((rd_T38 l1 x7_1).f2.f2), .int .i64 ((rd_T38 l1 x7_1).f3)] 38 (0, 0))) := ⟨h1_⟩
              have n2_ : Aside0 (w36.heap[gb182]? = some (.cells #[.int .i64 t178, .int .i64 t179, .int .i64 t180] 36 (0, 0))) := ⟨h2_⟩
              have n3_ : Aside0 (w36.heap[gb191]? = some (.cells #[.int .i64 0, .int .i64 0, .int .i64 0] 36 (0, 0))) := ⟨h3_⟩
              have n4_ : Aside0 (w.heap.size ≤ gb191) := ⟨h4_⟩
              have n5_ : Aside0 (w.heap.size ≤ gb191) := ⟨h5_⟩
              have n6_ : Aside0 (gb176 ≠ gb191) := ⟨h6_⟩
              have n7_ : Aside0 (gb191 ≠ gb176) := ⟨h7_⟩
              have n8_ : Aside0 (gb182 ≠ gb191) := ⟨h8_⟩
              have n9_ : Aside0 (gb191 ≠ gb182) := ⟨h9_⟩
              have n10_ : Aside0 (Below w.heap.size w w36) := ⟨h10_⟩
              clear HO_6
              clear BK176
              clear BK182
              clear HB
              clear h0_ h1_ h2_ h3_ h4_ h5_ h6_ h7_ h8_ h9_ h10_
              have HO_6 := n0_
              have BK176 := n1_
              have BK182 := n2_
              have BK191 := n3_
              have GW191 := n4_
              have GE191 := n5_
              have NB176_191 := n6_
              have NB191_176 := n7_
              have NB182_191 := n8_
              have NB191_182 := n9_
              have HB := n10_
              clear n0_ n1_ n2_ n3_ n4_ n5_ n6_ n7_ n8_ n9_ n10_
              have hHeld : w36.cell? ⟨gb182, 0, none⟩ = some (.int .i64 t178) ∧ w36.cell? ⟨gb182, 1, none⟩ = some (.int .i64 t179) ∧ w36.cell? ⟨gb182, 2, none⟩ = some (.int .i64 t180) ∧ w36.cell? ⟨gb176, 0, none⟩ = some (.int .i64 ((rd_T38 l1 x7_1).f0)) ∧ w36.cell? ⟨gb176, 1, none⟩ = some (.int .i64 ((rd_T38 l1 x7_1).f1)) ∧ w36.cell? ⟨gb176, 2, none⟩ = some (.int .i64 ((rd_T38 l1 x7_1).f2.f0)) ∧ w36.cell? ⟨gb176, 3, none⟩ = some (.int .i64 ((rd_T38 l1 x7_1).f2.f1)) ∧ w36.cell? ⟨gb176, 4, none⟩ = some (.int .i64 ((rd_T38 l1 x7_1).f2.f2)) ∧ w36.cell? ⟨gb176, 5, none⟩ = some (.int .i64 ((rd_T38 l1 x7_1).f3)) ∧ w36.cell? (ad177.add ((((rd_T38 l1 x7_1).f1)).toNat * 3)) = some (.int .i64 ((rd_T36 l0 ((rd_T38 l1 x7_1).f1)).f0)) ∧ w36.cell? ⟨(ad177.add ((((rd_T38 l1 x7_1).f1)).toNat * 3)).block, (ad177.add ((((rd_T38 l1 x7_1).f1)).toNat * 3)).off + 1, none⟩ = some (.int .i64 ((rd_T36 l0 ((rd_T38 l1 x7_1).f1)).f1)) ∧ w36.cell? ⟨(ad177.add ((((rd_T38 l1 x7_1).f1)).toNat * 3)).block, (ad177.add ((((rd_T38 l1 x7_1).f1)).toNat * 3)).off + 2, none⟩ = some (.int .i64 ((rd_T36 l0 ((rd_T38 l1 x7_1).f1)).f2)) := hS_
              refine norm_ (a' := ?_) ?_ ?_
              rotate_left
              ·simp only [putAll, Act.put, List.setIfInBounds_toArray, List.set_cons_zero, List.set_cons_succ]
               rfl
              refine one_ (i := 12) (N := none) #[true, true, true, true, true, true, true, true, true, true, true, true, true, false] rfl rfl (one_of HT_.out (by kernel_rfl)) (by decide) (fun K hK => ?_)
              have hs37 : w36.cell? ⟨gb191, 0, none⟩ = some (.int .i64 0) := (blk_cell BK191.out 0).trans rfl
              have hfs37 := blk_frozen BK191.out 0
              have hns37_0 := NB176_191.out
              have hns37_1 := NB182_191.out
              have hms37_0 := NB191_176.out
              have hms37_1 := NB191_182.out
              have hs38 : w36.cell? ⟨gb191, 1, none⟩ = some (.int .i64 0) := (blk_cell BK191.out 1).trans rfl
              have hfs38 := blk_frozen BK191.out 1
              have hns38_0 := NB176_191.out
              have hns38_1 := NB182_191.out
              have hms38_0 := NB191_176.out
              have hms38_1 := NB191_182.out
              have hs39 : w36.cell? ⟨gb191, 2, none⟩ = some (.int .i64 0) := (blk_cell BK191.out 2).trans rfl
              have hfs39 := blk_frozen BK191.out 2
              have hns39_0 := NB176_191.out
              have hns39_1 := NB182_191.out
              have hms39_0 := NB191_176.out
              have hms39_1 := NB191_182.out
              refine skip_ (w1 := ?_) (by rfl) rfl ?_ ?_
              rotate_left
              ·go_simp
               rfl
              refine hK.out _ _ ⟨((cell_far (p := ⟨gb191, _, none⟩) NB182_191.out _).trans (((cell_far (p := ⟨gb191, _, none⟩) NB182_191.out _).trans (((cell_far (p := ⟨gb191, _, none⟩) NB182_191.out _).trans (hHeld.1)))))), ((cell_far (p := ⟨gb191, _, none⟩) NB182_191.out _).trans (((cell_far (p := ⟨gb191, _, none⟩) NB182_191.out _).trans (((cell_far (p := ⟨gb191, _, none⟩) NB182_191.out _).trans (hHeld.2.1)))))), ((cell_far (p := ⟨gb191, _, none⟩) NB182_191.out _).trans (((cell_far (p := ⟨gb191, _, none⟩) NB182_191.out _).trans (((cell_far (p := ⟨gb191, _, none⟩) NB182_191.out _).trans (hHeld.2.2.1)))))), ((cell_far (p := ⟨gb191, _, none⟩) NB176_191.out _).trans (((cell_far (p := ⟨gb191, _, none⟩) NB176_191.out _).trans (((cell_far (p := ⟨gb191, _, none⟩) NB176_191.out _).trans (hHeld.2.2.2.1)))))), ((cell_far (p := ⟨gb191, _, none⟩) NB176_191.out _).trans (((cell_far (p := ⟨gb191, _, none⟩) NB176_191.out _).trans (((cell_far (p := ⟨gb191, _, none⟩) NB176_191.out _).trans (hHeld.2.2.2.2.1)))))), ((cell_far (p := ⟨gb191, _, none⟩) NB176_191.out _).trans (((cell_far (p := ⟨gb191, _, none⟩) NB176_191.out _).trans (((cell_far (p := ⟨gb191, _, none⟩) NB176_191.out _).trans (hHeld.2.2.2.2.2.1)))))), ((cell_far (p := ⟨gb191, _, none⟩) NB176_191.out _).trans (((cell_far (p := ⟨gb191, _, none⟩) NB176_191.out _).trans (((cell_far (p := ⟨gb191, _, none⟩) NB176_191.out _).trans (hHeld.2.2.2.2.2.2.1)))))), ((cell_far (p := ⟨gb191, _, none⟩) NB176_191.out _).trans (((cell_far (p := ⟨gb191, _, none⟩) NB176_191.out _).trans (((cell_far (p := ⟨gb191, _, none⟩) NB176_191.out _).trans (hHeld.2.2.2.2.2.2.2.1)))))), ((cell_far (p := ⟨gb191, _, none⟩) NB176_191.out _).trans (((cell_far (p := ⟨gb191, _, none⟩) NB176_191.out _).trans (((cell_far (p := ⟨gb191, _, none⟩) NB176_191.out _).trans (hHeld.2.2.2.2.2.2.2.2.1)))))), ((cell_far (p := ⟨gb191, _, none⟩) (by first | exact Nat.ne_of_lt (Nat.lt_of_lt_of_le (by have := World.block_lt_of_cell? _ _ hw183_0; first | rwa [add_block] at this | exact this) GW191.out) | (rw [add_block]; exact Nat.ne_of_lt (Nat.lt_of_lt_of_le (by have := World.block_lt_of_cell? _ _ hw183_0; first | rwa [add_block] at this | exact this) GW191.out)) | (show (Addr.add _ _).block ≠ _; rw [add_block]; exact Nat.ne_of_lt (Nat.lt_of_lt_of_le (by have := World.block_lt_of_cell? _ _ hw183_0; first | rwa [add_block] at this | exact this) GW191.out)) | (dsimp only; exact Nat.ne_of_lt (Nat.lt_of_lt_of_le (by have := World.block_lt_of_cell? _ _ hw183_0; first | rwa [add_block] at this | exact this) GW191.out))) _).trans (((cell_far (p := ⟨gb191, _, none⟩) (by first | exact Nat.ne_of_lt (Nat.lt_of_lt_of_le (by have := World.block_lt_of_cell? _ _ hw183_0; first | rwa [add_block] at this | exact this) GW191.out) | (rw [add_block]; exact Nat.ne_of_lt (Nat.lt_of_lt_of_le (by have := World.block_lt_of_cell? _ _ hw183_0; first | rwa [add_block] at this | exact this) GW191.out)) | (show (Addr.add _ _).block ≠ _; rw [add_block]; exact Nat.ne_of_lt (Nat.lt_of_lt_of_le (by have := World.block_lt_of_cell? _ _ hw183_0; first | rwa [add_block] at this | exact this) GW191.out)) | (dsimp only; exact Nat.ne_of_lt (Nat.lt_of_lt_of_le (by have := World.block_lt_of_cell? _ _ hw183_0; first | rwa [add_block] at this | exact this) GW191.out))) _).trans (((cell_far (p := ⟨gb191, _, none⟩) (by first | exact Nat.ne_of_lt (Nat.lt_of_lt_of_le (by have := World.block_lt_of_cell? _ _ hw183_0; first | rwa [add_block] at this | exact this) GW191.out) | (rw [add_block]; exact Nat.ne_of_lt (Nat.lt_of_lt_of_le (by have := World.block_lt_of_cell? _ _ hw183_0; first | rwa [add_block] at this | exact this) GW191.out)) | (show (Addr.add _ _).block ≠ _; rw [add_block]; exact Nat.ne_of_lt (Nat.lt_of_lt_of_le (by have := World.block_lt_of_cell? _ _ hw183_0; first | rwa [add_block] at this | exact this) GW191.out)) | (dsimp only; exact Nat.ne_of_lt (Nat.lt_of_lt_of_le (by have := World.block_lt_of_cell? _ _ hw183_0; first | rwa [add_block] at this | exact this) GW191.out))) _).trans (hHeld.2.2.2.2.2.2.2.2.2.1)))))), ((cell_far (p := ⟨gb191, _, none⟩) (by first | exact Nat.ne_of_lt (Nat.lt_of_lt_of_le (by have := World.block_lt_of_cell? _ _ hw183_1; first | rwa [add_block] at this | exact this) GW191.out) | (rw [add_block]; exact Nat.ne_of_lt (Nat.lt_of_lt_of_le (by have := World.block_lt_of_cell? _ _ hw183_1; first | rwa [add_block] at this | exact this) GW191.out)) | (show (Addr.add _ _).block ≠ _; rw [add_block]; exact Nat.ne_of_lt (Nat.lt_of_lt_of_le (by have := World.block_lt_of_cell? _ _ hw183_1; first | rwa [add_block] at this | exact this) GW191.out)) | (dsimp only; exact Nat.ne_of_lt (Nat.lt_of_lt_of_le (by have := World.block_lt_of_cell? _ _ hw183_1; first | rwa [add_block] at this | exact this) GW191.out))) _).trans (((cell_far (p := ⟨gb191, _, none⟩) (by first | exact Nat.ne_of_lt (Nat.lt_of_lt_of_le (by have := World.block_lt_of_cell? _ _ hw183_1; first | rwa [add_block] at this | exact this) GW191.out) | (rw [add_block]; exact Nat.ne_of_lt (Nat.lt_of_lt_of_le (by have := World.block_lt_of_cell? _ _ hw183_1; first | rwa [add_block] at this | exact this) GW191.out)) | (show (Addr.add _ _).block ≠ _; rw [add_block]; exact Nat.ne_of_lt (Nat.lt_of_lt_of_le (by have := World.block_lt_of_cell? _ _ hw183_1; first | rwa [add_block] at this | exact this) GW191.out)) | (dsimp only; exact Nat.ne_of_lt (Nat.lt_of_lt_of_le (by have := World.block_lt_of_cell? _ _ hw183_1; first | rwa [add_block] at this | exact this) GW191.out))) _).trans (((cell_far (p := ⟨gb191, _, none⟩) (by first | exact Nat.ne_of_lt (Nat.lt_of_lt_of_le (by have := World.block_lt_of_cell? _ _ hw183_1; first | rwa [add_block] at this | exact this) GW191.out) | (rw [add_block]; exact Nat.ne_of_lt (Nat.lt_of_lt_of_le (by have := World.block_lt_of_cell? _ _ hw183_1; first | rwa [add_block] at this | exact this) GW191.out)) | (show (Addr.add _ _).block ≠ _; rw [add_block]; exact Nat.ne_of_lt (Nat.lt_of_lt_of_le (by have := World.block_lt_of_cell? _ _ hw183_1; first | rwa [add_block] at this | exact this) GW191.out)) | (dsimp only; exact Nat.ne_of_lt (Nat.lt_of_lt_of_le (by have := World.block_lt_of_cell? _ _ hw183_1; first | rwa [add_block] at this | exact this) GW191.out))) _).trans (hHeld.2.2.2.2.2.2.2.2.2.2.1)))))), ((cell_far (p := ⟨gb191, _, none⟩) (by first | exact Nat.ne_of_lt (Nat.lt_of_lt_of_le (by have := World.block_lt_of_cell? _ _ hw183_2; first | rwa [add_block] at this | exact this) GW191.out) | (rw [add_block]; exact Nat.ne_of_lt (Nat.lt_of_lt_of_le (by have := World.block_lt_of_cell? _ _ hw183_2; first | rwa [add_block] at this | exact this) GW191.out)) | (show (Addr.add _ _).block ≠ _; rw [add_block]; exact Nat.ne_of_lt (Nat.lt_of_lt_of_le (by have := World.block_lt_of_cell? _ _ hw183_2; first | rwa [add_block] at this | exact this) GW191.out)) | (dsimp only; exact Nat.ne_of_lt (Nat.lt_of_lt_of_le (by have := World.block_lt_of_cell? _ _ hw183_2; first | rwa [add_block] at this | exact this) GW191.out))) _).trans (((cell_far (p := ⟨gb191, _, none⟩) (by first | exact Nat.ne_of_lt (Nat.lt_of_lt_of_le (by have := World.block_lt_of_cell? _ _ hw183_2; first | rwa [add_block] at this | exact this) GW191.out) | (rw [add_block]; exact Nat.ne_of_lt (Nat.lt_of_lt_of_le (by have := World.block_lt_of_cell? _ _ hw183_2; first | rwa [add_block] at this | exact this) GW191.out)) | (show (Addr.add _ _).block ≠ _; rw [add_block]; exact Nat.ne_of_lt (Nat.lt_of_lt_of_le (by have := World.block_lt_of_cell? _ _ hw183_2; first | rwa [add_block] at this | exact this) GW191.out)) | (dsimp only; exact Nat.ne_of_lt (Nat.lt_of_lt_of_le (by have := World.block_lt_of_cell? _ _ hw183_2; first | rwa [add_block] at this | exact this) GW191.out))) _).trans (((cell_far (p := ⟨gb191, _, none⟩) (by first | exact Nat.ne_of_lt (Nat.lt_of_lt_of_le (by have := World.block_lt_of_cell? _ _ hw183_2; first | rwa [add_block] at this | exact this) GW191.out) | (rw [add_block]; exact Nat.ne_of_lt (Nat.lt_of_lt_of_le (by have := World.block_lt_of_cell? _ _ hw183_2; first | rwa [add_block] at this | exact this) GW191.out)) | (show (Addr.add _ _).block ≠ _; rw [add_block]; exact Nat.ne_of_lt (Nat.lt_of_lt_of_le (by have := World.block_lt_of_cell? _ _ hw183_2; first | rwa [add_block] at this | exact this) GW191.out)) | (dsimp only; exact Nat.ne_of_lt (Nat.lt_of_lt_of_le (by have := World.block_lt_of_cell? _ _ hw183_2; first | rwa [add_block] at this | exact this) GW191.out))) _).trans (hHeld.2.2.2.2.2.2.2.2.2.2.2))))))⟩ (fun hHeld => ?_)
              clear hK K
              refine pure_ (i := 13) (N := some 10) (v := ?_) (a' := ?_) #[true, true, true, true, true, true, true, true, true, true, true, true, true, true] rfl rfl (any_of HT_.out (by kernel_rfl)) (fun _ _ _ h => h) (Or.inl ⟨by rfl, ?_⟩) ?_ ?_
              rotate_left
              ·intro w'
               go_simp
               with_reducible rfl
              rotate_left
              ·simp only [Act.put, List.setIfInBounds_toArray, List.set_cons_zero, List.set_cons_succ, i64_w, i32_w]
               rfl
              refine done_ (done_of HT_.out (by kernel_rfl)) ?_
              have hnb40 := NB176_182.out
              have hnc40 := NB182_176.out
              have hnb41 := NB176_191.out
              have hnc41 := NB191_176.out
              have hcz42_0 : w36.cell? ⟨gb176, 0, none⟩ = some (.int .i64 ((rd_T38 l1 x7_1).f0)) := (blk_cell BK176.out 0).trans rfl
              have hcz42_1 : w36.cell? ⟨gb176, 1, none⟩ = some (.int .i64 ((rd_T38 l1 x7_1).f1)) := (blk_cell BK176.out 1).trans rfl
              have hcz42_2 : w36.cell? ⟨gb176, 2, none⟩ = some (.int .i64 ((rd_T38 l1 x7_1).f2.f0)) := (blk_cell BK176.out 2).trans rfl
              have hcz42_3 : w36.cell? ⟨gb176, 3, none⟩ = some (.int .i64 ((rd_T38 l1 x7_1).f2.f1)) := (blk_cell BK176.out 3).trans rfl
              have hcz42_4 : w36.cell? ⟨gb176, 4, none⟩ = some (.int .i64 ((rd_T38 l1 x7_1).f2.f2)) := (blk_cell BK176.out 4).trans rfl
              have hcz42_5 : w36.cell? ⟨gb176, 5, none⟩ = some (.int .i64 ((rd_T38 l1 x7_1).f3)) := (blk_cell BK176.out 5).trans rfl
              have hfz42_0 := blk_frozen BK176.out 0
              have hfz42_1 := blk_frozen BK176.out 1
              have hfz42_2 := blk_frozen BK176.out 2
              have hfz42_3 := blk_frozen BK176.out 3
              have hfz42_4 := blk_frozen BK176.out 4
              have hfz42_5 := blk_frozen BK176.out 5
              have hnb43 := NB191_182.out
              have hnc43 := NB182_191.out
              obtain ⟨hcz44_0, hcz44_1, hcz44_2, hfz44_0, hfz44_1, hfz44_2⟩ := cz3 BK191.out
              try go_wp2_with (first | ((with_reducible refine gate_builtin (b := .append) (xs := #[.tmp 62, .tmp 71]) rfl ?_); at_builtin; refine Kd.R_append k38 (w0 := w) w.heap.size rfl (.tmp 62) (.tmp 71) 23 38 (.agg #[(.int .i64 0), (.int .i64 0), (.int .i64 0), (.int .i64 0), (.int .i64 0), (.int .i64 0)]) 48 rfl Try.underlying23 info38 rfl (by decide) (by omega) u6 x6_1 (⟨(rd_T38 l1 x7_1).f0, (rd_T38 l1 x7_1).f1, (⟨t187, t188, t189⟩ : S36), (rd_T38 l1 x7_1).f3⟩ : S38) [.int .i64 ((rd_T38 l1 x7_1).f0), .int .i64 ((rd_T38 l1 x7_1).f1), .int .i64 t187, .int .i64 t188, .int .i64 t189, .int .i64 ((rd_T38 l1 x7_1).f3)] (fun k_ => k_ ≠ gb176) (fun _ => False) rfl (by first | (go_simp; done) | (go_simp; rfl)) ?aP (fun _ hk => hk.elim) ?aF ?aO ?aB ?aS ?aL ?_; (case aP => exact k38_mkM _ _ _ (⟨(rd_T38 l1 x7_1).f0, (rd_T38 l1 x7_1).f1, (⟨t187, t188, t189⟩ : S36), (rd_T38 l1 x7_1).f3⟩ : S38)); (case aB => exact (bl HB.out)); (case aF => exact (fun k_ hk => Kd.freshB (g := gb176) (o := .cells #[.int .i64 ((rd_T38 l1 x7_1).f0), .int .i64 ((rd_T38 l1 x7_1).f1), .int .i64 ((rd_T38 l1 x7_1).f2.f0), .int .i64 ((rd_T38 l1 x7_1).f2.f1), .int .i64 ((rd_T38 l1 x7_1).f2.f2), .int .i64 ((rd_T38 l1 x7_1).f3)] 38 (0, 0)) (by (with_reducible repeat (first | refine blk_drewN ?_ _ | refine blk_drew ?_ | refine blk_alloc ?_ _ | refine blk_far ?_ NB176_191.out _)); exact BK176.out) k_ hk)); (case aO => exact (by (with_reducible repeat (first | apply Kd.R_alloc | apply Kd.R_drewN | apply Kd.R_drew)); exact Kd.R_mono (Kd.R_far (p := ⟨gb191, 2, none⟩) (Kd.R_far (p := ⟨gb191, 1, none⟩) (Kd.R_far (p := ⟨gb191, 0, none⟩) (Kd.R_types HO_6.out BK191.out (by decide)) (fun _ hk => hk.2) (.int .i64 t187)) (fun _ hk => hk.2) (.int .i64 t188)) (fun _ hk => hk.2) (.int .i64 t189)) (fun _ hk => hk.1))); (case aS => exact (below_size (bl HB.out))); (case aL => have := LMc20.out; omega); intro v193 w45 ho hb hg hat; rw [← Ny192.out] at ho; have n0_ := Aside0.mk (blk_grown (g := gb176) (o := .cells #[.int .i64 ((rd_T38 l1 x7_1).f0), .int .i64 ((rd_T38 l1 x7_1).f1), .int .i64 ((rd_T38 l1 x7_1).f2.f0), .int .i64 ((rd_T38 l1 x7_1).f2.f1), .int .i64 ((rd_T38 l1 x7_1).f2.f2), .int .i64 ((rd_T38 l1 x7_1).f3)] 38 (0, 0)) (by (with_reducible repeat (first | refine blk_drewN ?_ _ | refine blk_drew ?_ | refine blk_alloc ?_ _ | refine blk_far ?_ NB176_191.out _)); exact BK176.out) hg (Kd.R_away HO_6.out (fun _ hk => hk))); have n1_ := Aside0.mk (blk_grown (g := gb182) (o := .cells #[.int .i64 t178, .int .i64 t179, .int .i64 t180] 36 (0, 0)) (by (with_reducible repeat (first | refine blk_drewN ?_ _ | refine blk_drew ?_ | refine blk_alloc ?_ _ | refine blk_far ?_ NB182_191.out _)); exact BK182.out) hg (Kd.R_ne HO_6.out BK182.out (by decide))); have n2_ := Aside0.mk (blk_grown (g := gb191) (o := .cells #[.int .i64 t187, .int .i64 t188, .int .i64 t189] 36 (0, 0)) (by (with_reducible repeat (first | refine blk_drewN ?_ _ | refine blk_drew ?_ | refine blk_alloc ?_ _)); refine blk_put (cs := #[.int .i64 t187, .int .i64 t188, .int .i64 0]) ?_ 2 _ rfl; (with_reducible repeat (first | refine blk_drewN ?_ _ | refine blk_drew ?_ | refine blk_alloc ?_ _)); refine blk_put (cs := #[.int .i64 t187, .int .i64 0, .int .i64 0]) ?_ 1 _ rfl; (with_reducible repeat (first | refine blk_drewN ?_ _ | refine blk_drew ?_ | refine blk_alloc ?_ _)); refine blk_put (cs := #[.int .i64 0, .int .i64 0, .int .i64 0]) ?_ 0 _ rfl; (with_reducible repeat (first | refine blk_drewN ?_ _ | refine blk_drew ?_ | refine blk_alloc ?_ _)); exact BK191.out) hg (Kd.R_ne HO_6.out BK191.out (by decide))); have n3_ := Aside0.mk (hb); have n4_ := Aside0.mk (ho); clear BK176; clear BK182; clear BK191; clear HB; clear HO_6; have BK176 := n0_; have BK182 := n1_; have BK191 := n2_; have HB := n3_; have HO194 := n4_; clear n0_ n1_ n2_ n3_ n4_; clear ho hb hg hat))
              go_roundg k1
              case measure => have := HK1.out; omega
              case rel => exact ⟨(y192), (wrap64 (x7_1 + 1)), (by first | rfl | (simp; done) | (simp [*]; done)), H', ⟨by have := HK1.out; omega⟩, ⟨by (with_reducible repeat (first | apply Kd.R_alloc | apply Kd.R_drewN | apply Kd.R_drew)); exact Kd.R_mono HO194.out (fun _ hk => trivial)⟩, ⟨by repeat (first | (with_reducible first | exact HB.out | apply below_alloc | apply pw_below_drewN | apply below_drew1 | refine below_set ?_ GE176.out | refine below_set ?_ GE182.out | refine below_set ?_ GE191.out) | exact HB.out)⟩⟩
             ·rw [if_neg c20] at H
              exact absurd H (by simp)
            ·rw [if_neg c19] at H
             have c19b0 : (t190 == 0) = false := beq_eq_false_iff_ne.mpr c19
             have c19b1 : (t190 != 0) = true := bne_iff_ne.mpr c19
             simp only [Option.some.injEq, Prod.mk.injEq] at H
             obtain ⟨rfl, rfl⟩ := H
             have p175 : 0 ≤ (x7_1 : Int) := of_decide_eq_true (by first | (with_reducible assumption) | assumption)
             have q175 : x7_1 < (l1.length : Int) := of_decide_eq_true (by first | (with_reducible assumption) | assumption)
             obtain ⟨ad175, e175, hx175_0, hx175_1, hx175_2, hx175_3, hx175_4, hx175_5⟩ := at_T38 HR1.out x7_1 p175 q175
             cases e175
             replace hx175_0 := (HB.out.cell (World.block_lt_of_cell? w _ hx175_0)).trans hx175_0
             replace hx175_1 := (HB.out.cell (World.block_lt_of_cell? w _ hx175_1)).trans hx175_1
             replace hx175_2 := (HB.out.cell (World.block_lt_of_cell? w _ hx175_2)).trans hx175_2
             replace hx175_3 := (HB.out.cell (World.block_lt_of_cell? w _ hx175_3)).trans hx175_3
             replace hx175_4 := (HB.out.cell (World.block_lt_of_cell? w _ hx175_4)).trans hx175_4
             replace hx175_5 := (HB.out.cell (World.block_lt_of_cell? w _ hx175_5)).trans hx175_5
             replace p175 := eq_true p175
             replace q175 := eq_true q175
             try go_wp2_with (first | ((with_reducible refine gate_dst (N := 8) rfl ?_); refine box_event ?hg (N := 8) ?hd (cs := #[.int .i64 0, .int .i64 0, .int .i64 0, .int .i64 0, .int .i64 0, .int .i64 0]) (t := 38) ?hr ?_; (case hd => rfl); (case hg => rfl); (case hr => first | (go_simp; done) | (go_simp; rfl)); intro gb176 hg w46 hbox hb; have n0_ := Aside0.mk (Kd.R_below (Kd.R_elderB (Rt HO_6.out) gb176 (Nat.le_of_eq hg.symm)) hb); have n1_ := Aside0.mk (below_step (bl HB.out) hb); have n2_ := Aside0.mk (hbox); have n3_ := Aside0.mk ((by rw [hg]; exact (below_size (bl HB.out)) : w.heap.size ≤ gb176)); have n4_ := Aside0.mk ((by rw [hg]; exact (below_size (bl HB.out)) : w.heap.size ≤ gb176)); clear HO_6; clear HB; have HO_6 := n0_; have HB := n1_; have BK176 := n2_; have GW176 := n3_; have GE176 := n4_; clear n0_ n1_ n2_ n3_ n4_; clear hb hbox hg; have hcz47_0 : w46.cell? ⟨gb176, 0, none⟩ = some (.int .i64 0) := (blk_cell BK176.out 0).trans rfl; have hcz47_1 : w46.cell? ⟨gb176, 1, none⟩ = some (.int .i64 0) := (blk_cell BK176.out 1).trans rfl; have hcz47_2 : w46.cell? ⟨gb176, 2, none⟩ = some (.int .i64 0) := (blk_cell BK176.out 2).trans rfl; have hcz47_3 : w46.cell? ⟨gb176, 3, none⟩ = some (.int .i64 0) := (blk_cell BK176.out 3).trans rfl; have hcz47_4 : w46.cell? ⟨gb176, 4, none⟩ = some (.int .i64 0) := (blk_cell BK176.out 4).trans rfl; have hcz47_5 : w46.cell? ⟨gb176, 5, none⟩ = some (.int .i64 0) := (blk_cell BK176.out 5).trans rfl; have hfz47_0 := blk_frozen BK176.out 0; have hfz47_1 := blk_frozen BK176.out 1; have hfz47_2 := blk_frozen BK176.out 2; have hfz47_3 := blk_frozen BK176.out 3; have hfz47_4 := blk_frozen BK176.out 4; have hfz47_5 := blk_frozen BK176.out 5))
             have n0_ : Aside0 (Kd.R k38 38 ((((((w46.setCell ⟨gb176, 0, none⟩ (.int .i64 ((rd_T38 l1 x7_1).f0))).setCell ⟨gb176, 1, none⟩ (.int .i64 ((rd_T38 l1 x7_1).f1))).setCell ⟨gb176, 2, none⟩ (.int .i64 ((rd_T38 l1 x7_1).f2.f0))).setCell ⟨gb176, 3, none⟩ (.int .i64 ((rd_T38 l1 x7_1).f2.f1))).setCell ⟨gb176, 4, none⟩ (.int .i64 ((rd_T38 l1 x7_1).f2.f2))).setCell ⟨gb176, 5, none⟩ (.int .i64 ((rd_T38 l1 x7_1).f3))) w.heap.size (fun k_ => k_ ≠ gb176) u6 x6_1) := ⟨by (with_reducible repeat (first | apply Kd.R_alloc | apply Kd.R_drewN | apply Kd.R_drew)); exact Kd.R_mono (Kd.R_far (p := ⟨gb176, 5, none⟩) (Kd.R_far (p := ⟨gb176, 4, none⟩) (Kd.R_far (p := ⟨gb176, 3, none⟩) (Kd.R_far (p := ⟨gb176, 2, none⟩) (Kd.R_far (p := ⟨gb176, 1, none⟩) (Kd.R_far (p := ⟨gb176, 0, none⟩) (Kd.R_mono HO_6.out (fun k_ hk => (⟨hk, hk.2⟩ : _ ∧ k_ ≠ gb176))) (fun _ hk => hk.2) (.int .i64 ((rd_T38 l1 x7_1).f0))) (fun _ hk => hk.2) (.int .i64 ((rd_T38 l1 x7_1).f1))) (fun _ hk => hk.2) (.int .i64 ((rd_T38 l1 x7_1).f2.f0))) (fun _ hk => hk.2) (.int .i64 ((rd_T38 l1 x7_1).f2.f1))) (fun _ hk => hk.2) (.int .i64 ((rd_T38 l1 x7_1).f2.f2))) (fun _ hk => hk.2) (.int .i64 ((rd_T38 l1 x7_1).f3))) (fun _ hk => hk.1.2)⟩
             have n1_ : Aside0 (((((((w46.setCell ⟨gb176, 0, none⟩ (.int .i64 ((rd_T38 l1 x7_1).f0))).setCell ⟨gb176, 1, none⟩ (.int .i64 ((rd_T38 l1 x7_1).f1))).setCell ⟨gb176, 2, none⟩ (.int .i64 ((rd_T38 l1 x7_1).f2.f0))).setCell ⟨gb176, 3, none⟩ (.int .i64 ((rd_T38 l1 x7_1).f2.f1))).setCell ⟨gb176, 4, none⟩ (.int .i64 ((rd_T38 l1 x7_1).f2.f2))).setCell ⟨gb176, 5, none⟩ (.int .i64 ((rd_T38 l1 x7_1).f3))).heap[gb176]? = some (.cells #[.int .i64 ((rd_T38 l1 x7_1).f0), .int .i64 ((rd_T38 l1 x7_1).f1), .int .i64 ((rd_T38 l1 x7_1).f2.f0), .int .i64 ((rd_T38 l1 x7_1).f2.f1), .int .i64 ((rd_T38 l1 x7_1).f2.f2), .int .i64 ((rd_T38 l1 x7_1).f3)] 38 (0, 0))) := ⟨by (with_reducible repeat (first | refine blk_drewN ?_ _ | refine blk_drew ?_ | refine blk_alloc ?_ _)); refine blk_put (cs := #[.int .i64 ((rd_T38 l1 x7_1).f0), .int .i64 ((rd_T38 l1 x7_1).f1), .int .i64 ((rd_T38 l1 x7_1).f2.f0), .int .i64 ((rd_T38 l1 x7_1).f2.f1), .int .i64 ((rd_T38 l1 x7_1).f2.f2), .int .i64 0]) ?_ 5 _ rfl; (with_reducible repeat (first | refine blk_drewN ?_ _ | refine blk_drew ?_ | refine blk_alloc ?_ _)); refine blk_put (cs := #[.int .i64 ((rd_T38 l1 x7_1).f0), .int .i64 ((rd_T38 l1 x7_1).f1), .int .i64 ((rd_T38 l1 x7_1).f2.f0), .int .i64 ((rd_T38 l1 x7_1).f2.f1), .int .i64 0, .int .i64 0]) ?_ 4 _ rfl; (with_reducible repeat (first | refine blk_drewN ?_ _ | refine blk_drew ?_ | refine blk_alloc ?_ _)); refine blk_put (cs := #[.int .i64 ((rd_T38 l1 x7_1).f0), .int .i64 ((rd_T38 l1 x7_1).f1), .int .i64 ((rd_T38 l1 x7_1).f2.f0), .int .i64 0, .int .i64 0, .int .i64 0]) ?_ 3 _ rfl; (with_reducible repeat (first | refine blk_drewN ?_ _ | refine blk_drew ?_ | refine blk_alloc ?_ _)); refine blk_put (cs := #[.int .i64 ((rd_T38 l1 x7_1).f0), .int .i64 ((rd_T38 l1 x7_1).f1), .int .i64 0, .int .i64 0, .int .i64 0, .int .i64 0]) ?_ 2 _ rfl; (with_reducible repeat (first | refine blk_drewN ?_ _ | refine blk_drew ?_ | refine blk_alloc ?_ _)); refine blk_put (cs := #[.int .i64 ((rd_T38 l1 x7_1).f0), .int .i64 0, .int .i64 0, .int .i64 0, .int .i64 0, .int .i64 0]) ?_ 1 _ rfl; (with_reducible repeat (first | refine blk_drewN ?_ _ | refine blk_drew ?_ | refine blk_alloc ?_ _)); refine blk_put (cs := #[.int .i64 0, .int .i64 0, .int .i64 0, .int .i64 0, .int .i64 0, .int .i64 0]) ?_ 0 _ rfl; (with_reducible repeat (first | refine blk_drewN ?_ _ | refine blk_drew ?_ | refine blk_alloc ?_ _)); exact BK176.out⟩
             have n2_ : Aside0 (Below w.heap.size w ((((((w46.setCell ⟨gb176, 0, none⟩ (.int .i64 ((rd_T38 l1 x7_1).f0))).setCell ⟨gb176, 1, none⟩ (.int .i64 ((rd_T38 l1 x7_1).f1))).setCell ⟨gb176, 2, none⟩ (.int .i64 ((rd_T38 l1 x7_1).f2.f0))).setCell ⟨gb176, 3, none⟩ (.int .i64 ((rd_T38 l1 x7_1).f2.f1))).setCell ⟨gb176, 4, none⟩ (.int .i64 ((rd_T38 l1 x7_1).f2.f2))).setCell ⟨gb176, 5, none⟩ (.int .i64 ((rd_T38 l1 x7_1).f3)))) := ⟨by repeat (first | (with_reducible first | exact HB.out | apply below_alloc | apply pw_below_drewN | apply below_drew1 | refine below_set ?_ GE176.out) | exact HB.out)⟩
             (try clear HO_6)
             (try clear BK176)
             (try clear HB)
             generalize ((((((w46.setCell ⟨gb176, 0, none⟩ (.int .i64 ((rd_T38 l1 x7_1).f0))).setCell ⟨gb176, 1, none⟩ (.int .i64 ((rd_T38 l1 x7_1).f1))).setCell ⟨gb176, 2, none⟩ (.int .i64 ((rd_T38 l1 x7_1).f2.f0))).setCell ⟨gb176, 3, none⟩ (.int .i64 ((rd_T38 l1 x7_1).f2.f1))).setCell ⟨gb176, 4, none⟩ (.int .i64 ((rd_T38 l1 x7_1).f2.f2))).setCell ⟨gb176, 5, none⟩ (.int .i64 ((rd_T38 l1 x7_1).f3))) = w48 at n0_ n1_ n2_ ⊢
             have HO_6 := n0_
             have BK176 := n1_
             have HB := n2_
             clear n0_ n1_ n2_
             have n0_ := Aside0.mk (Kd.R_drew HO_6.out)
             have n1_ := Aside0.mk (blk_drew BK176.out)
             have n2_ := Aside0.mk (below_drew1 HB.out)
             clear HO_6
             clear BK176
             clear HB
             have HO_6 := n0_
             have BK176 := n1_
             have HB := n2_
             clear n0_ n1_ n2_
             have p177 : 0 ≤ (((rd_T38 l1 x7_1).f0) : Int) := of_decide_eq_true (by first | (with_reducible assumption) | assumption)
             have q177 : ((rd_T38 l1 x7_1).f0) < (l0.length : Int) := of_decide_eq_true (by first | (with_reducible assumption) | assumption)
             obtain ⟨ad177, e177, hx177_0, hx177_1, hx177_2⟩ := at_T36 HR0.out ((rd_T38 l1 x7_1).f0) p177 q177
             have hw177_2 := hx177_2
             have hw177_1 := hx177_1
             have hw177_0 := hx177_0
             cases e177
             replace hx177_0 := (HB.out.cell (World.block_lt_of_cell? w _ hx177_0)).trans hx177_0
             replace hx177_1 := (HB.out.cell (World.block_lt_of_cell? w _ hx177_1)).trans hx177_1
             replace hx177_2 := (HB.out.cell (World.block_lt_of_cell? w _ hx177_2)).trans hx177_2
             replace p177 := eq_true p177
             replace q177 := eq_true q177
             refine start_ (n := 14) (S := fun w' => w'.cell? ⟨gb176, 0, none⟩ = some (.int .i64 ((rd_T38 l1 x7_1).f0)) ∧ w'.cell? ⟨gb176, 1, none⟩ = some (.int .i64 ((rd_T38 l1 x7_1).f1)) ∧ w'.cell? ⟨gb176, 2, none⟩ = some (.int .i64 ((rd_T38 l1 x7_1).f2.f0)) ∧ w'.cell? ⟨gb176, 3, none⟩ = some (.int .i64 ((rd_T38 l1 x7_1).f2.f1)) ∧ w'.cell? ⟨gb176, 4, none⟩ = some (.int .i64 ((rd_T38 l1 x7_1).f2.f2)) ∧ w'.cell? ⟨gb176, 5, none⟩ = some (.int .i64 ((rd_T38 l1 x7_1).f3)) ∧ w'.cell? (ad177.add ((((rd_T38 l1 x7_1).f0)).toNat * 3)) = some (.int .i64 ((rd_T36 l0 ((rd_T38 l1 x7_1).f0)).f0)) ∧ w'.cell? ⟨(ad177.add ((((rd_T38 l1 x7_1).f0)).toNat * 3)).block, (ad177.add ((((rd_T38 l1 x7_1).f0)).toNat * 3)).off + 1, none⟩ = some (.int .i64 ((rd_T36 l0 ((rd_T38 l1 x7_1).f0)).f1)) ∧ w'.cell? ⟨(ad177.add ((((rd_T38 l1 x7_1).f0)).toNat * 3)).block, (ad177.add ((((rd_T38 l1 x7_1).f0)).toNat * 3)).off + 2, none⟩ = some (.int .i64 ((rd_T36 l0 ((rd_T38 l1 x7_1).f0)).f2))) (ds := []) #[false, false, false, false, false, false, false, false, false, false, false, false, false, false] (by kernel_rfl) rfl rfl ⟨(blk_cell BK176.out 0).trans rfl, (blk_cell BK176.out 1).trans rfl, (blk_cell BK176.out 2).trans rfl, (blk_cell BK176.out 3).trans rfl, (blk_cell BK176.out 4).trans rfl, (blk_cell BK176.out 5).trans rfl, ((HB.out.cell (World.block_lt_of_cell? w _ hw177_0)).trans hw177_0), ((HB.out.cell (World.block_lt_of_cell? w _ hw177_1)).trans hw177_1), ((HB.out.cell (World.block_lt_of_cell? w _ hw177_2)).trans hw177_2)⟩ (fun hHeld => ?_); refine with_tabW fringeref26_Act.tab10 fringeref26_Act.bits10 (fun HT_ HW_ => ?_)
             generalize w48.drew = w49 at HO_6 BK176 HB hx177_0 hx177_1 hx177_2 hHeld ⊢
             refine pure_ (i := 0) (N := some 37) (v := ?_) (a' := ?_) #[true, false, false, false, false, false, false, false, false, false, false, false, false, false] rfl rfl (any_of HT_.out (by kernel_rfl)) (fun _ _ _ h => h) (Or.inl ⟨by rfl, ?_⟩) ?_ ?_
             rotate_left
             ·intro w'
              go_simp
              with_reducible rfl
             rotate_left
             ·simp only [Act.put, List.setIfInBounds_toArray, List.set_cons_zero, List.set_cons_succ, i64_w, i32_w]
              rfl
             refine pure_ (i := 1) (N := some 38) (v := ?_) (a' := ?_) #[true, true, false, false, false, false, false, false, false, false, false, false, false, false] rfl rfl (any_of HT_.out (by kernel_rfl)) (fun _ _ _ h => h) (Or.inl ⟨by rfl, ?_⟩) ?_ ?_
             rotate_left
             ·intro w'
              go_simp
              with_reducible rfl
             rotate_left
             ·simp only [Act.put, List.setIfInBounds_toArray, List.set_cons_zero, List.set_cons_succ, i64_w, i32_w]
              rfl
             refine pure_ (i := 5) (N := some 42) (v := ?_) (a' := ?_) #[true, true, false, false, false, true, false, false, false, false, false, false, false, false] rfl rfl (any_of HT_.out (by kernel_rfl)) (fun _ _ _ h => h) (Or.inl ⟨by rfl, ?_⟩) ?_ ?_
             rotate_left
             ·intro w'
              go_simp
              with_reducible rfl
             rotate_left
             ·simp only [Act.put, List.setIfInBounds_toArray, List.set_cons_zero, List.set_cons_succ, i64_w, i32_w]
              rfl
             refine take_ (i := 2) (N := some 39) (v := ?_) (a' := ?_) #[true, true, true, false, false, true, false, false, false, false, false, false, false, false] rfl rfl (take_ofW HT_.out HW_.out (by kernel_rfl)) (fun _ _ _ h => h) (Or.inl ⟨by rfl, ?_⟩) hHeld ?_ ?_
             rotate_left
             ·rintro w' ⟨s0, s1, s2, s3, s4, s5, s6, s7, s8⟩
              go_simp
              with_reducible rfl
             rotate_left
             ·simp only [Act.put, List.setIfInBounds_toArray, List.set_cons_zero, List.set_cons_succ, i64_w, i32_w]
              rfl
             refine pure_ (i := 3) (N := some 40) (v := ?_) (a' := ?_) #[true, true, true, true, false, true, false, false, false, false, false, false, false, false] rfl rfl (any_of HT_.out (by kernel_rfl)) (fun _ _ _ h => h) (Or.inl ⟨by rfl, ?_⟩) ?_ ?_
             rotate_left
             ·intro w'
              go_simp
              with_reducible rfl
             rotate_left
             ·simp only [Act.put, List.setIfInBounds_toArray, List.set_cons_zero, List.set_cons_succ, i64_w, i32_w]
              rfl
             refine take_ (i := 4) (N := some 41) (v := ?_) (a' := ?_) #[true, true, true, true, true, true, false, false, false, false, false, false, false, false] rfl rfl (take_ofW HT_.out HW_.out (by kernel_rfl)) (fun _ _ _ h => h) (Or.inl ⟨by rfl, ?_⟩) hHeld ?_ ?_
             rotate_left
             ·rintro w' ⟨s0, s1, s2, s3, s4, s5, s6, s7, s8⟩
              go_simp
              with_reducible rfl
             rotate_left
             ·simp only [Act.put, List.setIfInBounds_toArray, List.set_cons_zero, List.set_cons_succ, i64_w, i32_w]
              rfl
             refine take_ (i := 6) (N := some 43) (v := ?_) (a' := ?_) #[true, true, true, true, true, true, true, false, false, false, false, false, false, false] rfl rfl (take_ofW HT_.out HW_.out (by kernel_rfl)) (fun _ _ _ h => h) (Or.inl ⟨by rfl, ?_⟩) hHeld ?_ ?_
             rotate_left
             ·rintro w' ⟨s0, s1, s2, s3, s4, s5, s6, s7, s8⟩
              go_simp
              with_reducible rfl
             rotate_left
             ·simp only [Act.put, List.setIfInBounds_toArray, List.set_cons_zero, List.set_cons_succ, i64_w, i32_w]
              rfl
             refine join_ (σ := Nat) 2 #[true, true, true, true, true, true, true, true, true, true, true, true, false, false] (fun s_ => [(44, .tuple #[.agg #[.int .i64 t178, .int .i64 t179, .int .i64 t180], .int .i64 t181]), (9, .pointer (some ⟨s_, 0, none⟩)), (36, .tuple #[.agg #[.int .i64 t178, .int .i64 t179, .int .i64 t180], .int .i64 t181]), (45, .agg #[.int .i64 t178, .int .i64 t179, .int .i64 t180]), (46, .int .i64 t181)]) (fun s_ w' => (w'.cell? ⟨gb176, 0, none⟩ = some (.int .i64 ((rd_T38 l1 x7_1).f0)) ∧ w'.cell? ⟨gb176, 1, none⟩ = some (.int .i64 ((rd_T38 l1 x7_1).f1)) ∧ w'.cell? ⟨gb176, 2, none⟩ = some (.int .i64 ((rd_T38 l1 x7_1).f2.f0)) ∧ w'.cell? ⟨gb176, 3, none⟩ = some (.int .i64 ((rd_T38 l1 x7_1).f2.f1)) ∧ w'.cell? ⟨gb176, 4, none⟩ = some (.int .i64 ((rd_T38 l1 x7_1).f2.f2)) ∧ w'.cell? ⟨gb176, 5, none⟩ = some (.int .i64 ((rd_T38 l1 x7_1).f3)) ∧ w'.cell? (ad177.add ((((rd_T38 l1 x7_1).f0)).toNat * 3)) = some (.int .i64 ((rd_T36 l0 ((rd_T38 l1 x7_1).f0)).f0)) ∧ w'.cell? ⟨(ad177.add ((((rd_T38 l1 x7_1).f0)).toNat * 3)).block, (ad177.add ((((rd_T38 l1 x7_1).f0)).toNat * 3)).off + 1, none⟩ = some (.int .i64 ((rd_T36 l0 ((rd_T38 l1 x7_1).f0)).f1)) ∧ w'.cell? ⟨(ad177.add ((((rd_T38 l1 x7_1).f0)).toNat * 3)).block, (ad177.add ((((rd_T38 l1 x7_1).f0)).toNat * 3)).off + 2, none⟩ = some (.int .i64 ((rd_T36 l0 ((rd_T38 l1 x7_1).f0)).f2))) ∧ (Kd.R k38 38 w' w.heap.size (fun k_ => k_ ≠ gb176) u6 x6_1) ∧ (w'.heap[gb176]? = some (.cells #[.int .i64 ((rd_T38 l1 x7_1).f0), .int .i64 ((rd_T38 l1 x7_1).f1), .int .i64 ((rd_T38 l1 x7_1).f2.f0), .int .i64 ((rd_T38 l1 x7_1).f2.f1), .int .i64 ((rd_T38 l1 x7_1).f2.f2), .int .i64 ((rd_T38 l1 x7_1).f3)] 38 (0, 0))) ∧ (w'.heap[s_]? = some (.cells #[.int .i64 0, .int .i64 0, .int .i64 0] 36 (0, 0))) ∧ (w.heap.size ≤ s_) ∧ (w.heap.size ≤ s_) ∧ (gb176 ≠ s_) ∧ (s_ ≠ gb176) ∧ (Below w.heap.size w w')) ?_ ?_
             rotate_left
             ·intro hCont
              refine two_ (i := 7) (j := 11) (Ni := some 44) (Nj := some 9) #[true, true, true, true, true, true, true, true, false, false, false, false, false, false] #[true, true, true, true, true, true, true, false, false, false, false, true, false, false] rfl rfl rfl rfl (two_of HT_.out (by kernel_rfl)) (by decide) (by decide) (fun K hK => ?_) (fun K hK => ?_)
              ·skip
               refine goes_ Try.func23 (by kernel_rfl) rfl #[.agg #[.int .i64 ((rd_T36 l0 ((rd_T38 l1 x7_1).f0)).f0), .int .i64 ((rd_T36 l0 ((rd_T38 l1 x7_1).f0)).f1), .int .i64 ((rd_T36 l0 ((rd_T38 l1 x7_1).f0)).f2)], .agg #[.int .i64 ((rd_T38 l1 x7_1).f2.f0), .int .i64 ((rd_T38 l1 x7_1).f2.f1), .int .i64 ((rd_T38 l1 x7_1).f2.f2)]] (by rfl) rfl rfl (by (try simp only [List.map_toArray, List.map_cons, List.map_nil]); first | done | rfl | (simp only [List.length_drop, List.length_take]; rfl)) ?_
               with_reducible refine (fringeref25_Mul.calls k1 ((rd_T36 l0 ((rd_T38 l1 x7_1).f0)).f0) ((rd_T36 l0 ((rd_T38 l1 x7_1).f0)).f1) ((rd_T36 l0 ((rd_T38 l1 x7_1).f0)).f2) ((rd_T38 l1 x7_1).f2.f0) ((rd_T38 l1 x7_1).f2.f1) ((rd_T38 l1 x7_1).f2.f2) t178 t179 t180 t181 _ A13.out).mono ?_
               rintro e w50 ⟨rfl, hb⟩
               refine ⟨_, rfl, ?_⟩
               have n0_ := Aside0.mk (Kd.R_below (Rt HO_6.out) hb)
               have n1_ := Aside0.mk (blk_below (g := gb176) (o := .cells #[.int .i64 ((rd_T38 l1 x7_1).f0), .int .i64 ((rd_T38 l1 x7_1).f1), .int .i64 ((rd_T38 l1 x7_1).f2.f0), .int .i64 ((rd_T38 l1 x7_1).f2.f1), .int .i64 ((rd_T38 l1 x7_1).f2.f2), .int .i64 ((rd_T38 l1 x7_1).f3)] 38 (0, 0)) (bt BK176.out) hb)
               have n2_ := Aside0.mk (below_step (bl HB.out) hb)
               clear HO_6
               clear BK176
               clear HB
               have HO_6 := n0_
               have BK176 := n1_
               have HB := n2_
               clear n0_ n1_ n2_
               (try clear hb)
               (try clear hb2)
               (try clear hk)
               (try clear hi)
               refine hK.out _ _ ⟨(blk_cell BK176.out 0).trans rfl, (blk_cell BK176.out 1).trans rfl, (blk_cell BK176.out 2).trans rfl, (blk_cell BK176.out 3).trans rfl, (blk_cell BK176.out 4).trans rfl, (blk_cell BK176.out 5).trans rfl, ((HB.out.cell (World.block_lt_of_cell? w _ hw177_0)).trans hw177_0), ((HB.out.cell (World.block_lt_of_cell? w _ hw177_1)).trans hw177_1), ((HB.out.cell (World.block_lt_of_cell? w _ hw177_2)).trans hw177_2)⟩ (fun hHeld => ?_)
               clear hK K
               refine norm_ (a' := ?_) ?_ ?_
               rotate_left
               ·show Act.put _ (some 44) _ = _
                simp only [Act.put, List.setIfInBounds_toArray, List.set_cons_zero, List.set_cons_succ, i64_w, i32_w]
                rfl
               refine pure_ (i := 8) (N := some 36) (v := ?_) (a' := ?_) #[true, true, true, true, true, true, true, true, true, false, false, false, false, false] rfl rfl (any_of HT_.out (by kernel_rfl)) (fun _ _ _ h => h) (Or.inl ⟨by rfl, ?_⟩) ?_ ?_
               rotate_left
               ·intro w'
                go_simp
                with_reducible rfl
               rotate_left
               ·simp only [Act.put, List.setIfInBounds_toArray, List.set_cons_zero, List.set_cons_succ, i64_w, i32_w]
                rfl
               refine pure_ (i := 9) (N := some 45) (v := ?_) (a' := ?_) #[true, true, true, true, true, true, true, true, true, true, false, false, false, false] rfl rfl (any_of HT_.out (by kernel_rfl)) (fun _ _ _ h => h) (Or.inl ⟨by rfl, ?_⟩) ?_ ?_
               rotate_left
               ·intro w'
                go_simp
                with_reducible rfl
               rotate_left
               ·simp only [Act.put, List.setIfInBounds_toArray, List.set_cons_zero, List.set_cons_succ, i64_w, i32_w]
                rfl
               refine pure_ (i := 10) (N := some 46) (v := ?_) (a' := ?_) #[true, true, true, true, true, true, true, true, true, true, true, false, false, false] rfl rfl (any_of HT_.out (by kernel_rfl)) (fun _ _ _ h => h) (Or.inl ⟨by rfl, ?_⟩) ?_ ?_
               rotate_left
               ·intro w'
                go_simp
                with_reducible rfl
               rotate_left
               ·simp only [Act.put, List.setIfInBounds_toArray, List.set_cons_zero, List.set_cons_succ, i64_w, i32_w]
                rfl
               refine one_ (i := 11) (N := some 9) #[true, true, true, true, true, true, true, true, true, true, true, true, false, false] rfl rfl (one_of HT_.out (by kernel_rfl)) (by decide) (fun K hK => ?_)
               refine box_step ?hg (N := 9) ?hd (cs := #[.int .i64 0, .int .i64 0, .int .i64 0]) (t := 36) ?hr ?_; (case hd => rfl); (case hg => rfl); (case hr => first | (go_simp; done) | (go_simp; rfl))
               intro gb182 hg w51 hbox hb
               have n0_ := Aside0.mk (Kd.R_below (Rt HO_6.out) hb)
               have n1_ := Aside0.mk (blk_below (g := gb176) (o := .cells #[.int .i64 ((rd_T38 l1 x7_1).f0), .int .i64 ((rd_T38 l1 x7_1).f1), .int .i64 ((rd_T38 l1 x7_1).f2.f0), .int .i64 ((rd_T38 l1 x7_1).f2.f1), .int .i64 ((rd_T38 l1 x7_1).f2.f2), .int .i64 ((rd_T38 l1 x7_1).f3)] 38 (0, 0)) (bt BK176.out) hb)
               have n2_ := Aside0.mk (below_step (bl HB.out) hb)
               have n3_ := Aside0.mk (hbox)
               have n4_ := Aside0.mk ((by rw [hg]; exact (below_size (bl HB.out)) : w.heap.size ≤ gb182))
               have n5_ := Aside0.mk ((by rw [hg]; exact (below_size (bl HB.out)) : w.heap.size ≤ gb182))
               have n6_ := Aside0.mk ((by rw [hg]; exact Nat.ne_of_lt (blk_lt (g := gb176) (o := .cells #[.int .i64 ((rd_T38 l1 x7_1).f0), .int .i64 ((rd_T38 l1 x7_1).f1), .int .i64 ((rd_T38 l1 x7_1).f2.f0), .int .i64 ((rd_T38 l1 x7_1).f2.f1), .int .i64 ((rd_T38 l1 x7_1).f2.f2), .int .i64 ((rd_T38 l1 x7_1).f3)] 38 (0, 0)) (bt BK176.out)) : gb176 ≠ gb182))
               have n7_ := Aside0.mk ((by rw [hg]; exact Nat.ne_of_gt (blk_lt (g := gb176) (o := .cells #[.int .i64 ((rd_T38 l1 x7_1).f0), .int .i64 ((rd_T38 l1 x7_1).f1), .int .i64 ((rd_T38 l1 x7_1).f2.f0), .int .i64 ((rd_T38 l1 x7_1).f2.f1), .int .i64 ((rd_T38 l1 x7_1).f2.f2), .int .i64 ((rd_T38 l1 x7_1).f3)] 38 (0, 0)) (bt BK176.out)) : gb182 ≠ gb176))
               clear HO_6
               clear BK176
               clear HB
               have HO_6 := n0_
               have BK176 := n1_
               have HB := n2_
               have BK182 := n3_
               have GW182 := n4_
               have GE182 := n5_
               have NB176_182 := n6_
               have NB182_176 := n7_
               clear n0_ n1_ n2_ n3_ n4_ n5_ n6_ n7_
               clear hb hbox hg
               refine hK.out _ _ ⟨(blk_cell BK176.out 0).trans rfl, (blk_cell BK176.out 1).trans rfl, (blk_cell BK176.out 2).trans rfl, (blk_cell BK176.out 3).trans rfl, (blk_cell BK176.out 4).trans rfl, (blk_cell BK176.out 5).trans rfl, ((HB.out.cell (World.block_lt_of_cell? w _ hw177_0)).trans hw177_0), ((HB.out.cell (World.block_lt_of_cell? w _ hw177_1)).trans hw177_1), ((HB.out.cell (World.block_lt_of_cell? w _ hw177_2)).trans hw177_2)⟩ (fun hHeld => ?_)
               clear hK K
               refine norm_ (a' := ?_) ?_ ?_
               rotate_left
               ·show Act.put _ (some 9) _ = _
                simp only [Act.put, List.setIfInBounds_toArray, List.set_cons_zero, List.set_cons_succ, i64_w, i32_w]
                rfl
               exact norm_ (by simp only [putAll, Act.put, List.setIfInBounds_toArray, List.set_cons_zero, List.set_cons_succ]) (hCont (gb182) _ ⟨hHeld, (Rt HO_6.out), (bt BK176.out), (bt BK182.out), GW182.out, GE182.out, NB176_182.out, NB182_176.out, (bl HB.out)⟩)
              ·skip
               refine box_step ?hg (N := 9) ?hd (cs := #[.int .i64 0, .int .i64 0, .int .i64 0]) (t := 36) ?hr ?_; (case hd => rfl); (case hg => rfl); (case hr => first | (go_simp; done) | (go_simp; rfl))
               intro gb182 hg w50 hbox hb
               have n0_ := Aside0.mk (Kd.R_below (Rt HO_6.out) hb)
               have n1_ := Aside0.mk (blk_below (g := gb176) (o := .cells #[.int .i64 ((rd_T38 l1 x7_1).f0), .int .i64 ((rd_T38 l1 x7_1).f1), .int .i64 ((rd_T38 l1 x7_1).f2.f0), .int .i64 ((rd_T38 l1 x7_1).f2.f1), .int .i64 ((rd_T38 l1 x7_1).f2.f2), .int .i64 ((rd_T38 l1 x7_1).f3)] 38 (0, 0)) (bt BK176.out) hb)
               have n2_ := Aside0.mk (below_step (bl HB.out) hb)
               have n3_ := Aside0.mk (hbox)
               have n4_ := Aside0.mk ((by rw [hg]; exact (below_size (bl HB.out)) : w.heap.size ≤ gb182))
               have n5_ := Aside0.mk ((by rw [hg]; exact (below_size (bl HB.out)) : w.heap.size ≤ gb182))
               have n6_ := Aside0.mk ((by rw [hg]; exact Nat.ne_of_lt (blk_lt (g := gb176) (o := .cells #[.int .i64 ((rd_T38 l1 x7_1).f0), .int .i64 ((rd_T38 l1 x7_1).f1), .int .i64 ((rd_T38 l1 x7_1).f2.f0), .int .i64 ((rd_T38 l1 x7_1).f2.f1), .int .i64 ((rd_T38 l1 x7_1).f2.f2), .int .i64 ((rd_T38 l1 x7_1).f3)] 38 (0, 0)) (bt BK176.out)) : gb176 ≠ gb182))
               have n7_ := Aside0.mk ((by rw [hg]; exact Nat.ne_of_gt (blk_lt (g := gb176) (o := .cells #[.int .i64 ((rd_T38 l1 x7_1).f0), .int .i64 ((rd_T38 l1 x7_1).f1), .int .i64 ((rd_T38 l1 x7_1).f2.f0), .int .i64 ((rd_T38 l1 x7_1).f2.f1), .int .i64 ((rd_T38 l1 x7_1).f2.f2), .int .i64 ((rd_T38 l1 x7_1).f3)] 38 (0, 0)) (bt BK176.out)) : gb182 ≠ gb176))
               clear HO_6
               clear BK176
               clear HB
               have HO_6 := n0_
               have BK176 := n1_
               have HB := n2_
               have BK182 := n3_
               have GW182 := n4_
               have GE182 := n5_
               have NB176_182 := n6_
               have NB182_176 := n7_
               clear n0_ n1_ n2_ n3_ n4_ n5_ n6_ n7_
               clear hb hbox hg
               refine hK.out _ _ ⟨(blk_cell BK176.out 0).trans rfl, (blk_cell BK176.out 1).trans rfl, (blk_cell BK176.out 2).trans rfl, (blk_cell BK176.out 3).trans rfl, (blk_cell BK176.out 4).trans rfl, (blk_cell BK176.out 5).trans rfl, ((HB.out.cell (World.block_lt_of_cell? w _ hw177_0)).trans hw177_0), ((HB.out.cell (World.block_lt_of_cell? w _ hw177_1)).trans hw177_1), ((HB.out.cell (World.block_lt_of_cell? w _ hw177_2)).trans hw177_2)⟩ (fun hHeld => ?_)
               clear hK K
               refine norm_ (a' := ?_) ?_ ?_
               rotate_left
               ·show Act.put _ (some 9) _ = _
                simp only [Act.put, List.setIfInBounds_toArray, List.set_cons_zero, List.set_cons_succ, i64_w, i32_w]
                rfl
               refine one_ (i := 7) (N := some 44) #[true, true, true, true, true, true, true, true, false, false, false, true, false, false] rfl rfl (one_of HT_.out (by kernel_rfl)) (by decide) (fun K hK => ?_)
               refine goes_ Try.func23 (by kernel_rfl) rfl #[.agg #[.int .i64 ((rd_T36 l0 ((rd_T38 l1 x7_1).f0)).f0), .int .i64 ((rd_T36 l0 ((rd_T38 l1 x7_1).f0)).f1), .int .i64 ((rd_T36 l0 ((rd_T38 l1 x7_1).f0)).f2)], .agg #[.int .i64 ((rd_T38 l1 x7_1).f2.f0), .int .i64 ((rd_T38 l1 x7_1).f2.f1), .int .i64 ((rd_T38 l1 x7_1).f2.f2)]] (by rfl) rfl rfl (by (try simp only [List.map_toArray, List.map_cons, List.map_nil]); first | done | rfl | (simp only [List.length_drop, List.length_take]; rfl)) ?_
               with_reducible refine (fringeref25_Mul.calls k1 ((rd_T36 l0 ((rd_T38 l1 x7_1).f0)).f0) ((rd_T36 l0 ((rd_T38 l1 x7_1).f0)).f1) ((rd_T36 l0 ((rd_T38 l1 x7_1).f0)).f2) ((rd_T38 l1 x7_1).f2.f0) ((rd_T38 l1 x7_1).f2.f1) ((rd_T38 l1 x7_1).f2.f2) t178 t179 t180 t181 _ A13.out).mono ?_
               rintro e w51 ⟨rfl, hb⟩
               refine ⟨_, rfl, ?_⟩
               have n0_ := Aside0.mk (Kd.R_below (Rt HO_6.out) hb)
               have n1_ := Aside0.mk (blk_below (g := gb176) (o := .cells #[.int .i64 ((rd_T38 l1 x7_1).f0), .int .i64 ((rd_T38 l1 x7_1).f1), .int .i64 ((rd_T38 l1 x7_1).f2.f0), .int .i64 ((rd_T38 l1 x7_1).f2.f1), .int .i64 ((rd_T38 l1 x7_1).f2.f2), .int .i64 ((rd_T38 l1 x7_1).f3)] 38 (0, 0)) (bt BK176.out) hb)
               have n2_ := Aside0.mk (blk_below (g := gb182) (o := .cells #[.int .i64 0, .int .i64 0, .int .i64 0] 36 (0, 0)) (bt BK182.out) hb)
               have n3_ := Aside0.mk (below_step (bl HB.out) hb)
               clear HO_6
               clear BK176
               clear BK182
               clear HB
               have HO_6 := n0_
               have BK176 := n1_
               have BK182 := n2_
               have HB := n3_
               clear n0_ n1_ n2_ n3_
               (try clear hb)
               (try clear hb2)
               (try clear hk)
               (try clear hi)
               refine hK.out _ _ ⟨(blk_cell BK176.out 0).trans rfl, (blk_cell BK176.out 1).trans rfl, (blk_cell BK176.out 2).trans rfl, (blk_cell BK176.out 3).trans rfl, (blk_cell BK176.out 4).trans rfl, (blk_cell BK176.out 5).trans rfl, ((HB.out.cell (World.block_lt_of_cell? w _ hw177_0)).trans hw177_0), ((HB.out.cell (World.block_lt_of_cell? w _ hw177_1)).trans hw177_1), ((HB.out.cell (World.block_lt_of_cell? w _ hw177_2)).trans hw177_2)⟩ (fun hHeld => ?_)
               clear hK K
               refine norm_ (a' := ?_) ?_ ?_
               rotate_left
               ·show Act.put _ (some 44) _ = _
                simp only [Act.put, List.setIfInBounds_toArray, List.set_cons_zero, List.set_cons_succ, i64_w, i32_w]
                rfl
               refine pure_ (i := 8) (N := some 36) (v := ?_) (a' := ?_) #[true, true, true, true, true, true, true, true, true, false, false, true, false, false] rfl rfl (any_of HT_.out (by kernel_rfl)) (fun _ _ _ h => h) (Or.inl ⟨by rfl, ?_⟩) ?_ ?_
               rotate_left
               ·intro w'
                go_simp
                with_reducible rfl
               rotate_left
               ·simp only [Act.put, List.setIfInBounds_toArray, List.set_cons_zero, List.set_cons_succ, i64_w, i32_w]
                rfl
               refine pure_ (i := 9) (N := some 45) (v := ?_) (a' := ?_) #[true, true, true, true, true, true, true, true, true, true, false, true, false, false] rfl rfl (any_of HT_.out (by kernel_rfl)) (fun _ _ _ h => h) (Or.inl ⟨by rfl, ?_⟩) ?_ ?_
               rotate_left
               ·intro w'
                go_simp
                with_reducible rfl
               rotate_left
               ·simp only [Act.put, List.setIfInBounds_toArray, List.set_cons_zero, List.set_cons_succ, i64_w, i32_w]
                rfl
               refine pure_ (i := 10) (N := some 46) (v := ?_) (a' := ?_) #[true, true, true, true, true, true, true, true, true, true, true, true, false, false] rfl rfl (any_of HT_.out (by kernel_rfl)) (fun _ _ _ h => h) (Or.inl ⟨by rfl, ?_⟩) ?_ ?_
               rotate_left
               ·intro w'
                go_simp
                with_reducible rfl
               rotate_left
               ·simp only [Act.put, List.setIfInBounds_toArray, List.set_cons_zero, List.set_cons_succ, i64_w, i32_w]
                rfl
               exact norm_ (by simp only [putAll, Act.put, List.setIfInBounds_toArray, List.set_cons_zero, List.set_cons_succ]) (hCont (gb182) _ ⟨hHeld, (Rt HO_6.out), (bt BK176.out), (bt BK182.out), GW182.out, GE182.out, NB176_182.out, NB182_176.out, (bl HB.out)⟩)
             rintro gb182 w52 ⟨hS_, h0_, h1_, h2_, h3_, h4_, h5_, h6_, h7_⟩
             have n0_ : Aside0 (Kd.R k38 38 w52 w.heap.size (fun k_ => k_ ≠ gb176) u6 x6_1) := ⟨h0_⟩
             have n1_ : Aside0 (w52.heap[gb176]? = some (.cells #[.int .i64 ((rd_T38 l1 x7_1).f0), .int .i64 ((rd_T38 l1 x7_1).f1), .int .i64 ((rd_T38 l1 x7_1).f2.f0), .int .i64 ((rd_T38 l1 x7_1).f2.f1), .int .i64 ((rd_T38 l1 x7_1).f2.f2), .int .i64 ((rd_T38 l1 x7_1).f3)] 38 (0, 0))) := ⟨h1_⟩
             have n2_ : Aside0 (w52.heap[gb182]? = some (.cells #[.int .i64 0, .int .i64 0, .int .i64 0] 36 (0, 0))) := ⟨h2_⟩
             have n3_ : Aside0 (w.heap.size ≤ gb182) := ⟨h3_⟩
             have n4_ : Aside0 (w.heap.size ≤ gb182) := ⟨h4_⟩
             have n5_ : Aside0 (gb176 ≠ gb182) := ⟨h5_⟩
             have n6_ : Aside0 (gb182 ≠ gb176) := ⟨h6_⟩
             have n7_ : Aside0 (Below w.heap.size w w52) := ⟨h7_⟩
             clear HO_6
             clear BK176
             clear HB
             clear h0_ h1_ h2_ h3_ h4_ h5_ h6_ h7_
             have HO_6 := n0_
             have BK176 := n1_
             have BK182 := n2_
             have GW182 := n3_
             have GE182 := n4_
             have NB176_182 := n5_
             have NB182_176 := n6_
             have HB := n7_
             clear n0_ n1_ n2_ n3_ n4_ n5_ n6_ n7_
             have hHeld : w52.cell? ⟨gb176, 0, none⟩ = some (.int .i64 ((rd_T38 l1 x7_1).f0)) ∧ w52.cell? ⟨gb176, 1, none⟩ = some (.int .i64 ((rd_T38 l1 x7_1).f1)) ∧ w52.cell? ⟨gb176, 2, none⟩ = some (.int .i64 ((rd_T38 l1 x7_1).f2.f0)) ∧ w52.cell? ⟨gb176, 3, none⟩ = some (.int .i64 ((rd_T38 l1 x7_1).f2.f1)) ∧ w52.cell? ⟨gb176, 4, none⟩ = some (.int .i64 ((rd_T38 l1 x7_1).f2.f2)) ∧ w52.cell? ⟨gb176, 5, none⟩ = some (.int .i64 ((rd_T38 l1 x7_1).f3)) ∧ w52.cell? (ad177.add ((((rd_T38 l1 x7_1).f0)).toNat * 3)) = some (.int .i64 ((rd_T36 l0 ((rd_T38 l1 x7_1).f0)).f0)) ∧ w52.cell? ⟨(ad177.add ((((rd_T38 l1 x7_1).f0)).toNat * 3)).block, (ad177.add ((((rd_T38 l1 x7_1).f0)).toNat * 3)).off + 1, none⟩ = some (.int .i64 ((rd_T36 l0 ((rd_T38 l1 x7_1).f0)).f1)) ∧ w52.cell? ⟨(ad177.add ((((rd_T38 l1 x7_1).f0)).toNat * 3)).block, (ad177.add ((((rd_T38 l1 x7_1).f0)).toNat * 3)).off + 2, none⟩ = some (.int .i64 ((rd_T36 l0 ((rd_T38 l1 x7_1).f0)).f2)) := hS_
             refine norm_ (a' := ?_) ?_ ?_
             rotate_left
             ·simp only [putAll, Act.put, List.setIfInBounds_toArray, List.set_cons_zero, List.set_cons_succ]
              rfl
             refine one_ (i := 12) (N := none) #[true, true, true, true, true, true, true, true, true, true, true, true, true, false] rfl rfl (one_of HT_.out (by kernel_rfl)) (by decide) (fun K hK => ?_)
             have hs53 : w52.cell? ⟨gb182, 0, none⟩ = some (.int .i64 0) := (blk_cell BK182.out 0).trans rfl
             have hfs53 := blk_frozen BK182.out 0
             have hns53_0 := NB176_182.out
             have hms53_0 := NB182_176.out
             have hs54 : w52.cell? ⟨gb182, 1, none⟩ = some (.int .i64 0) := (blk_cell BK182.out 1).trans rfl
             have hfs54 := blk_frozen BK182.out 1
             have hns54_0 := NB176_182.out
             have hms54_0 := NB182_176.out
             have hs55 : w52.cell? ⟨gb182, 2, none⟩ = some (.int .i64 0) := (blk_cell BK182.out 2).trans rfl
             have hfs55 := blk_frozen BK182.out 2
             have hns55_0 := NB176_182.out
             have hms55_0 := NB182_176.out
             refine skip_ (w1 := ?_) (by rfl) rfl ?_ ?_
             rotate_left
             ·go_simp
              rfl
             refine hK.out _ _ ⟨((cell_far (p := ⟨gb182, _, none⟩) NB176_182.out _).trans (((cell_far (p := ⟨gb182, _, none⟩) NB176_182.out _).trans (((cell_far (p := ⟨gb182, _, none⟩) NB176_182.out _).trans (hHeld.1)))))), ((cell_far (p := ⟨gb182, _, none⟩) NB176_182.out _).trans (((cell_far (p := ⟨gb182, _, none⟩) NB176_182.out _).trans (((cell_far (p := ⟨gb182, _, none⟩) NB176_182.out _).trans (hHeld.2.1)))))), ((cell_far (p := ⟨gb182, _, none⟩) NB176_182.out _).trans (((cell_far (p := ⟨gb182, _, none⟩) NB176_182.out _).trans (((cell_far (p := ⟨gb182, _, none⟩) NB176_182.out _).trans (hHeld.2.2.1)))))), ((cell_far (p := ⟨gb182, _, none⟩) NB176_182.out _).trans (((cell_far (p := ⟨gb182, _, none⟩) NB176_182.out _).trans (((cell_far (p := ⟨gb182, _, none⟩) NB176_182.out _).trans (hHeld.2.2.2.1)))))), ((cell_far (p := ⟨gb182, _, none⟩) NB176_182.out _).trans (((cell_far (p := ⟨gb182, _, none⟩) NB176_182.out _).trans (((cell_far (p := ⟨gb182, _, none⟩) NB176_182.out _).trans (hHeld.2.2.2.2.1)))))), ((cell_far (p := ⟨gb182, _, none⟩) NB176_182.out _).trans (((cell_far (p := ⟨gb182, _, none⟩) NB176_182.out _).trans (((cell_far (p := ⟨gb182, _, none⟩) NB176_182.out _).trans (hHeld.2.2.2.2.2.1)))))), ((cell_far (p := ⟨gb182, _, none⟩) (by first | exact Nat.ne_of_lt (Nat.lt_of_lt_of_le (by have := World.block_lt_of_cell? _ _ hw177_0; first | rwa [add_block] at this | exact this) GW182.out) | (rw [add_block]; exact Nat.ne_of_lt (Nat.lt_of_lt_of_le (by have := World.block_lt_of_cell? _ _ hw177_0; first | rwa [add_block] at this | exact this) GW182.out)) | (show (Addr.add _ _).block ≠ _; rw [add_block]; exact Nat.ne_of_lt (Nat.lt_of_lt_of_le (by have := World.block_lt_of_cell? _ _ hw177_0; first | rwa [add_block] at this | exact this) GW182.out)) | (dsimp only; exact Nat.ne_of_lt (Nat.lt_of_lt_of_le (by have := World.block_lt_of_cell? _ _ hw177_0; first | rwa [add_block] at this | exact this) GW182.out))) _).trans (((cell_far (p := ⟨gb182, _, none⟩) (by first | exact Nat.ne_of_lt (Nat.lt_of_lt_of_le (by have := World.block_lt_of_cell? _ _ hw177_0; first | rwa [add_block] at this | exact this) GW182.out) | (rw [add_block]; exact Nat.ne_of_lt (Nat.lt_of_lt_of_le (by have := World.block_lt_of_cell? _ _ hw177_0; first | rwa [add_block] at this | exact this) GW182.out)) | (show (Addr.add _ _).block ≠ _; rw [add_block]; exact Nat.ne_of_lt (Nat.lt_of_lt_of_le (by have := World.block_lt_of_cell? _ _ hw177_0; first | rwa [add_block] at this | exact this) GW182.out)) | (dsimp only; exact Nat.ne_of_lt (Nat.lt_of_lt_of_le (by have := World.block_lt_of_cell? _ _ hw177_0; first | rwa [add_block] at this | exact this) GW182.out))) _).trans (((cell_far (p := ⟨gb182, _, none⟩) (by first | exact Nat.ne_of_lt (Nat.lt_of_lt_of_le (by have := World.block_lt_of_cell? _ _ hw177_0; first | rwa [add_block] at this | exact this) GW182.out) | (rw [add_block]; exact Nat.ne_of_lt (Nat.lt_of_lt_of_le (by have := World.block_lt_of_cell? _ _ hw177_0; first | rwa [add_block] at this | exact this) GW182.out)) | (show (Addr.add _ _).block ≠ _; rw [add_block]; exact Nat.ne_of_lt (Nat.lt_of_lt_of_le (by have := World.block_lt_of_cell? _ _ hw177_0; first | rwa [add_block] at this | exact this) GW182.out)) | (dsimp only; exact Nat.ne_of_lt (Nat.lt_of_lt_of_le (by have := World.block_lt_of_cell? _ _ hw177_0; first | rwa [add_block] at this | exact this) GW182.out))) _).trans (hHeld.2.2.2.2.2.2.1)))))), ((cell_far (p := ⟨gb182, _, none⟩) (by first | exact Nat.ne_of_lt (Nat.lt_of_lt_of_le (by have := World.block_lt_of_cell? _ _ hw177_1; first | rwa [add_block] at this | exact this) GW182.out) | (rw [add_block]; exact Nat.ne_of_lt (Nat.lt_of_lt_of_le (by have := World.block_lt_of_cell? _ _ hw177_1; first | rwa [add_block] at this | exact this) GW182.out)) | (show (Addr.add _ _).block ≠ _; rw [add_block]; exact Nat.ne_of_lt (Nat.lt_of_lt_of_le (by have := World.block_lt_of_cell? _ _ hw177_1; first | rwa [add_block] at this | exact this) GW182.out)) | (dsimp only; exact Nat.ne_of_lt (Nat.lt_of_lt_of_le (by have := World.block_lt_of_cell? _ _ hw177_1; first | rwa [add_block] at this | exact this) GW182.out))) _).trans (((cell_far (p := ⟨gb182, _, none⟩) (by first | exact Nat.ne_of_lt (Nat.lt_of_lt_of_le (by have := World.block_lt_of_cell? _ _ hw177_1; first | rwa [add_block] at this | exact this) GW182.out) | (rw [add_block]; exact Nat.ne_of_lt (Nat.lt_of_lt_of_le (by have := World.block_lt_of_cell? _ _ hw177_1; first | rwa [add_block] at this | exact this) GW182.out)) | (show (Addr.add _ _).block ≠ _; rw [add_block]; exact Nat.ne_of_lt (Nat.lt_of_lt_of_le (by have := World.block_lt_of_cell? _ _ hw177_1; first | rwa [add_block] at this | exact this) GW182.out)) | (dsimp only; exact Nat.ne_of_lt (Nat.lt_of_lt_of_le (by have := World.block_lt_of_cell? _ _ hw177_1; first | rwa [add_block] at this | exact this) GW182.out))) _).trans (((cell_far (p := ⟨gb182, _, none⟩) (by first | exact Nat.ne_of_lt (Nat.lt_of_lt_of_le (by have := World.block_lt_of_cell? _ _ hw177_1; first | rwa [add_block] at this | exact this) GW182.out) | (rw [add_block]; exact Nat.ne_of_lt (Nat.lt_of_lt_of_le (by have := World.block_lt_of_cell? _ _ hw177_1; first | rwa [add_block] at this | exact this) GW182.out)) | (show (Addr.add _ _).block ≠ _; rw [add_block]; exact Nat.ne_of_lt (Nat.lt_of_lt_of_le (by have := World.block_lt_of_cell? _ _ hw177_1; first | rwa [add_block] at this | exact this) GW182.out)) | (dsimp only; exact Nat.ne_of_lt (Nat.lt_of_lt_of_le (by have := World.block_lt_of_cell? _ _ hw177_1; first | rwa [add_block] at this | exact this) GW182.out))) _).trans (hHeld.2.2.2.2.2.2.2.1)))))), ((cell_far (p := ⟨gb182, _, none⟩) (by first | exact Nat.ne_of_lt (Nat.lt_of_lt_of_le (by have := World.block_lt_of_cell? _ _ hw177_2; first | rwa [add_block] at this | exact this) GW182.out) | (rw [add_block]; exact Nat.ne_of_lt (Nat.lt_of_lt_of_le (by have := World.block_lt_of_cell? _ _ hw177_2; first | rwa [add_block] at this | exact this) GW182.out)) | (show (Addr.add _ _).block ≠ _; rw [add_block]; exact Nat.ne_of_lt (Nat.lt_of_lt_of_le (by have := World.block_lt_of_cell? _ _ hw177_2; first | rwa [add_block] at this | exact this) GW182.out)) | (dsimp only; exact Nat.ne_of_lt (Nat.lt_of_lt_of_le (by have := World.block_lt_of_cell? _ _ hw177_2; first | rwa [add_block] at this | exact this) GW182.out))) _).trans (((cell_far (p := ⟨gb182, _, none⟩) (by first | exact Nat.ne_of_lt (Nat.lt_of_lt_of_le (by have := World.block_lt_of_cell? _ _ hw177_2; first | rwa [add_block] at this | exact this) GW182.out) | (rw [add_block]; exact Nat.ne_of_lt (Nat.lt_of_lt_of_le (by have := World.block_lt_of_cell? _ _ hw177_2; first | rwa [add_block] at this | exact this) GW182.out)) | (show (Addr.add _ _).block ≠ _; rw [add_block]; exact Nat.ne_of_lt (Nat.lt_of_lt_of_le (by have := World.block_lt_of_cell? _ _ hw177_2; first | rwa [add_block] at this | exact this) GW182.out)) | (dsimp only; exact Nat.ne_of_lt (Nat.lt_of_lt_of_le (by have := World.block_lt_of_cell? _ _ hw177_2; first | rwa [add_block] at this | exact this) GW182.out))) _).trans (((cell_far (p := ⟨gb182, _, none⟩) (by first | exact Nat.ne_of_lt (Nat.lt_of_lt_of_le (by have := World.block_lt_of_cell? _ _ hw177_2; first | rwa [add_block] at this | exact this) GW182.out) | (rw [add_block]; exact Nat.ne_of_lt (Nat.lt_of_lt_of_le (by have := World.block_lt_of_cell? _ _ hw177_2; first | rwa [add_block] at this | exact this) GW182.out)) | (show (Addr.add _ _).block ≠ _; rw [add_block]; exact Nat.ne_of_lt (Nat.lt_of_lt_of_le (by have := World.block_lt_of_cell? _ _ hw177_2; first | rwa [add_block] at this | exact this) GW182.out)) | (dsimp only; exact Nat.ne_of_lt (Nat.lt_of_lt_of_le (by have := World.block_lt_of_cell? _ _ hw177_2; first | rwa [add_block] at this | exact this) GW182.out))) _).trans (hHeld.2.2.2.2.2.2.2.2))))))⟩ (fun hHeld => ?_)
             clear hK K
             refine pure_ (i := 13) (N := some 10) (v := ?_) (a' := ?_) #[true, true, true, true, true, true, true, true, true, true, true, true, true, true] rfl rfl (any_of HT_.out (by kernel_rfl)) (fun _ _ _ h => h) (Or.inl ⟨by rfl, ?_⟩) ?_ ?_
             rotate_left
             ·intro w'
              go_simp
              with_reducible rfl
             rotate_left
             ·simp only [Act.put, List.setIfInBounds_toArray, List.set_cons_zero, List.set_cons_succ, i64_w, i32_w]
              rfl
             refine done_ (done_of HT_.out (by kernel_rfl)) ?_
             try go_wp2
             have n0_ : Aside0 (Kd.R k38 38 (((w52.setCell ⟨gb182, 0, none⟩ (.int .i64 t178)).setCell ⟨gb182, 1, none⟩ (.int .i64 t179)).setCell ⟨gb182, 2, none⟩ (.int .i64 t180)) w.heap.size (fun k_ => k_ ≠ gb176) u6 x6_1) := ⟨by (with_reducible repeat (first | apply Kd.R_alloc | apply Kd.R_drewN | apply Kd.R_drew)); exact Kd.R_mono (Kd.R_far (p := ⟨gb182, 2, none⟩) (Kd.R_far (p := ⟨gb182, 1, none⟩) (Kd.R_far (p := ⟨gb182, 0, none⟩) (Kd.R_types HO_6.out BK182.out (by decide)) (fun _ hk => hk.2) (.int .i64 t178)) (fun _ hk => hk.2) (.int .i64 t179)) (fun _ hk => hk.2) (.int .i64 t180)) (fun _ hk => hk.1)⟩
             have n1_ : Aside0 ((((w52.setCell ⟨gb182, 0, none⟩ (.int .i64 t178)).setCell ⟨gb182, 1, none⟩ (.int .i64 t179)).setCell ⟨gb182, 2, none⟩ (.int .i64 t180)).heap[gb176]? = some (.cells #[.int .i64 ((rd_T38 l1 x7_1).f0), .int .i64 ((rd_T38 l1 x7_1).f1), .int .i64 ((rd_T38 l1 x7_1).f2.f0), .int .i64 ((rd_T38 l1 x7_1).f2.f1), .int .i64 ((rd_T38 l1 x7_1).f2.f2), .int .i64 ((rd_T38 l1 x7_1).f3)] 38 (0, 0))) := ⟨by (with_reducible repeat (first | refine blk_drewN ?_ _ | refine blk_drew ?_ | refine blk_alloc ?_ _ | refine blk_far ?_ NB176_182.out _)); exact BK176.out⟩
             have n2_ : Aside0 ((((w52.setCell ⟨gb182, 0, none⟩ (.int .i64 t178)).setCell ⟨gb182, 1, none⟩ (.int .i64 t179)).setCell ⟨gb182, 2, none⟩ (.int .i64 t180)).heap[gb182]? = some (.cells #[.int .i64 t178, .int .i64 t179, .int .i64 t180] 36 (0, 0))) := ⟨by (with_reducible repeat (first | refine blk_drewN ?_ _ | refine blk_drew ?_ | refine blk_alloc ?_ _)); refine blk_put (cs := #[.int .i64 t178, .int .i64 t179, .int .i64 0]) ?_ 2 _ rfl; (with_reducible repeat (first | refine blk_drewN ?_ _ | refine blk_drew ?_ | refine blk_alloc ?_ _)); refine blk_put (cs := #[.int .i64 t178, .int .i64 0, .int .i64 0]) ?_ 1 _ rfl; (with_reducible repeat (first | refine blk_drewN ?_ _ | refine blk_drew ?_ | refine blk_alloc ?_ _)); refine blk_put (cs := #[.int .i64 0, .int .i64 0, .int .i64 0]) ?_ 0 _ rfl; (with_reducible repeat (first | refine blk_drewN ?_ _ | refine blk_drew ?_ | refine blk_alloc ?_ _)); exact BK182.out⟩
             have n3_ : Aside0 (Below w.heap.size w (((w52.setCell ⟨gb182, 0, none⟩ (.int .i64 t178)).setCell ⟨gb182, 1, none⟩ (.int .i64 t179)).setCell ⟨gb182, 2, none⟩ (.int .i64 t180))) := ⟨by repeat (first | (with_reducible first | exact HB.out | apply below_alloc | apply pw_below_drewN | apply below_drew1 | refine below_set ?_ GE176.out | refine below_set ?_ GE182.out) | exact HB.out)⟩
             (try clear HO_6)
             (try clear BK176)
             (try clear BK182)
             (try clear HB)
             generalize (((w52.setCell ⟨gb182, 0, none⟩ (.int .i64 t178)).setCell ⟨gb182, 1, none⟩ (.int .i64 t179)).setCell ⟨gb182, 2, none⟩ (.int .i64 t180)) = w56 at n0_ n1_ n2_ n3_ ⊢
             have HO_6 := n0_
             have BK176 := n1_
             have BK182 := n2_
             have HB := n3_
             clear n0_ n1_ n2_ n3_
             have n0_ := Aside0.mk (Kd.R_drew HO_6.out)
             have n1_ := Aside0.mk (blk_drew BK176.out)
             have n2_ := Aside0.mk (blk_drew BK182.out)
             have n3_ := Aside0.mk (below_drew1 HB.out)
             clear HO_6
             clear BK176
             clear BK182
             clear HB
             have HO_6 := n0_
             have BK176 := n1_
             have BK182 := n2_
             have HB := n3_
             clear n0_ n1_ n2_ n3_
             have p183 : 0 ≤ (((rd_T38 l1 x7_1).f1) : Int) := of_decide_eq_true (by first | (with_reducible assumption) | assumption)
             have q183 : ((rd_T38 l1 x7_1).f1) < (l0.length : Int) := of_decide_eq_true (by first | (with_reducible assumption) | assumption)
             obtain ⟨ad183, e183, hx183_0, hx183_1, hx183_2⟩ := at_T36 HR0.out ((rd_T38 l1 x7_1).f1) p183 q183
             have hw183_2 := hx183_2
             have hw183_1 := hx183_1
             have hw183_0 := hx183_0
             obtain rfl : ad177 = ad183 := (by injection e183)
             replace hx183_0 := (HB.out.cell (World.block_lt_of_cell? w _ hx183_0)).trans hx183_0
             replace hx183_1 := (HB.out.cell (World.block_lt_of_cell? w _ hx183_1)).trans hx183_1
             replace hx183_2 := (HB.out.cell (World.block_lt_of_cell? w _ hx183_2)).trans hx183_2
             replace p183 := eq_true p183
             replace q183 := eq_true q183
             refine start_ (n := 14) (S := fun w' => w'.cell? ⟨gb182, 0, none⟩ = some (.int .i64 t178) ∧ w'.cell? ⟨gb182, 1, none⟩ = some (.int .i64 t179) ∧ w'.cell? ⟨gb182, 2, none⟩ = some (.int .i64 t180) ∧ w'.cell? ⟨gb176, 0, none⟩ = some (.int .i64 ((rd_T38 l1 x7_1).f0)) ∧ w'.cell? ⟨gb176, 1, none⟩ = some (.int .i64 ((rd_T38 l1 x7_1).f1)) ∧ w'.cell? ⟨gb176, 2, none⟩ = some (.int .i64 ((rd_T38 l1 x7_1).f2.f0)) ∧ w'.cell? ⟨gb176, 3, none⟩ = some (.int .i64 ((rd_T38 l1 x7_1).f2.f1)) ∧ w'.cell? ⟨gb176, 4, none⟩ = some (.int .i64 ((rd_T38 l1 x7_1).f2.f2)) ∧ w'.cell? ⟨gb176, 5, none⟩ = some (.int .i64 ((rd_T38 l1 x7_1).f3)) ∧ w'.cell? (ad177.add ((((rd_T38 l1 x7_1).f1)).toNat * 3)) = some (.int .i64 ((rd_T36 l0 ((rd_T38 l1 x7_1).f1)).f0)) ∧ w'.cell? ⟨(ad177.add ((((rd_T38 l1 x7_1).f1)).toNat * 3)).block, (ad177.add ((((rd_T38 l1 x7_1).f1)).toNat * 3)).off + 1, none⟩ = some (.int .i64 ((rd_T36 l0 ((rd_T38 l1 x7_1).f1)).f1)) ∧ w'.cell? ⟨(ad177.add ((((rd_T38 l1 x7_1).f1)).toNat * 3)).block, (ad177.add ((((rd_T38 l1 x7_1).f1)).toNat * 3)).off + 2, none⟩ = some (.int .i64 ((rd_T36 l0 ((rd_T38 l1 x7_1).f1)).f2))) (ds := []) #[false, false, false, false, false, false, false, false, false, false, false, false, false, false] (by kernel_rfl) rfl rfl ⟨(blk_cell BK182.out 0).trans rfl, (blk_cell BK182.out 1).trans rfl, (blk_cell BK182.out 2).trans rfl, (blk_cell BK176.out 0).trans rfl, (blk_cell BK176.out 1).trans rfl, (blk_cell BK176.out 2).trans rfl, (blk_cell BK176.out 3).trans rfl, (blk_cell BK176.out 4).trans rfl, (blk_cell BK176.out 5).trans rfl, ((HB.out.cell (World.block_lt_of_cell? w _ hw183_0)).trans hw183_0), ((HB.out.cell (World.block_lt_of_cell? w _ hw183_1)).trans hw183_1), ((HB.out.cell (World.block_lt_of_cell? w _ hw183_2)).trans hw183_2)⟩ (fun hHeld => ?_); refine with_tabW fringeref26_Act.tab13 fringeref26_Act.bits13 (fun HT_ HW_ => ?_)
             generalize w56.drew = w57 at HO_6 BK176 BK182 HB hx183_0 hx183_1 hx183_2 hHeld ⊢
             refine pure_ (i := 1) (N := some 51) (v := ?_) (a' := ?_) #[false, true, false, false, false, false, false, false, false, false, false, false, false, false] rfl rfl (any_of HT_.out (by kernel_rfl)) (fun _ _ _ h => h) (Or.inl ⟨by rfl, ?_⟩) ?_ ?_
             rotate_left
             ·intro w'
              go_simp
              with_reducible rfl
             rotate_left
             ·simp only [Act.put, List.setIfInBounds_toArray, List.set_cons_zero, List.set_cons_succ, i64_w, i32_w]
              rfl
             refine pure_ (i := 2) (N := some 52) (v := ?_) (a' := ?_) #[false, true, true, false, false, false, false, false, false, false, false, false, false, false] rfl rfl (any_of HT_.out (by kernel_rfl)) (fun _ _ _ h => h) (Or.inl ⟨by rfl, ?_⟩) ?_ ?_
             rotate_left
             ·intro w'
              go_simp
              with_reducible rfl
             rotate_left
             ·simp only [Act.put, List.setIfInBounds_toArray, List.set_cons_zero, List.set_cons_succ, i64_w, i32_w]
              rfl
             refine take_ (i := 0) (N := some 50) (v := ?_) (a' := ?_) #[true, true, true, false, false, false, false, false, false, false, false, false, false, false] rfl rfl (take_ofW HT_.out HW_.out (by kernel_rfl)) (fun _ _ _ h => h) (Or.inl ⟨by rfl, ?_⟩) hHeld ?_ ?_
             rotate_left
             ·rintro w' ⟨s0, s1, s2, s3, s4, s5, s6, s7, s8, s9, s10, s11⟩
              go_simp
              with_reducible rfl
             rotate_left
             ·simp only [Act.put, List.setIfInBounds_toArray, List.set_cons_zero, List.set_cons_succ, i64_w, i32_w]
              rfl
             refine take_ (i := 3) (N := some 53) (v := ?_) (a' := ?_) #[true, true, true, true, false, false, false, false, false, false, false, false, false, false] rfl rfl (take_ofW HT_.out HW_.out (by kernel_rfl)) (fun _ _ _ h => h) (Or.inl ⟨by rfl, ?_⟩) hHeld ?_ ?_
             rotate_left
             ·rintro w' ⟨s0, s1, s2, s3, s4, s5, s6, s7, s8, s9, s10, s11⟩
              go_simp
              with_reducible rfl
             rotate_left
             ·simp only [Act.put, List.setIfInBounds_toArray, List.set_cons_zero, List.set_cons_succ, i64_w, i32_w]
              rfl
             refine pure_ (i := 4) (N := some 54) (v := ?_) (a' := ?_) #[true, true, true, true, true, false, false, false, false, false, false, false, false, false] rfl rfl (any_of HT_.out (by kernel_rfl)) (fun _ _ _ h => h) (Or.inl ⟨by rfl, ?_⟩) ?_ ?_
             rotate_left
             ·intro w'
              go_simp
              with_reducible rfl
             rotate_left
             ·simp only [Act.put, List.setIfInBounds_toArray, List.set_cons_zero, List.set_cons_succ, i64_w, i32_w]
              rfl
             refine take_ (i := 5) (N := some 55) (v := ?_) (a' := ?_) #[true, true, true, true, true, true, false, false, false, false, false, false, false, false] rfl rfl (take_ofW HT_.out HW_.out (by kernel_rfl)) (fun _ _ _ h => h) (Or.inl ⟨by rfl, ?_⟩) hHeld ?_ ?_
             rotate_left
             ·rintro w' ⟨s0, s1, s2, s3, s4, s5, s6, s7, s8, s9, s10, s11⟩
              go_simp
              with_reducible rfl
             rotate_left
             ·simp only [Act.put, List.setIfInBounds_toArray, List.set_cons_zero, List.set_cons_succ, i64_w, i32_w]
              rfl
             refine join_ (σ := Nat) 2 #[true, true, true, true, true, true, true, true, true, true, true, true, false, false] (fun s_ => [(56, .agg #[.int .i64 t184, .int .i64 t185, .int .i64 t186]), (57, .tuple #[.agg #[.int .i64 t187, .int .i64 t188, .int .i64 t189], .int .i64 t190]), (11, .pointer (some ⟨s_, 0, none⟩)), (49, .tuple #[.agg #[.int .i64 t187, .int .i64 t188, .int .i64 t189], .int .i64 t190]), (58, .agg #[.int .i64 t187, .int .i64 t188, .int .i64 t189]), (59, .int .i64 t190)]) (fun s_ w' => (w'.cell? ⟨gb182, 0, none⟩ = some (.int .i64 t178) ∧ w'.cell? ⟨gb182, 1, none⟩ = some (.int .i64 t179) ∧ w'.cell? ⟨gb182, 2, none⟩ = some (.int .i64 t180) ∧ w'.cell? ⟨gb176, 0, none⟩ = some (.int .i64 ((rd_T38 l1 x7_1).f0)) ∧ w'.cell? ⟨gb176, 1, none⟩ = some (.int .i64 ((rd_T38 l1 x7_1).f1)) ∧ w'.cell? ⟨gb176, 2, none⟩ = some (.int .i64 ((rd_T38 l1 x7_1).f2.f0)) ∧ w'.cell? ⟨gb176, 3, none⟩ = some (.int .i64 ((rd_T38 l1 x7_1).f2.f1)) ∧ w'.cell? ⟨gb176, 4, none⟩ = some (.int .i64 ((rd_T38 l1 x7_1).f2.f2)) ∧ w'.cell? ⟨gb176, 5, none⟩ = some (.int .i64 ((rd_T38 l1 x7_1).f3)) ∧ w'.cell? (ad177.add ((((rd_T38 l1 x7_1).f1)).toNat * 3)) = some (.int .i64 ((rd_T36 l0 ((rd_T38 l1 x7_1).f1)).f0)) ∧ w'.cell? ⟨(ad177.add ((((rd_T38 l1 x7_1).f1)).toNat * 3)).block, (ad177.add ((((rd_T38 l1 x7_1).f1)).toNat * 3)).off + 1, none⟩ = some (.int .i64 ((rd_T36 l0 ((rd_T38 l1 x7_1).f1)).f1)) ∧ w'.cell? ⟨(ad177.add ((((rd_T38 l1 x7_1).f1)).toNat * 3)).block, (ad177.add ((((rd_T38 l1 x7_1).f1)).toNat * 3)).off + 2, none⟩ = some (.int .i64 ((rd_T36 l0 ((rd_T38 l1 x7_1).f1)).f2))) ∧ (Kd.R k38 38 w' w.heap.size (fun k_ => k_ ≠ gb176) u6 x6_1) ∧ (w'.heap[gb176]? = some (.cells #[.int .i64 ((rd_T38 l1 x7_1).f0), .int .i64 ((rd_T38 l1 x7_1).f1), .int .i64 ((rd_T38 l1 x7_1).f2.f0), .int .i64 ((rd_T38 l1 x7_1).f2.f1), .int .i64 ((rd_T38 l1 x7_1).f2.f2), .int .i64 ((rd_T38 l1 x7_1).f3)] 38 (0, 0))) ∧ (w'.heap[gb182]? = some (.cells #[.int .i64 t178, .int .i64 t179, .int .i64 t180] 36 (0, 0))) ∧ (w'.heap[s_]? = some (.cells #[.int .i64 0, .int .i64 0, .int .i64 0] 36 (0, 0))) ∧ (w.heap.size ≤ s_) ∧ (w.heap.size ≤ s_) ∧ (gb176 ≠ s_) ∧ (s_ ≠ gb176) ∧ (gb182 ≠ s_) ∧ (s_ ≠ gb182) ∧ (Below w.heap.size w w')) ?_ ?_
             rotate_left
             ·intro hCont
              refine two_ (i := 6) (j := 11) (Ni := some 56) (Nj := some 11) #[true, true, true, true, true, true, true, false, false, false, false, false, false, false] #[true, true, true, true, true, true, false, false, false, false, false, true, false, false] rfl rfl rfl rfl (two_of HT_.out (by kernel_rfl)) (by decide) (by decide) (fun K hK => ?_) (fun K hK => ?_)
              ·skip
               refine goes_ Try.func36 (by kernel_rfl) rfl #[.agg #[.int .i64 ((rd_T36 l0 ((rd_T38 l1 x7_1).f1)).f0), .int .i64 ((rd_T36 l0 ((rd_T38 l1 x7_1).f1)).f1), .int .i64 ((rd_T36 l0 ((rd_T38 l1 x7_1).f1)).f2)]] (by rfl) rfl rfl (by (try simp only [List.map_toArray, List.map_cons, List.map_nil]); first | done | rfl | (simp only [List.length_drop, List.length_take]; rfl)) ?_
               with_reducible refine (fringeref26_Apart.calls ((rd_T36 l0 ((rd_T38 l1 x7_1).f1)).f0) ((rd_T36 l0 ((rd_T38 l1 x7_1).f1)).f1) ((rd_T36 l0 ((rd_T38 l1 x7_1).f1)).f2) t184 t185 t186 _ A17.out).mono ?_
               rintro e w58 ⟨rfl, hb⟩
               refine ⟨_, rfl, ?_⟩
               have n0_ := Aside0.mk (Kd.R_below (Rt HO_6.out) hb)
               have n1_ := Aside0.mk (blk_below (g := gb176) (o := .cells #[.int .i64 ((rd_T38 l1 x7_1).f0), .int .i64 ((rd_T38 l1 x7_1).f1), .int .i64 ((rd_T38 l1 x7_1).f2.f0), .int .i64 ((rd_T38 l1 x7_1).f2.f1), .int .i64 ((rd_T38 l1 x7_1).f2.f2), .int .i64 ((rd_T38 l1 x7_1).f3)] 38 (0, 0)) (bt BK176.out) hb)
               have n2_ := Aside0.mk (blk_below (g := gb182) (o := .cells #[.int .i64 t178, .int .i64 t179, .int .i64 t180] 36 (0, 0)) (bt BK182.out) hb)
               have n3_ := Aside0.mk (below_step (bl HB.out) hb)
               clear HO_6
               clear BK176
               clear BK182
               clear HB
               have HO_6 := n0_
               have BK176 := n1_
               have BK182 := n2_
               have HB := n3_
               clear n0_ n1_ n2_ n3_
               (try clear hb)
               (try clear hb2)
               (try clear hk)
               (try clear hi)
               refine hK.out _ _ ⟨(blk_cell BK182.out 0).trans rfl, (blk_cell BK182.out 1).trans rfl, (blk_cell BK182.out 2).trans rfl, (blk_cell BK176.out 0).trans rfl, (blk_cell BK176.out 1).trans rfl, (blk_cell BK176.out 2).trans rfl, (blk_cell BK176.out 3).trans rfl, (blk_cell BK176.out 4).trans rfl, (blk_cell BK176.out 5).trans rfl, ((HB.out.cell (World.block_lt_of_cell? w _ hw183_0)).trans hw183_0), ((HB.out.cell (World.block_lt_of_cell? w _ hw183_1)).trans hw183_1), ((HB.out.cell (World.block_lt_of_cell? w _ hw183_2)).trans hw183_2)⟩ (fun hHeld => ?_)
               clear hK K
               refine norm_ (a' := ?_) ?_ ?_
               rotate_left
               ·show Act.put _ (some 56) _ = _
                simp only [Act.put, List.setIfInBounds_toArray, List.set_cons_zero, List.set_cons_succ, i64_w, i32_w]
                rfl
               refine two_ (i := 7) (j := 11) (Ni := some 57) (Nj := some 11) #[true, true, true, true, true, true, true, true, false, false, false, false, false, false] #[true, true, true, true, true, true, true, false, false, false, false, true, false, false] rfl rfl rfl rfl (two_of HT_.out (by kernel_rfl)) (by decide) (by decide) (fun K hK => ?_) (fun K hK => ?_)
               ·skip
                refine goes_ Try.func23 (by kernel_rfl) rfl #[.agg #[.int .i64 t178, .int .i64 t179, .int .i64 t180], .agg #[.int .i64 t184, .int .i64 t185, .int .i64 t186]] (by rfl) rfl rfl (by (try simp only [List.map_toArray, List.map_cons, List.map_nil]); first | done | rfl | (simp only [List.length_drop, List.length_take]; rfl)) ?_
                with_reducible refine (fringeref25_Mul.calls k1 t178 t179 t180 t184 t185 t186 t187 t188 t189 t190 _ A18.out).mono ?_
                rintro e w59 ⟨rfl, hb⟩
                refine ⟨_, rfl, ?_⟩
                have n0_ := Aside0.mk (Kd.R_below (Rt HO_6.out) hb)
                have n1_ := Aside0.mk (blk_below (g := gb176) (o := .cells #[.int .i64 ((rd_T38 l1 x7_1).f0), .int .i64 ((rd_T38 l1 x7_1).f1), .int .i64 ((rd_T38 l1 x7_1).f2.f0), .int .i64 ((rd_T38 l1 x7_1).f2.f1), .int .i64 ((rd_T38 l1 x7_1).f2.f2), .int .i64 ((rd_T38 l1 x7_1).f3)] 38 (0, 0)) (bt BK176.out) hb)
                have n2_ := Aside0.mk (blk_below (g := gb182) (o := .cells #[.int .i64 t178, .int .i64 t179, .int .i64 t180] 36 (0, 0)) (bt BK182.out) hb)
                have n3_ := Aside0.mk (below_step (bl HB.out) hb)
                clear HO_6
                clear BK176
                clear BK182
                clear HB
                have HO_6 := n0_
                have BK176 := n1_
                have BK182 := n2_
                have HB := n3_
                clear n0_ n1_ n2_ n3_
                (try clear hb)
                (try clear hb2)
                (try clear hk)
                (try clear hi)
                refine hK.out _ _ ⟨(blk_cell BK182.out 0).trans rfl, (blk_cell BK182.out 1).trans rfl, (blk_cell BK182.out 2).trans rfl, (blk_cell BK176.out 0).trans rfl, (blk_cell BK176.out 1).trans rfl, (blk_cell BK176.out 2).trans rfl, (blk_cell BK176.out 3).trans rfl, (blk_cell BK176.out 4).trans rfl, (blk_cell BK176.out 5).trans rfl, ((HB.out.cell (World.block_lt_of_cell? w _ hw183_0)).trans hw183_0), ((HB.out.cell (World.block_lt_of_cell? w _ hw183_1)).trans hw183_1), ((HB.out.cell (World.block_lt_of_cell? w _ hw183_2)).trans hw183_2)⟩ (fun hHeld => ?_)
                clear hK K
                refine norm_ (a' := ?_) ?_ ?_
                rotate_left
                ·show Act.put _ (some 57) _ = _
                 simp only [Act.put, List.setIfInBounds_toArray, List.set_cons_zero, List.set_cons_succ, i64_w, i32_w]
                 rfl
                refine pure_ (i := 8) (N := some 49) (v := ?_) (a' := ?_) #[true, true, true, true, true, true, true, true, true, false, false, false, false, false] rfl rfl (any_of HT_.out (by kernel_rfl)) (fun _ _ _ h => h) (Or.inl ⟨by rfl, ?_⟩) ?_ ?_
                rotate_left
                ·intro w'
                 go_simp
                 with_reducible rfl
                rotate_left
                ·simp only [Act.put, List.setIfInBounds_toArray, List.set_cons_zero, List.set_cons_succ, i64_w, i32_w]
                 rfl
                refine pure_ (i := 9) (N := some 58) (v := ?_) (a' := ?_) #[true, true, true, true, true, true, true, true, true, true, false, false, false, false] rfl rfl (any_of HT_.out (by kernel_rfl)) (fun _ _ _ h => h) (Or.inl ⟨by rfl, ?_⟩) ?_ ?_
                rotate_left
                ·intro w'
                 go_simp
                 with_reducible rfl
                rotate_left
                ·simp only [Act.put, List.setIfInBounds_toArray, List.set_cons_zero, List.set_cons_succ, i64_w, i32_w]
                 rfl
                refine pure_ (i := 10) (N := some 59) (v := ?_) (a' := ?_) #[true, true, true, true, true, true, true, true, true, true, true, false, false, false] rfl rfl (any_of HT_.out (by kernel_rfl)) (fun _ _ _ h => h) (Or.inl ⟨by rfl, ?_⟩) ?_ ?_
                rotate_left
                ·intro w'
                 go_simp
                 with_reducible rfl
                rotate_left
                ·simp only [Act.put, List.setIfInBounds_toArray, List.set_cons_zero, List.set_cons_succ, i64_w, i32_w]
                 rfl
                refine one_ (i := 11) (N := some 11) #[true, true, true, true, true, true, true, true, true, true, true, true, false, false] rfl rfl (one_of HT_.out (by kernel_rfl)) (by decide) (fun K hK => ?_)
                refine box_step ?hg (N := 11) ?hd (cs := #[.int .i64 0, .int .i64 0, .int .i64 0]) (t := 36) ?hr ?_; (case hd => rfl); (case hg => rfl); (case hr => first | (go_simp; done) | (go_simp; rfl))
                intro gb191 hg w60 hbox hb
                have n0_ := Aside0.mk (Kd.R_below (Rt HO_6.out) hb)
                have n1_ := Aside0.mk (blk_below (g := gb176) (o := .cells #[.int .i64 ((rd_T38 l1 x7_1).f0), .int .i64 ((rd_T38 l1 x7_1).f1), .int .i64 ((rd_T38 l1 x7_1).f2.f0), .int .i64 ((rd_T38 l1 x7_1).f2.f1), .int .i64 ((rd_T38 l1 x7_1).f2.f2), .int .i64 ((rd_T38 l1 x7_1).f3)] 38 (0, 0)) (bt BK176.out) hb)
                have n2_ := Aside0.mk (blk_below (g := gb182) (o := .cells #[.int .i64 t178, .int .i64 t179, .int .i64 t180] 36 (0, 0)) (bt BK182.out) hb)
                have n3_ := Aside0.mk (below_step (bl HB.out) hb)
                have n4_ := Aside0.mk (hbox)
                have n5_ := Aside0.mk ((by rw [hg]; exact (below_size (bl HB.out)) : w.heap.size ≤ gb191))
                have n6_ := Aside0.mk ((by rw [hg]; exact (below_size (bl HB.out)) : w.heap.size ≤ gb191))
                have n7_ := Aside0.mk ((by rw [hg]; exact Nat.ne_of_lt (blk_lt (g := gb176) (o := .cells #[.int .i64 ((rd_T38 l1 x7_1).f0), .int .i64 ((rd_T38 l1 x7_1).f1), .int .i64 ((rd_T38 l1 x7_1).f2.f0), .int .i64 ((rd_T38 l1 x7_1).f2.f1), .int .i64 ((rd_T38 l1 x7_1).f2.f2), .int .i64 ((rd_T38 l1 x7_1).f3)] 38 (0, 0)) (bt BK176.out)) : gb176 ≠ gb191))
                have n8_ := Aside0.mk ((by rw [hg]; exact Nat.ne_of_gt (blk_lt (g := gb176) (o := .cells #[.int .i64 ((rd_T38 l1 x7_1).f0), .int .i64 ((rd_T38 l1 x7_1).f1), .int .i64 ((rd_T38 l1 x7_1).f2.f0), .int .i64 ((rd_T38 l1 x7_1).f2.f1), .int .i64 ((rd_T38 l1 x7_1).f2.f2), .int .i64 ((rd_T38 l1 x7_1).f3)] 38 (0, 0)) (bt BK176.out)) : gb191 ≠ gb176))
                have n9_ := Aside0.mk ((by rw [hg]; exact Nat.ne_of_lt (blk_lt (g := gb182) (o := .cells #[.int .i64 t178, .int .i64 t179, .int .i64 t180] 36 (0, 0)) (bt BK182.out)) : gb182 ≠ gb191))
                have n10_ := Aside0.mk ((by rw [hg]; exact Nat.ne_of_gt (blk_lt (g := gb182) (o := .cells #[.int .i64 t178, .int .i64 t179, .int .i64 t180] 36 (0, 0)) (bt BK182.out)) : gb191 ≠ gb182))
                clear HO_6
                clear BK176
                clear BK182
                clear HB
                have HO_6 := n0_
                have BK176 := n1_
                have BK182 := n2_
                have HB := n3_
                have BK191 := n4_
                have GW191 := n5_
                have GE191 := n6_
                have NB176_191 := n7_
                have NB191_176 := n8_
                have NB182_191 := n9_
                have NB191_182 := n10_
                clear n0_ n1_ n2_ n3_ n4_ n5_ n6_ n7_ n8_ n9_ n10_
                clear hb hbox hg
                refine hK.out _ _ ⟨(blk_cell BK182.out 0).trans rfl, (blk_cell BK182.out 1).trans rfl, (blk_cell BK182.out 2).trans rfl, (blk_cell BK176.out 0).trans rfl, (blk_cell BK176.out 1).trans rfl, (blk_cell BK176.out 2).trans rfl, (blk_cell BK176.out 3).trans rfl, (blk_cell BK176.out 4).trans rfl, (blk_cell BK176.out 5).trans rfl, ((HB.out.cell (World.block_lt_of_cell? w _ hw183_0)).trans hw183_0), ((HB.out.cell (World.block_lt_of_cell? w _ hw183_1)).trans hw183_1), ((HB.out.cell (World.block_lt_of_cell? w _ hw183_2)).trans hw183_2)⟩ (fun hHeld => ?_)
                clear hK K
                refine norm_ (a' := ?_) ?_ ?_
                rotate_left
                ·show Act.put _ (some 11) _ = _
                 simp only [Act.put, List.setIfInBounds_toArray, List.set_cons_zero, List.set_cons_succ, i64_w, i32_w]
                 rfl
                exact norm_ (by simp only [putAll, Act.put, List.setIfInBounds_toArray, List.set_cons_zero, List.set_cons_succ]) (hCont (gb191) _ ⟨hHeld, (Rt HO_6.out), (bt BK176.out), (bt BK182.out), (bt BK191.out), GW191.out, GE191.out, NB176_191.out, NB191_176.out, NB182_191.out, NB191_182.out, (bl HB.out)⟩)
               ·skip
                refine box_step ?hg (N := 11) ?hd (cs := #[.int .i64 0, .int .i64 0, .int .i64 0]) (t := 36) ?hr ?_; (case hd => rfl); (case hg => rfl); (case hr => first | (go_simp; done) | (go_simp; rfl))
                intro gb191 hg w59 hbox hb
                have n0_ := Aside0.mk (Kd.R_below (Rt HO_6.out) hb)
                have n1_ := Aside0.mk (blk_below (g := gb176) (o := .cells #[.int .i64 ((rd_T38 l1 x7_1).f0), .int .i64 ((rd_T38 l1 x7_1).f1), .int .i64 ((rd_T38 l1 x7_1).f2.f0), .int .i64 ((rd_T38 l1 x7_1).f2.f1), .int .i64 ((rd_T38 l1 x7_1).f2.f2), .int .i64 ((rd_T38 l1 x7_1).f3)] 38 (0, 0)) (bt BK176.out) hb)
                have n2_ := Aside0.mk (blk_below (g := gb182) (o := .cells #[.int .i64 t178, .int .i64 t179, .int .i64 t180] 36 (0, 0)) (bt BK182.out) hb)
                have n3_ := Aside0.mk (below_step (bl HB.out) hb)
                have n4_ := Aside0.mk (hbox)
                have n5_ := Aside0.mk ((by rw [hg]; exact (below_size (bl HB.out)) : w.heap.size ≤ gb191))
                have n6_ := Aside0.mk ((by rw [hg]; exact (below_size (bl HB.out)) : w.heap.size ≤ gb191))
                have n7_ := Aside0.mk ((by rw [hg]; exact Nat.ne_of_lt (blk_lt (g := gb176) (o := .cells #[.int .i64 ((rd_T38 l1 x7_1).f0), .int .i64 ((rd_T38 l1 x7_1).f1), .int .i64 ((rd_T38 l1 x7_1).f2.f0), .int .i64 ((rd_T38 l1 x7_1).f2.f1), .int .i64 ((rd_T38 l1 x7_1).f2.f2), .int .i64 ((rd_T38 l1 x7_1).f3)] 38 (0, 0)) (bt BK176.out)) : gb176 ≠ gb191))
                have n8_ := Aside0.mk ((by rw [hg]; exact Nat.ne_of_gt (blk_lt (g := gb176) (o := .cells #[.int .i64 ((rd_T38 l1 x7_1).f0), .int .i64 ((rd_T38 l1 x7_1).f1), .int .i64 ((rd_T38 l1 x7_1).f2.f0), .int .i64 ((rd_T38 l1 x7_1).f2.f1), .int .i64 ((rd_T38 l1 x7_1).f2.f2), .int .i64 ((rd_T38 l1 x7_1).f3)] 38 (0, 0)) (bt BK176.out)) : gb191 ≠ gb176))
                have n9_ := Aside0.mk ((by rw [hg]; exact Nat.ne_of_lt (blk_lt (g := gb182) (o := .cells #[.int .i64 t178, .int .i64 t179, .int .i64 t180] 36 (0, 0)) (bt BK182.out)) : gb182 ≠ gb191))
                have n10_ := Aside0.mk ((by rw [hg]; exact Nat.ne_of_gt (blk_lt (g := gb182) (o := .cells #[.int .i64 t178, .int .i64 t179, .int .i64 t180] 36 (0, 0)) (bt BK182.out)) : gb191 ≠ gb182))
                clear HO_6
                clear BK176
                clear BK182
                clear HB
                have HO_6 := n0_
                have BK176 := n1_
                have BK182 := n2_
                have HB := n3_
                have BK191 := n4_
                have GW191 := n5_
                have GE191 := n6_
                have NB176_191 := n7_
                have NB191_176 := n8_
                have NB182_191 := n9_
                have NB191_182 := n10_
                clear n0_ n1_ n2_ n3_ n4_ n5_ n6_ n7_ n8_ n9_ n10_
                clear hb hbox hg
                refine hK.out _ _ ⟨(blk_cell BK182.out 0).trans rfl, (blk_cell BK182.out 1).trans rfl, (blk_cell BK182.out 2).trans rfl, (blk_cell BK176.out 0).trans rfl, (blk_cell BK176.out 1).trans rfl, (blk_cell BK176.out 2).trans rfl, (blk_cell BK176.out 3).trans rfl, (blk_cell BK176.out 4).trans rfl, (blk_cell BK176.out 5).trans rfl, ((HB.out.cell (World.block_lt_of_cell? w _ hw183_0)).trans hw183_0), ((HB.out.cell (World.block_lt_of_cell? w _ hw183_1)).trans hw183_1), ((HB.out.cell (World.block_lt_of_cell? w _ hw183_2)).trans hw183_2)⟩ (fun hHeld => ?_)
                clear hK K
                refine norm_ (a' := ?_) ?_ ?_
                rotate_left
                ·show Act.put _ (some 11) _ = _
                 simp only [Act.put, List.setIfInBounds_toArray, List.set_cons_zero, List.set_cons_succ, i64_w, i32_w]
                 rfl
                refine one_ (i := 7) (N := some 57) #[true, true, true, true, true, true, true, true, false, false, false, true, false, false] rfl rfl (one_of HT_.out (by kernel_rfl)) (by decide) (fun K hK => ?_)
                refine goes_ Try.func23 (by kernel_rfl) rfl #[.agg #[.int .i64 t178, .int .i64 t179, .int .i64 t180], .agg #[.int .i64 t184, .int .i64 t185, .int .i64 t186]] (by rfl) rfl rfl (by (try simp only [List.map_toArray, List.map_cons, List.map_nil]); first | done | rfl | (simp only [List.length_drop, List.length_take]; rfl)) ?_
                with_reducible refine (fringeref25_Mul.calls k1 t178 t179 t180 t184 t185 t186 t187 t188 t189 t190 _ A18.out).mono ?_
                rintro e w60 ⟨rfl, hb⟩
                refine ⟨_, rfl, ?_⟩
                have n0_ := Aside0.mk (Kd.R_below (Rt HO_6.out) hb)
                have n1_ := Aside0.mk (blk_below (g := gb176) (o := .cells #[.int .i64 ((rd_T38 l1 x7_1).f0), .int .i64 ((rd_T38 l1 x7_1).f1), .int .i64 ((rd_T38 l1 x7_1).f2.f0), .int .i64 ((rd_T38 l1 x7_1).f2.f1), .int .i64 ((rd_T38 l1 x7_1).f2.f2), .int .i64 ((rd_T38 l1 x7_1).f3)] 38 (0, 0)) (bt BK176.out) hb)
                have n2_ := Aside0.mk (blk_below (g := gb182) (o := .cells #[.int .i64 t178, .int .i64 t179, .int .i64 t180] 36 (0, 0)) (bt BK182.out) hb)
                have n3_ := Aside0.mk (blk_below (g := gb191) (o := .cells #[.int .i64 0, .int .i64 0, .int .i64 0] 36 (0, 0)) (bt BK191.out) hb)
                have n4_ := Aside0.mk (below_step (bl HB.out) hb)
                clear HO_6
                clear BK176
                clear BK182
                clear BK191
                clear HB
                have HO_6 := n0_
                have BK176 := n1_
                have BK182 := n2_
                have BK191 := n3_
                have HB := n4_
                clear n0_ n1_ n2_ n3_ n4_
                (try clear hb)
                (try clear hb2)
                (try clear hk)
                (try clear hi)
                refine hK.out _ _ ⟨(blk_cell BK182.out 0).trans rfl, (blk_cell BK182.out 1).trans rfl, (blk_cell BK182.out 2).trans rfl, (blk_cell BK176.out 0).trans rfl, (blk_cell BK176.out 1).trans rfl, (blk_cell BK176.out 2).trans rfl, (blk_cell BK176.out 3).trans rfl, (blk_cell BK176.out 4).trans rfl, (blk_cell BK176.out 5).trans rfl, ((HB.out.cell (World.block_lt_of_cell? w _ hw183_0)).trans hw183_0), ((HB.out.cell (World.block_lt_of_cell? w _ hw183_1)).trans hw183_1), ((HB.out.cell (World.block_lt_of_cell? w _ hw183_2)).trans hw183_2)⟩ (fun hHeld => ?_)
                clear hK K
                refine norm_ (a' := ?_) ?_ ?_
                rotate_left
                ·show Act.put _ (some 57) _ = _
                 simp only [Act.put, List.setIfInBounds_toArray, List.set_cons_zero, List.set_cons_succ, i64_w, i32_w]
                 rfl
                refine pure_ (i := 8) (N := some 49) (v := ?_) (a' := ?_) #[true, true, true, true, true, true, true, true, true, false, false, true, false, false] rfl rfl (any_of HT_.out (by kernel_rfl)) (fun _ _ _ h => h) (Or.inl ⟨by rfl, ?_⟩) ?_ ?_
                rotate_left
                ·intro w'
                 go_simp
                 with_reducible rfl
                rotate_left
                ·simp only [Act.put, List.setIfInBounds_toArray, List.set_cons_zero, List.set_cons_succ, i64_w, i32_w]
                 rfl
                refine pure_ (i := 9) (N := some 58) (v := ?_) (a' := ?_) #[true, true, true, true, true, true, true, true, true, true, false, true, false, false] rfl rfl (any_of HT_.out (by kernel_rfl)) (fun _ _ _ h => h) (Or.inl ⟨by rfl, ?_⟩) ?_ ?_
                rotate_left
                ·intro w'
                 go_simp
                 with_reducible rfl
                rotate_left
                ·simp only [Act.put, List.setIfInBounds_toArray, List.set_cons_zero, List.set_cons_succ, i64_w, i32_w]
                 rfl
                refine pure_ (i := 10) (N := some 59) (v := ?_) (a' := ?_) #[true, true, true, true, true, true, true, true, true, true, true, true, false, false] rfl rfl (any_of HT_.out (by kernel_rfl)) (fun _ _ _ h => h) (Or.inl ⟨by rfl, ?_⟩) ?_ ?_
                rotate_left
                ·intro w'
                 go_simp
                 with_reducible rfl
                rotate_left
                ·simp only [Act.put, List.setIfInBounds_toArray, List.set_cons_zero, List.set_cons_succ, i64_w, i32_w]
                 rfl
                exact norm_ (by simp only [putAll, Act.put, List.setIfInBounds_toArray, List.set_cons_zero, List.set_cons_succ]) (hCont (gb191) _ ⟨hHeld, (Rt HO_6.out), (bt BK176.out), (bt BK182.out), (bt BK191.out), GW191.out, GE191.out, NB176_191.out, NB191_176.out, NB182_191.out, NB191_182.out, (bl HB.out)⟩)
              ·skip
               refine box_step ?hg (N := 11) ?hd (cs := #[.int .i64 0, .int .i64 0, .int .i64 0]) (t := 36) ?hr ?_; (case hd => rfl); (case hg => rfl); (case hr => first | (go_simp; done) | (go_simp; rfl))
               intro gb191 hg w58 hbox hb
               have n0_ := Aside0.mk (Kd.R_below (Rt HO_6.out) hb)
               have n1_ := Aside0.mk (blk_below (g := gb176) (o := .cells #[.int .i64 ((rd_T38 l1 x7_1).f0), .int .i64 ((rd_T38 l1 x7_1).f1), .int .i64 ((rd_T38 l1 x7_1).f2.f0), .int .i64 ((rd_T38 l1 x7_1).f2.f1), .int .i64 ((rd_T38 l1 x7_1).f2.f2), .int .i64 ((rd_T38 l1 x7_1).f3)] 38 (0, 0)) (bt BK176.out) hb)
               have n2_ := Aside0.mk (blk_below (g := gb182) (o := .cells #[.int .i64 t178, .int .i64 t179, .int .i64 t180] 36 (0, 0)) (bt BK182.out) hb)
               have n3_ := Aside0.mk (below_step (bl HB.out) hb)
               have n4_ := Aside0.mk (hbox)
               have n5_ := Aside0.mk ((by rw [hg]; exact (below_size (bl HB.out)) : w.heap.size ≤ gb191))
               have n6_ := Aside0.mk ((by rw [hg]; exact (below_size (bl HB.out)) : w.heap.size ≤ gb191))
               have n7_ := Aside0.mk ((by rw [hg]; exact Nat.ne_of_lt (blk_lt (g := gb176) (o := .cells #[.int .i64 ((rd_T38 l1 x7_1).f0), .int .i64 ((rd_T38 l1 x7_1).f1), .int .i64 ((rd_T38 l1 x7_1).f2.f0), .int .i64 ((rd_T38 l1 x7_1).f2.f1), .int .i64 ((rd_T38 l1 x7_1).f2.f2), .int .i64 ((rd_T38 l1 x7_1).f3)] 38 (0, 0)) (bt BK176.out)) : gb176 ≠ gb191))
               have n8_ := Aside0.mk ((by rw [hg]; exact Nat.ne_of_gt (blk_lt (g := gb176) (o := .cells #[.int .i64 ((rd_T38 l1 x7_1).f0), .int .i64 ((rd_T38 l1 x7_1).f1), .int .i64 ((rd_T38 l1 x7_1).f2.f0), .int .i64 ((rd_T38 l1 x7_1).f2.f1), .int .i64 ((rd_T38 l1 x7_1).f2.f2), .int .i64 ((rd_T38 l1 x7_1).f3)] 38 (0, 0)) (bt BK176.out)) : gb191 ≠ gb176))
               have n9_ := Aside0.mk ((by rw [hg]; exact Nat.ne_of_lt (blk_lt (g := gb182) (o := .cells #[.int .i64 t178, .int .i64 t179, .int .i64 t180] 36 (0, 0)) (bt BK182.out)) : gb182 ≠ gb191))
               have n10_ := Aside0.mk ((by rw [hg]; exact Nat.ne_of_gt (blk_lt (g := gb182) (o := .cells #[.int .i64 t178, .int .i64 t179, .int .i64 t180] 36 (0, 0)) (bt BK182.out)) : gb191 ≠ gb182))
               clear HO_6
               clear BK176
               clear BK182
               clear HB
               have HO_6 := n0_
               have BK176 := n1_
               have BK182 := n2_
               have HB := n3_
               have BK191 := n4_
               have GW191 := n5_
               have GE191 := n6_
               have NB176_191 := n7_
               have NB191_176 := n8_
               have NB182_191 := n9_
               have NB191_182 := n10_
               clear n0_ n1_ n2_ n3_ n4_ n5_ n6_ n7_ n8_ n9_ n10_
               clear hb hbox hg
               refine hK.out _ _ ⟨(blk_cell BK182.out 0).trans rfl, (blk_cell BK182.out 1).trans rfl, (blk_cell BK182.out 2).trans rfl, (blk_cell BK176.out 0).trans rfl, (blk_cell BK176.out 1).trans rfl, (blk_cell BK176.out 2).trans rfl, (blk_cell BK176.out 3).trans rfl, (blk_cell BK176.out 4).trans rfl, (blk_cell BK176.out 5).trans rfl, ((HB.out.cell (World.block_lt_of_cell? w _ hw183_0)).trans hw183_0), ((HB.out.cell (World.block_lt_of_cell? w _ hw183_1)).trans hw183_1), ((HB.out.cell (World.block_lt_of_cell? w _ hw183_2)).trans hw183_2)⟩ (fun hHeld => ?_)
               clear hK K
               refine norm_ (a' := ?_) ?_ ?_
               rotate_left
               ·show Act.put _ (some 11) _ = _
                simp only [Act.put, List.setIfInBounds_toArray, List.set_cons_zero, List.set_cons_succ, i64_w, i32_w]
                rfl
               refine one_ (i := 6) (N := some 56) #[true, true, true, true, true, true, true, false, false, false, false, true, false, false] rfl rfl (one_of HT_.out (by kernel_rfl)) (by decide) (fun K hK => ?_)
               refine goes_ Try.func36 (by kernel_rfl) rfl #[.agg #[.int .i64 ((rd_T36 l0 ((rd_T38 l1 x7_1).f1)).f0), .int .i64 ((rd_T36 l0 ((rd_T38 l1 x7_1).f1)).f1), .int .i64 ((rd_T36 l0 ((rd_T38 l1 x7_1).f1)).f2)]] (by rfl) rfl rfl (by (try simp only [List.map_toArray, List.map_cons, List.map_nil]); first | done | rfl | (simp only [List.length_drop, List.length_take]; rfl)) ?_
               with_reducible refine (fringeref26_Apart.calls ((rd_T36 l0 ((rd_T38 l1 x7_1).f1)).f0) ((rd_T36 l0 ((rd_T38 l1 x7_1).f1)).f1) ((rd_T36 l0 ((rd_T38 l1 x7_1).f1)).f2) t184 t185 t186 _ A17.out).mono ?_
               rintro e w59 ⟨rfl, hb⟩
               refine ⟨_, rfl, ?_⟩
               have n0_ := Aside0.mk (Kd.R_below (Rt HO_6.out) hb)
               have n1_ := Aside0.mk (blk_below (g := gb176) (o := .cells #[.int .i64 ((rd_T38 l1 x7_1).f0), .int .i64 ((rd_T38 l1 x7_1).f1), .int .i64 ((rd_T38 l1 x7_1).f2.f0), .int .i64 ((rd_T38 l1 x7_1).f2.f1), .int .i64 ((rd_T38 l1 x7_1).f2.f2), .int .i64 ((rd_T38 l1 x7_1).f3)] 38 (0, 0)) (bt BK176.out) hb)
               have n2_ := Aside0.mk (blk_below (g := gb182) (o := .cells #[.int .i64 t178, .int .i64 t179, .int .i64 t180] 36 (0, 0)) (bt BK182.out) hb)
               have n3_ := Aside0.mk (blk_below (g := gb191) (o := .cells #[.int .i64 0, .int .i64 0, .int .i64 0] 36 (0, 0)) (bt BK191.out) hb)
               have n4_ := Aside0.mk (below_step (bl HB.out) hb)
               clear HO_6
               clear BK176
               clear BK182
               clear BK191
               clear HB
               have HO_6 := n0_
               have BK176 := n1_
               have BK182 := n2_
               have BK191 := n3_
               have HB := n4_
               clear n0_ n1_ n2_ n3_ n4_
               (try clear hb)
               (try clear hb2)
               (try clear hk)
               (try clear hi)
               refine hK.out _ _ ⟨(blk_cell BK182.out 0).trans rfl, (blk_cell BK182.out 1).trans rfl, (blk_cell BK182.out 2).trans rfl, (blk_cell BK176.out 0).trans rfl, (blk_cell BK176.out 1).trans rfl, (blk_cell BK176.out 2).trans rfl, (blk_cell BK176.out 3).trans rfl, (blk_cell BK176.out 4).trans rfl, (blk_cell BK176.out 5).trans rfl, ((HB.out.cell (World.block_lt_of_cell? w _ hw183_0)).trans hw183_0), ((HB.out.cell (World.block_lt_of_cell? w _ hw183_1)).trans hw183_1), ((HB.out.cell (World.block_lt_of_cell? w _ hw183_2)).trans hw183_2)⟩ (fun hHeld => ?_)
               clear hK K
               refine norm_ (a' := ?_) ?_ ?_
               rotate_left
               ·show Act.put _ (some 56) _ = _
                simp only [Act.put, List.setIfInBounds_toArray, List.set_cons_zero, List.set_cons_succ, i64_w, i32_w]
                rfl
               refine one_ (i := 7) (N := some 57) #[true, true, true, true, true, true, true, true, false, false, false, true, false, false] rfl rfl (one_of HT_.out (by kernel_rfl)) (by decide) (fun K hK => ?_)
               refine goes_ Try.func23 (by kernel_rfl) rfl #[.agg #[.int .i64 t178, .int .i64 t179, .int .i64 t180], .agg #[.int .i64 t184, .int .i64 t185, .int .i64 t186]] (by rfl) rfl rfl (by (try simp only [List.map_toArray, List.map_cons, List.map_nil]); first | done | rfl | (simp only [List.length_drop, List.length_take]; rfl)) ?_
               with_reducible refine (fringeref25_Mul.calls k1 t178 t179 t180 t184 t185 t186 t187 t188 t189 t190 _ A18.out).mono ?_
               rintro e w60 ⟨rfl, hb⟩
               refine ⟨_, rfl, ?_⟩
               have n0_ := Aside0.mk (Kd.R_below (Rt HO_6.out) hb)
               have n1_ := Aside0.mk (blk_below (g := gb176) (o := .cells #[.int .i64 ((rd_T38 l1 x7_1).f0), .int .i64 ((rd_T38 l1 x7_1).f1), .int .i64 ((rd_T38 l1 x7_1).f2.f0), .int .i64 ((rd_T38 l1 x7_1).f2.f1), .int .i64 ((rd_T38 l1 x7_1).f2.f2), .int .i64 ((rd_T38 l1 x7_1).f3)] 38 (0, 0)) (bt BK176.out) hb)
               have n2_ := Aside0.mk (blk_below (g := gb182) (o := .cells #[.int .i64 t178, .int .i64 t179, .int .i64 t180] 36 (0, 0)) (bt BK182.out) hb)
               have n3_ := Aside0.mk (blk_below (g := gb191) (o := .cells #[.int .i64 0, .int .i64 0, .int .i64 0] 36 (0, 0)) (bt BK191.out) hb)
               have n4_ := Aside0.mk (below_step (bl HB.out) hb)
               clear HO_6
               clear BK176
               clear BK182
               clear BK191
               clear HB
               have HO_6 := n0_
               have BK176 := n1_
               have BK182 := n2_
               have BK191 := n3_
               have HB := n4_
               clear n0_ n1_ n2_ n3_ n4_
               (try clear hb)
               (try clear hb2)
               (try clear hk)
               (try clear hi)
               refine hK.out _ _ ⟨(blk_cell BK182.out 0).trans rfl, (blk_cell BK182.out 1).trans rfl, (blk_cell BK182.out 2).trans rfl, (blk_cell BK176.out 0).trans rfl, (blk_cell BK176.out 1).trans rfl, (blk_cell BK176.out 2).trans rfl, (blk_cell BK176.out 3).trans rfl, (blk_cell BK176.out 4).trans rfl, (blk_cell BK176.out 5).trans rfl, ((HB.out.cell (World.block_lt_of_cell? w _ hw183_0)).trans hw183_0), ((HB.out.cell (World.block_lt_of_cell? w _ hw183_1)).trans hw183_1), ((HB.out.cell (World.block_lt_of_cell? w _ hw183_2)).trans hw183_2)⟩ (fun hHeld => ?_)
               clear hK K
               refine norm_ (a' := ?_) ?_ ?_
               rotate_left
               ·show Act.put _ (some 57) _ = _
                simp only [Act.put, List.setIfInBounds_toArray, List.set_cons_zero, List.set_cons_succ, i64_w, i32_w]
                rfl
               refine pure_ (i := 8) (N := some 49) (v := ?_) (a' := ?_) #[true, true, true, true, true, true, true, true, true, false, false, true, false, false] rfl rfl (any_of HT_.out (by kernel_rfl)) (fun _ _ _ h => h) (Or.inl ⟨by rfl, ?_⟩) ?_ ?_
               rotate_left
               ·intro w'
                go_simp
                with_reducible rfl
               rotate_left
               ·simp only [Act.put, List.setIfInBounds_toArray, List.set_cons_zero, List.set_cons_succ, i64_w, i32_w]
                rfl
               refine pure_ (i := 9) (N := some 58) (v := ?_) (a' := ?_) #[true, true, true, true, true, true, true, true, true, true, false, true, false, false] rfl rfl (any_of HT_.out (by kernel_rfl)) (fun _ _ _ h => h) (Or.inl ⟨by rfl, ?_⟩) ?_ ?_
               rotate_left
               ·intro w'
                go_simp
                with_reducible rfl
               rotate_left
               ·simp only [Act.put, List.setIfInBounds_toArray, List.set_cons_zero, List.set_cons_succ, i64_w, i32_w]
                rfl
               refine pure_ (i := 10) (N := some 59) (v := ?_) (a' := ?_) #[true, true, true, true, true, true, true, true, true, true, true, true, false, false] rfl rfl (any_of HT_.out (by kernel_rfl)) (fun _ _ _ h => h) (Or.inl ⟨by rfl, ?_⟩) ?_ ?_
               rotate_left
               ·intro w'
                go_simp
                with_reducible rfl
               rotate_left
               ·simp only [Act.put, List.setIfInBounds_toArray, List.set_cons_zero, List.set_cons_succ, i64_w, i32_w]
                rfl
               exact norm_ (by simp only [putAll, Act.put, List.setIfInBounds_toArray, List.set_cons_zero, List.set_cons_succ]) (hCont (gb191) _ ⟨hHeld, (Rt HO_6.out), (bt BK176.out), (bt BK182.out), (bt BK191.out), GW191.out, GE191.out, NB176_191.out, NB191_176.out, NB182_191.out, NB191_182.out, (bl HB.out)⟩)
             rintro gb191 w61 ⟨hS_, h0_, h1_, h2_, h3_, h4_, h5_, h6_, h7_, h8_, h9_, h10_⟩
             have n0_ : Aside0 (Kd.R k38 38 w61 w.heap.size (fun k_ => k_ ≠ gb176) u6 x6_1) := ⟨h0_⟩
             have n1_ : Aside0 (w61.heap[gb176]? = some (.cells #[.int .i64 ((rd_T38 l1 x7_1).f0), .int .i64 ((rd_T38 l1 x7_1).f1), .int .i64 ((rd_T38 l1 x7_1).f2.f0), .int .i64 ((rd_T38 l1 x7_1).f2.f1), .int .i64 ((rd_T38 l1 x7_1).f2.f2), .int .i64 ((rd_T38 l1 x7_1).f3)] 38 (0, 0))) := ⟨h1_⟩
             have n2_ : Aside0 (w61.heap[gb182]? = some (.cells #[.int .i64 t178, .int .i64 t179, .int .i64 t180] 36 (0, 0))) := ⟨h2_⟩
             have n3_ : Aside0 (w61.heap[gb191]? = some (.cells #[.int .i64 0, .int .i64 0, .int .i64 0] 36 (0, 0))) := ⟨h3_⟩
             have n4_ : Aside0 (w.heap.size ≤ gb191) := ⟨h4_⟩
             have n5_ : Aside0 (w.heap.size ≤ gb191) := ⟨h5_⟩
             have n6_ : Aside0 (gb176 ≠ gb191) := ⟨h6_⟩
             have n7_ : Aside0 (gb191 ≠ gb176) := ⟨h7_⟩
             have n8_ : Aside0 (gb182 ≠ gb191) := ⟨h8_⟩
             have n9_ : Aside0 (gb191 ≠ gb182) := ⟨h9_⟩
             have n10_ : Aside0 (Below w.heap.size w w61) := ⟨h10_⟩
             clear HO_6
             clear BK176
             clear BK182
             clear HB
             clear h0_ h1_ h2_ h3_ h4_ h5_ h6_ h7_ h8_ h9_ h10_
             have HO_6 := n0_
             have BK176 := n1_
             have BK182 := n2_
             have BK191 := n3_
             have GW191 := n4_
             have GE191 := n5_
             have NB176_191 := n6_
             have NB191_176 := n7_
             have NB182_191 := n8_
             have NB191_182 := n9_
             have HB := n10_
             clear n0_ n1_ n2_ n3_ n4_ n5_ n6_ n7_ n8_ n9_ n10_
             have hHeld : w61.cell? ⟨gb182, 0, none⟩ = some (.int .i64 t178) ∧ w61.cell? ⟨gb182, 1, none⟩ = some (.int .i64 t179) ∧ w61.cell? ⟨gb182, 2, none⟩ = some (.int .i64 t180) ∧ w61.cell? ⟨gb176, 0, none⟩ = some (.int .i64 ((rd_T38 l1 x7_1).f0)) ∧ w61.cell? ⟨gb176, 1, none⟩ = some (.int .i64 ((rd_T38 l1 x7_1).f1)) ∧ w61.cell? ⟨gb176, 2, none⟩ = some (.int .i64 ((rd_T38 l1 x7_1).f2.f0)) ∧ w61.cell? ⟨gb176, 3, none⟩ = some (.int .i64 ((rd_T38 l1 x7_1).f2.f1)) ∧ w61.cell? ⟨gb176, 4, none⟩ = some (.int .i64 ((rd_T38 l1 x7_1).f2.f2)) ∧ w61.cell? ⟨gb176, 5, none⟩ = some (.int .i64 ((rd_T38 l1 x7_1).f3)) ∧ w61.cell? (ad177.add ((((rd_T38 l1 x7_1).f1)).toNat * 3)) = some (.int .i64 ((rd_T36 l0 ((rd_T38 l1 x7_1).f1)).f0)) ∧ w61.cell? ⟨(ad177.add ((((rd_T38 l1 x7_1).f1)).toNat * 3)).block, (ad177.add ((((rd_T38 l1 x7_1).f1)).toNat * 3)).off + 1, none⟩ = some (.int .i64 ((rd_T36 l0 ((rd_T38 l1 x7_1).f1)).f1)) ∧ w61.cell? ⟨(ad177.add ((((rd_T38 l1 x7_1).f1)).toNat * 3)).block, (ad177.add ((((rd_T38 l1 x7_1).f1)).toNat * 3)).off + 2, none⟩ = some (.int .i64 ((rd_T36 l0 ((rd_T38 l1 x7_1).f1)).f2)) := hS_
             refine norm_ (a' := ?_) ?_ ?_
             rotate_left
             ·simp only [putAll, Act.put, List.setIfInBounds_toArray, List.set_cons_zero, List.set_cons_succ]
              rfl
             refine one_ (i := 12) (N := none) #[true, true, true, true, true, true, true, true, true, true, true, true, true, false] rfl rfl (one_of HT_.out (by kernel_rfl)) (by decide) (fun K hK => ?_)
             have hs62 : w61.cell? ⟨gb191, 0, none⟩ = some (.int .i64 0) := (blk_cell BK191.out 0).trans rfl
             have hfs62 := blk_frozen BK191.out 0
             have hns62_0 := NB176_191.out
             have hns62_1 := NB182_191.out
             have hms62_0 := NB191_176.out
             have hms62_1 := NB191_182.out
             have hs63 : w61.cell? ⟨gb191, 1, none⟩ = some (.int .i64 0) := (blk_cell BK191.out 1).trans rfl
             have hfs63 := blk_frozen BK191.out 1
             have hns63_0 := NB176_191.out
             have hns63_1 := NB182_191.out
             have hms63_0 := NB191_176.out
             have hms63_1 := NB191_182.out
             have hs64 : w61.cell? ⟨gb191, 2, none⟩ = some (.int .i64 0) := (blk_cell BK191.out 2).trans rfl
             have hfs64 := blk_frozen BK191.out 2
             have hns64_0 := NB176_191.out
             have hns64_1 := NB182_191.out
             have hms64_0 := NB191_176.out
             have hms64_1 := NB191_182.out
             refine skip_ (w1 := ?_) (by rfl) rfl ?_ ?_
             rotate_left
             ·go_simp
              rfl
             refine hK.out _ _ ⟨((cell_far (p := ⟨gb191, _, none⟩) NB182_191.out _).trans (((cell_far (p := ⟨gb191, _, none⟩) NB182_191.out _).trans (((cell_far (p := ⟨gb191, _, none⟩) NB182_191.out _).trans (hHeld.1)))))), ((cell_far (p := ⟨gb191, _, none⟩) NB182_191.out _).trans (((cell_far (p := ⟨gb191, _, none⟩) NB182_191.out _).trans (((cell_far (p := ⟨gb191, _, none⟩) NB182_191.out _).trans (hHeld.2.1)))))), ((cell_far (p := ⟨gb191, _, none⟩) NB182_191.out _).trans (((cell_far (p := ⟨gb191, _, none⟩) NB182_191.out _).trans (((cell_far (p := ⟨gb191, _, none⟩) NB182_191.out _).trans (hHeld.2.2.1)))))), ((cell_far (p := ⟨gb191, _, none⟩) NB176_191.out _).trans (((cell_far (p := ⟨gb191, _, none⟩) NB176_191.out _).trans (((cell_far (p := ⟨gb191, _, none⟩) NB176_191.out _).trans (hHeld.2.2.2.1)))))), ((cell_far (p := ⟨gb191, _, none⟩) NB176_191.out _).trans (((cell_far (p := ⟨gb191, _, none⟩) NB176_191.out _).trans (((cell_far (p := ⟨gb191, _, none⟩) NB176_191.out _).trans (hHeld.2.2.2.2.1)))))), ((cell_far (p := ⟨gb191, _, none⟩) NB176_191.out _).trans (((cell_far (p := ⟨gb191, _, none⟩) NB176_191.out _).trans (((cell_far (p := ⟨gb191, _, none⟩) NB176_191.out _).trans (hHeld.2.2.2.2.2.1)))))), ((cell_far (p := ⟨gb191, _, none⟩) NB176_191.out _).trans (((cell_far (p := ⟨gb191, _, none⟩) NB176_191.out _).trans (((cell_far (p := ⟨gb191, _, none⟩) NB176_191.out _).trans (hHeld.2.2.2.2.2.2.1)))))), ((cell_far (p := ⟨gb191, _, none⟩) NB176_191.out _).trans (((cell_far (p := ⟨gb191, _, none⟩) NB176_191.out _).trans (((cell_far (p := ⟨gb191, _, none⟩) NB176_191.out _).trans (hHeld.2.2.2.2.2.2.2.1)))))), ((cell_far (p := ⟨gb191, _, none⟩) NB176_191.out _).trans (((cell_far (p := ⟨gb191, _, none⟩) NB176_191.out _).trans (((cell_far (p := ⟨gb191, _, none⟩) NB176_191.out _).trans (hHeld.2.2.2.2.2.2.2.2.1)))))), ((cell_far (p := ⟨gb191, _, none⟩) (by first | exact Nat.ne_of_lt (Nat.lt_of_lt_of_le (by have := World.block_lt_of_cell? _ _ hw183_0; first | rwa [add_block] at this | exact this) GW191.out) | (rw [add_block]; exact Nat.ne_of_lt (Nat.lt_of_lt_of_le (by have := World.block_lt_of_cell? _ _ hw183_0; first | rwa [add_block] at this | exact this) GW191.out)) | (show (Addr.add _ _).block ≠ _; rw [add_block]; exact Nat.ne_of_lt (Nat.lt_of_lt_of_le (by have := World.block_lt_of_cell? _ _ hw183_0; first | rwa [add_block] at this | exact this) GW191.out)) | (dsimp only; exact Nat.ne_of_lt (Nat.lt_of_lt_of_le (by have := World.block_lt_of_cell? _ _ hw183_0; first | rwa [add_block] at this | exact this) GW191.out))) _).trans (((cell_far (p := ⟨gb191, _, none⟩) (by first | exact Nat.ne_of_lt (Nat.lt_of_lt_of_le (by have := World.block_lt_of_cell? _ _ hw183_0; first | rwa [add_block] at this | exact this) GW191.out) | (rw [add_block]; exact Nat.ne_of_lt (Nat.lt_of_lt_of_le (by have := World.block_lt_of_cell? _ _ hw183_0; first | rwa [add_block] at this | exact this) GW191.out)) | (show (Addr.add _ _).block ≠ _; rw [add_block]; exact Nat.ne_of_lt (Nat.lt_of_lt_of_le (by have := World.block_lt_of_cell? _ _ hw183_0; first | rwa [add_block] at this | exact this) GW191.out)) | (dsimp only; exact Nat.ne_of_lt (Nat.lt_of_lt_of_le (by have := World.block_lt_of_cell? _ _ hw183_0; first | rwa [add_block] at this | exact this) GW191.out))) _).trans (((cell_far (p := ⟨gb191, _, none⟩) (by first | exact Nat.ne_of_lt (Nat.lt_of_lt_of_le (by have := World.block_lt_of_cell? _ _ hw183_0; first | rwa [add_block] at this | exact this) GW191.out) | (rw [add_block]; exact Nat.ne_of_lt (Nat.lt_of_lt_of_le (by have := World.block_lt_of_cell? _ _ hw183_0; first | rwa [add_block] at this | exact this) GW191.out)) | (show (Addr.add _ _).block ≠ _; rw [add_block]; exact Nat.ne_of_lt (Nat.lt_of_lt_of_le (by have := World.block_lt_of_cell? _ _ hw183_0; first | rwa [add_block] at this | exact this) GW191.out)) | (dsimp only; exact Nat.ne_of_lt (Nat.lt_of_lt_of_le (by have := World.block_lt_of_cell? _ _ hw183_0; first | rwa [add_block] at this | exact this) GW191.out))) _).trans (hHeld.2.2.2.2.2.2.2.2.2.1)))))), ((cell_far (p := ⟨gb191, _, none⟩) (by first | exact Nat.ne_of_lt (Nat.lt_of_lt_of_le (by have := World.block_lt_of_cell? _ _ hw183_1; first | rwa [add_block] at this | exact this) GW191.out) | (rw [add_block]; exact Nat.ne_of_lt (Nat.lt_of_lt_of_le (by have := World.block_lt_of_cell? _ _ hw183_1; first | rwa [add_block] at this | exact this) GW191.out)) | (show (Addr.add _ _).block ≠ _; rw [add_block]; exact Nat.ne_of_lt (Nat.lt_of_lt_of_le (by have := World.block_lt_of_cell? _ _ hw183_1; first | rwa [add_block] at this | exact this) GW191.out)) | (dsimp only; exact Nat.ne_of_lt (Nat.lt_of_lt_of_le (by have := World.block_lt_of_cell? _ _ hw183_1; first | rwa [add_block] at this | exact this) GW191.out))) _).trans (((cell_far (p := ⟨gb191, _, none⟩) (by first | exact Nat.ne_of_lt (Nat.lt_of_lt_of_le (by have := World.block_lt_of_cell? _ _ hw183_1; first | rwa [add_block] at this | exact this) GW191.out) | (rw [add_block]; exact Nat.ne_of_lt (Nat.lt_of_lt_of_le (by have := World.block_lt_of_cell? _ _ hw183_1; first | rwa [add_block] at this | exact this) GW191.out)) | (show (Addr.add _ _).block ≠ _; rw [add_block]; exact Nat.ne_of_lt (Nat.lt_of_lt_of_le (by have := World.block_lt_of_cell? _ _ hw183_1; first | rwa [add_block] at this | exact this) GW191.out)) | (dsimp only; exact Nat.ne_of_lt (Nat.lt_of_lt_of_le (by have := World.block_lt_of_cell? _ _ hw183_1; first | rwa [add_block] at this | exact this) GW191.out))) _).trans (((cell_far (p := ⟨gb191, _, none⟩) (by first | exact Nat.ne_of_lt (Nat.lt_of_lt_of_le (by have := World.block_lt_of_cell? _ _ hw183_1; first | rwa [add_block] at this | exact this) GW191.out) | (rw [add_block]; exact Nat.ne_of_lt (Nat.lt_of_lt_of_le (by have := World.block_lt_of_cell? _ _ hw183_1; first | rwa [add_block] at this | exact this) GW191.out)) | (show (Addr.add _ _).block ≠ _; rw [add_block]; exact Nat.ne_of_lt (Nat.lt_of_lt_of_le (by have := World.block_lt_of_cell? _ _ hw183_1; first | rwa [add_block] at this | exact this) GW191.out)) | (dsimp only; exact Nat.ne_of_lt (Nat.lt_of_lt_of_le (by have := World.block_lt_of_cell? _ _ hw183_1; first | rwa [add_block] at this | exact this) GW191.out))) _).trans (hHeld.2.2.2.2.2.2.2.2.2.2.1)))))), ((cell_far (p := ⟨gb191, _, none⟩) (by first | exact Nat.ne_of_lt (Nat.lt_of_lt_of_le (by have := World.block_lt_of_cell? _ _ hw183_2; first | rwa [add_block] at this | exact this) GW191.out) | (rw [add_block]; exact Nat.ne_of_lt (Nat.lt_of_lt_of_le (by have := World.block_lt_of_cell? _ _ hw183_2; first | rwa [add_block] at this | exact this) GW191.out)) | (show (Addr.add _ _).block ≠ _; rw [add_block]; exact Nat.ne_of_lt (Nat.lt_of_lt_of_le (by have := World.block_lt_of_cell? _ _ hw183_2; first | rwa [add_block] at this | exact this) GW191.out)) | (dsimp only; exact Nat.ne_of_lt (Nat.lt_of_lt_of_le (by have := World.block_lt_of_cell? _ _ hw183_2; first | rwa [add_block] at this | exact this) GW191.out))) _).trans (((cell_far (p := ⟨gb191, _, none⟩) (by first | exact Nat.ne_of_lt (Nat.lt_of_lt_of_le (by have := World.block_lt_of_cell? _ _ hw183_2; first | rwa [add_block] at this | exact this) GW191.out) | (rw [add_block]; exact Nat.ne_of_lt (Nat.lt_of_lt_of_le (by have := World.block_lt_of_cell? _ _ hw183_2; first | rwa [add_block] at this | exact this) GW191.out)) | (show (Addr.add _ _).block ≠ _; rw [add_block]; exact Nat.ne_of_lt (Nat.lt_of_lt_of_le (by have := World.block_lt_of_cell? _ _ hw183_2; first | rwa [add_block] at this | exact this) GW191.out)) | (dsimp only; exact Nat.ne_of_lt (Nat.lt_of_lt_of_le (by have := World.block_lt_of_cell? _ _ hw183_2; first | rwa [add_block] at this | exact this) GW191.out))) _).trans (((cell_far (p := ⟨gb191, _, none⟩) (by first | exact Nat.ne_of_lt (Nat.lt_of_lt_of_le (by have := World.block_lt_of_cell? _ _ hw183_2; first | rwa [add_block] at this | exact this) GW191.out) | (rw [add_block]; exact Nat.ne_of_lt (Nat.lt_of_lt_of_le (by have := World.block_lt_of_cell? _ _ hw183_2; first | rwa [add_block] at this | exact this) GW191.out)) | (show (Addr.add _ _).block ≠ _; rw [add_block]; exact Nat.ne_of_lt (Nat.lt_of_lt_of_le (by have := World.block_lt_of_cell? _ _ hw183_2; first | rwa [add_block] at this | exact this) GW191.out)) | (dsimp only; exact Nat.ne_of_lt (Nat.lt_of_lt_of_le (by have := World.block_lt_of_cell? _ _ hw183_2; first | rwa [add_block] at this | exact this) GW191.out))) _).trans (hHeld.2.2.2.2.2.2.2.2.2.2.2))))))⟩ (fun hHeld => ?_)
             clear hK K
             refine pure_ (i := 13) (N := some 10) (v := ?_) (a' := ?_) #[true, true, true, true, true, true, true, true, true, true, true, true, true, true] rfl rfl (any_of HT_.out (by kernel_rfl)) (fun _ _ _ h => h) (Or.inl ⟨by rfl, ?_⟩) ?_ ?_
             rotate_left
             ·intro w'
              go_simp
              with_reducible rfl
             rotate_left
             ·simp only [Act.put, List.setIfInBounds_toArray, List.set_cons_zero, List.set_cons_succ, i64_w, i32_w]
              rfl
             refine done_ (done_of HT_.out (by kernel_rfl)) ?_
             try go_wp2
             go_ret2
             exact ⟨_, by first | rfl | (simp [errW_none, errW_some] <;> rfl) | (simp [*, errW_none, errW_some] <;> rfl), by first | exact Kd.R_nil _ _ _ _ _ | exact Kd.N_nil _ _ _ _ _ | exact Kd.V_nil _ _ _ _ _ | exact Kd.Q_nil _ _ _ _ _ | exact Kd.S_nil _ _ _ _ _, by repeat (first | (with_reducible first | exact HB.out | apply below_alloc | apply pw_below_drewN | apply below_drew1 | refine below_set ?_ GE176.out | refine below_set ?_ GE182.out | refine below_set ?_ GE191.out) | exact HB.out)⟩
           ·rw [if_neg c16] at H
            exact absurd H (by simp)
          ·rw [if_neg c15] at H
           exact absurd H (by simp)
         ·rw [if_neg c14] at H
          have c14b0 : (t181 == 0) = false := beq_eq_false_iff_ne.mpr c14
          have c14b1 : (t181 != 0) = true := bne_iff_ne.mpr c14
          simp only [Option.some.injEq, Prod.mk.injEq] at H
          obtain ⟨rfl, rfl⟩ := H
          have p175 : 0 ≤ (x7_1 : Int) := of_decide_eq_true (by first | (with_reducible assumption) | assumption)
          have q175 : x7_1 < (l1.length : Int) := of_decide_eq_true (by first | (with_reducible assumption) | assumption)
          obtain ⟨ad175, e175, hx175_0, hx175_1, hx175_2, hx175_3, hx175_4, hx175_5⟩ := at_T38 HR1.out x7_1 p175 q175
          cases e175
          replace hx175_0 := (HB.out.cell (World.block_lt_of_cell? w _ hx175_0)).trans hx175_0
          replace hx175_1 := (HB.out.cell (World.block_lt_of_cell? w _ hx175_1)).trans hx175_1
          replace hx175_2 := (HB.out.cell (World.block_lt_of_cell? w _ hx175_2)).trans hx175_2
          replace hx175_3 := (HB.out.cell (World.block_lt_of_cell? w _ hx175_3)).trans hx175_3
          replace hx175_4 := (HB.out.cell (World.block_lt_of_cell? w _ hx175_4)).trans hx175_4
          replace hx175_5 := (HB.out.cell (World.block_lt_of_cell? w _ hx175_5)).trans hx175_5
          replace p175 := eq_true p175
          replace q175 := eq_true q175
          try go_wp2_with (first | ((with_reducible refine gate_dst (N := 8) rfl ?_); refine box_event ?hg (N := 8) ?hd (cs := #[.int .i64 0, .int .i64 0, .int .i64 0, .int .i64 0, .int .i64 0, .int .i64 0]) (t := 38) ?hr ?_; (case hd => rfl); (case hg => rfl); (case hr => first | (go_simp; done) | (go_simp; rfl)); intro gb176 hg w65 hbox hb; have n0_ := Aside0.mk (Kd.R_below (Kd.R_elderB (Rt HO_6.out) gb176 (Nat.le_of_eq hg.symm)) hb); have n1_ := Aside0.mk (below_step (bl HB.out) hb); have n2_ := Aside0.mk (hbox); have n3_ := Aside0.mk ((by rw [hg]; exact (below_size (bl HB.out)) : w.heap.size ≤ gb176)); have n4_ := Aside0.mk ((by rw [hg]; exact (below_size (bl HB.out)) : w.heap.size ≤ gb176)); clear HO_6; clear HB; have HO_6 := n0_; have HB := n1_; have BK176 := n2_; have GW176 := n3_; have GE176 := n4_; clear n0_ n1_ n2_ n3_ n4_; clear hb hbox hg; have hcz66_0 : w65.cell? ⟨gb176, 0, none⟩ = some (.int .i64 0) := (blk_cell BK176.out 0).trans rfl; have hcz66_1 : w65.cell? ⟨gb176, 1, none⟩ = some (.int .i64 0) := (blk_cell BK176.out 1).trans rfl; have hcz66_2 : w65.cell? ⟨gb176, 2, none⟩ = some (.int .i64 0) := (blk_cell BK176.out 2).trans rfl; have hcz66_3 : w65.cell? ⟨gb176, 3, none⟩ = some (.int .i64 0) := (blk_cell BK176.out 3).trans rfl; have hcz66_4 : w65.cell? ⟨gb176, 4, none⟩ = some (.int .i64 0) := (blk_cell BK176.out 4).trans rfl; have hcz66_5 : w65.cell? ⟨gb176, 5, none⟩ = some (.int .i64 0) := (blk_cell BK176.out 5).trans rfl; have hfz66_0 := blk_frozen BK176.out 0; have hfz66_1 := blk_frozen BK176.out 1; have hfz66_2 := blk_frozen BK176.out 2; have hfz66_3 := blk_frozen BK176.out 3; have hfz66_4 := blk_frozen BK176.out 4; have hfz66_5 := blk_frozen BK176.out 5))
          have n0_ : Aside0 (Kd.R k38 38 ((((((w65.setCell ⟨gb176, 0, none⟩ (.int .i64 ((rd_T38 l1 x7_1).f0))).setCell ⟨gb176, 1, none⟩ (.int .i64 ((rd_T38 l1 x7_1).f1))).setCell ⟨gb176, 2, none⟩ (.int .i64 ((rd_T38 l1 x7_1).f2.f0))).setCell ⟨gb176, 3, none⟩ (.int .i64 ((rd_T38 l1 x7_1).f2.f1))).setCell ⟨gb176, 4, none⟩ (.int .i64 ((rd_T38 l1 x7_1).f2.f2))).setCell ⟨gb176, 5, none⟩ (.int .i64 ((rd_T38 l1 x7_1).f3))) w.heap.size (fun k_ => k_ ≠ gb176) u6 x6_1) := ⟨by (with_reducible repeat (first | apply Kd.R_alloc | apply Kd.R_drewN | apply Kd.R_drew)); exact Kd.R_mono (Kd.R_far (p := ⟨gb176, 5, none⟩) (Kd.R_far (p := ⟨gb176, 4, none⟩) (Kd.R_far (p := ⟨gb176, 3, none⟩) (Kd.R_far (p := ⟨gb176, 2, none⟩) (Kd.R_far (p := ⟨gb176, 1, none⟩) (Kd.R_far (p := ⟨gb176, 0, none⟩) (Kd.R_mono HO_6.out (fun k_ hk => (⟨hk, hk.2⟩ : _ ∧ k_ ≠ gb176))) (fun _ hk => hk.2) (.int .i64 ((rd_T38 l1 x7_1).f0))) (fun _ hk => hk.2) (.int .i64 ((rd_T38 l1 x7_1).f1))) (fun _ hk => hk.2) (.int .i64 ((rd_T38 l1 x7_1).f2.f0))) (fun _ hk => hk.2) (.int .i64 ((rd_T38 l1 x7_1).f2.f1))) (fun _ hk => hk.2) (.int .i64 ((rd_T38 l1 x7_1).f2.f2))) (fun _ hk => hk.2) (.int .i64 ((rd_T38 l1 x7_1).f3))) (fun _ hk => hk.1.2)⟩
          have n1_ : Aside0 (((((((w65.setCell ⟨gb176, 0, none⟩ (.int .i64 ((rd_T38 l1 x7_1).f0))).setCell ⟨gb176, 1, none⟩ (.int .i64 ((rd_T38 l1 x7_1).f1))).setCell ⟨gb176, 2, none⟩ (.int .i64 ((rd_T38 l1 x7_1).f2.f0))).setCell ⟨gb176, 3, none⟩ (.int .i64 ((rd_T38 l1 x7_1).f2.f1))).setCell ⟨gb176, 4, none⟩ (.int .i64 ((rd_T38 l1 x7_1).f2.f2))).setCell ⟨gb176, 5, none⟩ (.int .i64 ((rd_T38 l1 x7_1).f3))).heap[gb176]? = some (.cells #[.int .i64 ((rd_T38 l1 x7_1).f0), .int .i64 ((rd_T38 l1 x7_1).f1), .int .i64 ((rd_T38 l1 x7_1).f2.f0), .int .i64 ((rd_T38 l1 x7_1).f2.f1), .int .i64 ((rd_T38 l1 x7_1).f2.f2), .int .i64 ((rd_T38 l1 x7_1).f3)] 38 (0, 0))) := ⟨by (with_reducible repeat (first | refine blk_drewN ?_ _ | refine blk_drew ?_ | refine blk_alloc ?_ _)); refine blk_put (cs := #[.int .i64 ((rd_T38 l1 x7_1).f0), .int .i64 ((rd_T38 l1 x7_1).f1), .int .i64 ((rd_T38 l1 x7_1).f2.f0), .int .i64 ((rd_T38 l1 x7_1).f2.f1), .int .i64 ((rd_T38 l1 x7_1).f2.f2), .int .i64 0]) ?_ 5 _ rfl; (with_reducible repeat (first | refine blk_drewN ?_ _ | refine blk_drew ?_ | refine blk_alloc ?_ _)); refine blk_put (cs := #[.int .i64 ((rd_T38 l1 x7_1).f0), .int .i64 ((rd_T38 l1 x7_1).f1), .int .i64 ((rd_T38 l1 x7_1).f2.f0), .int .i64 ((rd_T38 l1 x7_1).f2.f1), .int .i64 0, .int .i64 0]) ?_ 4 _ rfl; (with_reducible repeat (first | refine blk_drewN ?_ _ | refine blk_drew ?_ | refine blk_alloc ?_ _)); refine blk_put (cs := #[.int .i64 ((rd_T38 l1 x7_1).f0), .int .i64 ((rd_T38 l1 x7_1).f1), .int .i64 ((rd_T38 l1 x7_1).f2.f0), .int .i64 0, .int .i64 0, .int .i64 0]) ?_ 3 _ rfl; (with_reducible repeat (first | refine blk_drewN ?_ _ | refine blk_drew ?_ | refine blk_alloc ?_ _)); refine blk_put (cs := #[.int .i64 ((rd_T38 l1 x7_1).f0), .int .i64 ((rd_T38 l1 x7_1).f1), .int .i64 0, .int .i64 0, .int .i64 0, .int .i64 0]) ?_ 2 _ rfl; (with_reducible repeat (first | refine blk_drewN ?_ _ | refine blk_drew ?_ | refine blk_alloc ?_ _)); refine blk_put (cs := #[.int .i64 ((rd_T38 l1 x7_1).f0), .int .i64 0, .int .i64 0, .int .i64 0, .int .i64 0, .int .i64 0]) ?_ 1 _ rfl; (with_reducible repeat (first | refine blk_drewN ?_ _ | refine blk_drew ?_ | refine blk_alloc ?_ _)); refine blk_put (cs := #[.int .i64 0, .int .i64 0, .int .i64 0, .int .i64 0, .int .i64 0, .int .i64 0]) ?_ 0 _ rfl; (with_reducible repeat (first | refine blk_drewN ?_ _ | refine blk_drew ?_ | refine blk_alloc ?_ _)); exact BK176.out⟩
          have n2_ : Aside0 (Below w.heap.size w ((((((w65.setCell ⟨gb176, 0, none⟩ (.int .i64 ((rd_T38 l1 x7_1).f0))).setCell ⟨gb176, 1, none⟩ (.int .i64 ((rd_T38 l1 x7_1).f1))).setCell ⟨gb176, 2, none⟩ (.int .i64 ((rd_T38 l1 x7_1).f2.f0))).setCell ⟨gb176, 3, none⟩ (.int .i64 ((rd_T38 l1 x7_1).f2.f1))).setCell ⟨gb176, 4, none⟩ (.int .i64 ((rd_T38 l1 x7_1).f2.f2))).setCell ⟨gb176, 5, none⟩ (.int .i64 ((rd_T38 l1 x7_1).f3)))) := ⟨by repeat (first | (with_reducible first | exact HB.out | apply below_alloc | apply pw_below_drewN | apply below_drew1 | refine below_set ?_ GE176.out) | exact HB.out)⟩
          (try clear HO_6)
          (try clear BK176)
          (try clear HB)
          generalize ((((((w65.setCell ⟨gb176, 0, none⟩ (.int .i64 ((rd_T38 l1 x7_1).f0))).setCell ⟨gb176, 1, none⟩ (.int .i64 ((rd_T38 l1 x7_1).f1))).setCell ⟨gb176, 2, none⟩ (.int .i64 ((rd_T38 l1 x7_1).f2.f0))).setCell ⟨gb176, 3, none⟩ (.int .i64 ((rd_T38 l1 x7_1).f2.f1))).setCell ⟨gb176, 4, none⟩ (.int .i64 ((rd_T38 l1 x7_1).f2.f2))).setCell ⟨gb176, 5, none⟩ (.int .i64 ((rd_T38 l1 x7_1).f3))) = w67 at n0_ n1_ n2_ ⊢
          have HO_6 := n0_
          have BK176 := n1_
          have HB := n2_
          clear n0_ n1_ n2_
          have n0_ := Aside0.mk (Kd.R_drew HO_6.out)
          have n1_ := Aside0.mk (blk_drew BK176.out)
          have n2_ := Aside0.mk (below_drew1 HB.out)
          clear HO_6
          clear BK176
          clear HB
          have HO_6 := n0_
          have BK176 := n1_
          have HB := n2_
          clear n0_ n1_ n2_
          have p177 : 0 ≤ (((rd_T38 l1 x7_1).f0) : Int) := of_decide_eq_true (by first | (with_reducible assumption) | assumption)
          have q177 : ((rd_T38 l1 x7_1).f0) < (l0.length : Int) := of_decide_eq_true (by first | (with_reducible assumption) | assumption)
          obtain ⟨ad177, e177, hx177_0, hx177_1, hx177_2⟩ := at_T36 HR0.out ((rd_T38 l1 x7_1).f0) p177 q177
          have hw177_2 := hx177_2
          have hw177_1 := hx177_1
          have hw177_0 := hx177_0
          cases e177
          replace hx177_0 := (HB.out.cell (World.block_lt_of_cell? w _ hx177_0)).trans hx177_0
          replace hx177_1 := (HB.out.cell (World.block_lt_of_cell? w _ hx177_1)).trans hx177_1
          replace hx177_2 := (HB.out.cell (World.block_lt_of_cell? w _ hx177_2)).trans hx177_2
          replace p177 := eq_true p177
          replace q177 := eq_true q177
          refine start_ (n := 14) (S := fun w' => w'.cell? ⟨gb176, 0, none⟩ = some (.int .i64 ((rd_T38 l1 x7_1).f0)) ∧ w'.cell? ⟨gb176, 1, none⟩ = some (.int .i64 ((rd_T38 l1 x7_1).f1)) ∧ w'.cell? ⟨gb176, 2, none⟩ = some (.int .i64 ((rd_T38 l1 x7_1).f2.f0)) ∧ w'.cell? ⟨gb176, 3, none⟩ = some (.int .i64 ((rd_T38 l1 x7_1).f2.f1)) ∧ w'.cell? ⟨gb176, 4, none⟩ = some (.int .i64 ((rd_T38 l1 x7_1).f2.f2)) ∧ w'.cell? ⟨gb176, 5, none⟩ = some (.int .i64 ((rd_T38 l1 x7_1).f3)) ∧ w'.cell? (ad177.add ((((rd_T38 l1 x7_1).f0)).toNat * 3)) = some (.int .i64 ((rd_T36 l0 ((rd_T38 l1 x7_1).f0)).f0)) ∧ w'.cell? ⟨(ad177.add ((((rd_T38 l1 x7_1).f0)).toNat * 3)).block, (ad177.add ((((rd_T38 l1 x7_1).f0)).toNat * 3)).off + 1, none⟩ = some (.int .i64 ((rd_T36 l0 ((rd_T38 l1 x7_1).f0)).f1)) ∧ w'.cell? ⟨(ad177.add ((((rd_T38 l1 x7_1).f0)).toNat * 3)).block, (ad177.add ((((rd_T38 l1 x7_1).f0)).toNat * 3)).off + 2, none⟩ = some (.int .i64 ((rd_T36 l0 ((rd_T38 l1 x7_1).f0)).f2))) (ds := []) #[false, false, false, false, false, false, false, false, false, false, false, false, false, false] (by kernel_rfl) rfl rfl ⟨(blk_cell BK176.out 0).trans rfl, (blk_cell BK176.out 1).trans rfl, (blk_cell BK176.out 2).trans rfl, (blk_cell BK176.out 3).trans rfl, (blk_cell BK176.out 4).trans rfl, (blk_cell BK176.out 5).trans rfl, ((HB.out.cell (World.block_lt_of_cell? w _ hw177_0)).trans hw177_0), ((HB.out.cell (World.block_lt_of_cell? w _ hw177_1)).trans hw177_1), ((HB.out.cell (World.block_lt_of_cell? w _ hw177_2)).trans hw177_2)⟩ (fun hHeld => ?_); refine with_tabW fringeref26_Act.tab10 fringeref26_Act.bits10 (fun HT_ HW_ => ?_)
          generalize w67.drew = w68 at HO_6 BK176 HB hx177_0 hx177_1 hx177_2 hHeld ⊢
          refine pure_ (i := 0) (N := some 37) (v := ?_) (a' := ?_) #[true, false, false, false, false, false, false, false, false, false, false, false, false, false] rfl rfl (any_of HT_.out (by kernel_rfl)) (fun _ _ _ h => h) (Or.inl ⟨by rfl, ?_⟩) ?_ ?_
          rotate_left
          ·intro w'
           go_simp
           with_reducible rfl
          rotate_left
          ·simp only [Act.put, List.setIfInBounds_toArray, List.set_cons_zero, List.set_cons_succ, i64_w, i32_w]
           rfl
          refine pure_ (i := 1) (N := some 38) (v := ?_) (a' := ?_) #[true, true, false, false, false, false, false, false, false, false, false, false, false, false] rfl rfl (any_of HT_.out (by kernel_rfl)) (fun _ _ _ h => h) (Or.inl ⟨by rfl, ?_⟩) ?_ ?_
          rotate_left
          ·intro w'
           go_simp
           with_reducible rfl
          rotate_left
          ·simp only [Act.put, List.setIfInBounds_toArray, List.set_cons_zero, List.set_cons_succ, i64_w, i32_w]
           rfl
          refine pure_ (i := 5) (N := some 42) (v := ?_) (a' := ?_) #[true, true, false, false, false, true, false, false, false, false, false, false, false, false] rfl rfl (any_of HT_.out (by kernel_rfl)) (fun _ _ _ h => h) (Or.inl ⟨by rfl, ?_⟩) ?_ ?_
          rotate_left
          ·intro w'
           go_simp
           with_reducible rfl
          rotate_left
          ·simp only [Act.put, List.setIfInBounds_toArray, List.set_cons_zero, List.set_cons_succ, i64_w, i32_w]
           rfl
          refine take_ (i := 2) (N := some 39) (v := ?_) (a' := ?_) #[true, true, true, false, false, true, false, false, false, false, false, false, false, false] rfl rfl (take_ofW HT_.out HW_.out (by kernel_rfl)) (fun _ _ _ h => h) (Or.inl ⟨by rfl, ?_⟩) hHeld ?_ ?_
          rotate_left
          ·rintro w' ⟨s0, s1, s2, s3, s4, s5, s6, s7, s8⟩
           go_simp
           with_reducible rfl
          rotate_left
          ·simp only [Act.put, List.setIfInBounds_toArray, List.set_cons_zero, List.set_cons_succ, i64_w, i32_w]
           rfl
          refine pure_ (i := 3) (N := some 40) (v := ?_) (a' := ?_) #[true, true, true, true, false, true, false, false, false, false, false, false, false, false] rfl rfl (any_of HT_.out (by kernel_rfl)) (fun _ _ _ h => h) (Or.inl ⟨by rfl, ?_⟩) ?_ ?_
          rotate_left
          ·intro w'
           go_simp
           with_reducible rfl
          rotate_left
          ·simp only [Act.put, List.setIfInBounds_toArray, List.set_cons_zero, List.set_cons_succ, i64_w, i32_w]
           rfl
          refine take_ (i := 4) (N := some 41) (v := ?_) (a' := ?_) #[true, true, true, true, true, true, false, false, false, false, false, false, false, false] rfl rfl (take_ofW HT_.out HW_.out (by kernel_rfl)) (fun _ _ _ h => h) (Or.inl ⟨by rfl, ?_⟩) hHeld ?_ ?_
          rotate_left
          ·rintro w' ⟨s0, s1, s2, s3, s4, s5, s6, s7, s8⟩
           go_simp
           with_reducible rfl
          rotate_left
          ·simp only [Act.put, List.setIfInBounds_toArray, List.set_cons_zero, List.set_cons_succ, i64_w, i32_w]
           rfl
          refine take_ (i := 6) (N := some 43) (v := ?_) (a' := ?_) #[true, true, true, true, true, true, true, false, false, false, false, false, false, false] rfl rfl (take_ofW HT_.out HW_.out (by kernel_rfl)) (fun _ _ _ h => h) (Or.inl ⟨by rfl, ?_⟩) hHeld ?_ ?_
          rotate_left
          ·rintro w' ⟨s0, s1, s2, s3, s4, s5, s6, s7, s8⟩
           go_simp
           with_reducible rfl
          rotate_left
          ·simp only [Act.put, List.setIfInBounds_toArray, List.set_cons_zero, List.set_cons_succ, i64_w, i32_w]
           rfl
          refine join_ (σ := Nat) 2 #[true, true, true, true, true, true, true, true, true, true, true, true, false, false] (fun s_ => [(44, .tuple #[.agg #[.int .i64 t178, .int .i64 t179, .int .i64 t180], .int .i64 t181]), (9, .pointer (some ⟨s_, 0, none⟩)), (36, .tuple #[.agg #[.int .i64 t178, .int .i64 t179, .int .i64 t180], .int .i64 t181]), (45, .agg #[.int .i64 t178, .int .i64 t179, .int .i64 t180]), (46, .int .i64 t181)]) (fun s_ w' => (w'.cell? ⟨gb176, 0, none⟩ = some (.int .i64 ((rd_T38 l1 x7_1).f0)) ∧ w'.cell? ⟨gb176, 1, none⟩ = some (.int .i64 ((rd_T38 l1 x7_1).f1)) ∧ w'.cell? ⟨gb176, 2, none⟩ = some (.int .i64 ((rd_T38 l1 x7_1).f2.f0)) ∧ w'.cell? ⟨gb176, 3, none⟩ = some (.int .i64 ((rd_T38 l1 x7_1).f2.f1)) ∧ w'.cell? ⟨gb176, 4, none⟩ = some (.int .i64 ((rd_T38 l1 x7_1).f2.f2)) ∧ w'.cell? ⟨gb176, 5, none⟩ = some (.int .i64 ((rd_T38 l1 x7_1).f3)) ∧ w'.cell? (ad177.add ((((rd_T38 l1 x7_1).f0)).toNat * 3)) = some (.int .i64 ((rd_T36 l0 ((rd_T38 l1 x7_1).f0)).f0)) ∧ w'.cell? ⟨(ad177.add ((((rd_T38 l1 x7_1).f0)).toNat * 3)).block, (ad177.add ((((rd_T38 l1 x7_1).f0)).toNat * 3)).off + 1, none⟩ = some (.int .i64 ((rd_T36 l0 ((rd_T38 l1 x7_1).f0)).f1)) ∧ w'.cell? ⟨(ad177.add ((((rd_T38 l1 x7_1).f0)).toNat * 3)).block, (ad177.add ((((rd_T38 l1 x7_1).f0)).toNat * 3)).off + 2, none⟩ = some (.int .i64 ((rd_T36 l0 ((rd_T38 l1 x7_1).f0)).f2))) ∧ (Kd.R k38 38 w' w.heap.size (fun k_ => k_ ≠ gb176) u6 x6_1) ∧ (w'.heap[gb176]? = some (.cells #[.int .i64 ((rd_T38 l1 x7_1).f0), .int .i64 ((rd_T38 l1 x7_1).f1), .int .i64 ((rd_T38 l1 x7_1).f2.f0), .int .i64 ((rd_T38 l1 x7_1).f2.f1), .int .i64 ((rd_T38 l1 x7_1).f2.f2), .int .i64 ((rd_T38 l1 x7_1).f3)] 38 (0, 0))) ∧ (w'.heap[s_]? = some (.cells #[.int .i64 0, .int .i64 0, .int .i64 0] 36 (0, 0))) ∧ (w.heap.size ≤ s_) ∧ (w.heap.size ≤ s_) ∧ (gb176 ≠ s_) ∧ (s_ ≠ gb176) ∧ (Below w.heap.size w w')) ?_ ?_
          rotate_left
          ·intro hCont
           refine two_ (i := 7) (j := 11) (Ni := some 44) (Nj := some 9) #[true, true, true, true, true, true, true, true, false, false, false, false, false, false] #[true, true, true, true, true, true, true, false, false, false, false, true, false, false] rfl rfl rfl rfl (two_of HT_.out (by kernel_rfl)) (by decide) (by decide) (fun K hK => ?_) (fun K hK => ?_)
           ·skip
            refine goes_ Try.func23 (by kernel_rfl) rfl #[.agg #[.int .i64 ((rd_T36 l0 ((rd_T38 l1 x7_1).f0)).f0), .int .i64 ((rd_T36 l0 ((rd_T38 l1 x7_1).f0)).f1), .int .i64 ((rd_T36 l0 ((rd_T38 l1 x7_1).f0)).f2)], .agg #[.int .i64 ((rd_T38 l1 x7_1).f2.f0), .int .i64 ((rd_T38 l1 x7_1).f2.f1), .int .i64 ((rd_T38 l1 x7_1).f2.f2)]] (by rfl) rfl rfl (by (try simp only [List.map_toArray, List.map_cons, List.map_nil]); first | done | rfl | (simp only [List.length_drop, List.length_take]; rfl)) ?_
            with_reducible refine (fringeref25_Mul.calls k1 ((rd_T36 l0 ((rd_T38 l1 x7_1).f0)).f0) ((rd_T36 l0 ((rd_T38 l1 x7_1).f0)).f1) ((rd_T36 l0 ((rd_T38 l1 x7_1).f0)).f2) ((rd_T38 l1 x7_1).f2.f0) ((rd_T38 l1 x7_1).f2.f1) ((rd_T38 l1 x7_1).f2.f2) t178 t179 t180 t181 _ A13.out).mono ?_
            rintro e w69 ⟨rfl, hb⟩
            refine ⟨_, rfl, ?_⟩
            have n0_ := Aside0.mk (Kd.R_below (Rt HO_6.out) hb)
            have n1_ := Aside0.mk (blk_below (g := gb176) (o := .cells #[.int .i64 ((rd_T38 l1 x7_1).f0), .int .i64 ((rd_T38 l1 x7_1).f1), .int .i64 ((rd_T38 l1 x7_1).f2.f0), .int .i64 ((rd_T38 l1 x7_1).f2.f1), .int .i64 ((rd_T38 l1 x7_1).f2.f2), .int .i64 ((rd_T38 l1 x7_1).f3)] 38 (0, 0)) (bt BK176.out) hb)
            have n2_ := Aside0.mk (below_step (bl HB.out) hb)
            clear HO_6
            clear BK176
            clear HB
            have HO_6 := n0_
            have BK176 := n1_
            have HB := n2_
            clear n0_ n1_ n2_
            (try clear hb)
            (try clear hb2)
            (try clear hk)
            (try clear hi)
            refine hK.out _ _ ⟨(blk_cell BK176.out 0).trans rfl, (blk_cell BK176.out 1).trans rfl, (blk_cell BK176.out 2).trans rfl, (blk_cell BK176.out 3).trans rfl, (blk_cell BK176.out 4).trans rfl, (blk_cell BK176.out 5).trans rfl, ((HB.out.cell (World.block_lt_of_cell? w _ hw177_0)).trans hw177_0), ((HB.out.cell (World.block_lt_of_cell? w _ hw177_1)).trans hw177_1), ((HB.out.cell (World.block_lt_of_cell? w _ hw177_2)).trans hw177_2)⟩ (fun hHeld => ?_)
            clear hK K
            refine norm_ (a' := ?_) ?_ ?_
            rotate_left
            ·show Act.put _ (some 44) _ = _
             simp only [Act.put, List.setIfInBounds_toArray, List.set_cons_zero, List.set_cons_succ, i64_w, i32_w]
             rfl
            refine pure_ (i := 8) (N := some 36) (v := ?_) (a' := ?_) #[true, true, true, true, true, true, true, true, true, false, false, false, false, false] rfl rfl (any_of HT_.out (by kernel_rfl)) (fun _ _ _ h => h) (Or.inl ⟨by rfl, ?_⟩) ?_ ?_
            rotate_left
            ·intro w'
             go_simp
             with_reducible rfl
            rotate_left
            ·simp only [Act.put, List.setIfInBounds_toArray, List.set_cons_zero, List.set_cons_succ, i64_w, i32_w]
             rfl
            refine pure_ (i := 9) (N := some 45) (v := ?_) (a' := ?_) #[true, true, true, true, true, true, true, true, true, true, false, false, false, false] rfl rfl (any_of HT_.out (by kernel_rfl)) (fun _ _ _ h => h) (Or.inl ⟨by rfl, ?_⟩) ?_ ?_
            rotate_left
            ·intro w'
             go_simp
             with_reducible rfl
            rotate_left
            ·simp only [Act.put, List.setIfInBounds_toArray, List.set_cons_zero, List.set_cons_succ, i64_w, i32_w]
             rfl
            refine pure_ (i := 10) (N := some 46) (v := ?_) (a' := ?_) #[true, true, true, true, true, true, true, true, true, true, true, false, false, false] rfl rfl (any_of HT_.out (by kernel_rfl)) (fun _ _ _ h => h) (Or.inl ⟨by rfl, ?_⟩) ?_ ?_
            rotate_left
            ·intro w'
             go_simp
             with_reducible rfl
            rotate_left
            ·simp only [Act.put, List.setIfInBounds_toArray, List.set_cons_zero, List.set_cons_succ, i64_w, i32_w]
             rfl
            refine one_ (i := 11) (N := some 9) #[true, true, true, true, true, true, true, true, true, true, true, true, false, false] rfl rfl (one_of HT_.out (by kernel_rfl)) (by decide) (fun K hK => ?_)
            refine box_step ?hg (N := 9) ?hd (cs := #[.int .i64 0, .int .i64 0, .int .i64 0]) (t := 36) ?hr ?_; (case hd => rfl); (case hg => rfl); (case hr => first | (go_simp; done) | (go_simp; rfl))
            intro gb182 hg w70 hbox hb
            have n0_ := Aside0.mk (Kd.R_below (Rt HO_6.out) hb)
            have n1_ := Aside0.mk (blk_below (g := gb176) (o := .cells #[.int .i64 ((rd_T38 l1 x7_1).f0), .int .i64 ((rd_T38 l1 x7_1).f1), .int .i64 ((rd_T38 l1 x7_1).f2.f0), .int .i64 ((rd_T38 l1 x7_1).f2.f1), .int .i64 ((rd_T38 l1 x7_1).f2.f2), .int .i64 ((rd_T38 l1 x7_1).f3)] 38 (0, 0)) (bt BK176.out) hb)
            have n2_ := Aside0.mk (below_step (bl HB.out) hb)
            have n3_ := Aside0.mk (hbox)
            have n4_ := Aside0.mk ((by rw [hg]; exact (below_size (bl HB.out)) : w.heap.size ≤ gb182))
            have n5_ := Aside0.mk ((by rw [hg]; exact (below_size (bl HB.out)) : w.heap.size ≤ gb182))
            have n6_ := Aside0.mk ((by rw [hg]; exact Nat.ne_of_lt (blk_lt (g := gb176) (o := .cells #[.int .i64 ((rd_T38 l1 x7_1).f0), .int .i64 ((rd_T38 l1 x7_1).f1), .int .i64 ((rd_T38 l1 x7_1).f2.f0), .int .i64 ((rd_T38 l1 x7_1).f2.f1), .int .i64 ((rd_T38 l1 x7_1).f2.f2), .int .i64 ((rd_T38 l1 x7_1).f3)] 38 (0, 0)) (bt BK176.out)) : gb176 ≠ gb182))
            have n7_ := Aside0.mk ((by rw [hg]; exact Nat.ne_of_gt (blk_lt (g := gb176) (o := .cells #[.int .i64 ((rd_T38 l1 x7_1).f0), .int .i64 ((rd_T38 l1 x7_1).f1), .int .i64 ((rd_T38 l1 x7_1).f2.f0), .int .i64 ((rd_T38 l1 x7_1).f2.f1), .int .i64 ((rd_T38 l1 x7_1).f2.f2), .int .i64 ((rd_T38 l1 x7_1).f3)] 38 (0, 0)) (bt BK176.out)) : gb182 ≠ gb176))
            clear HO_6
            clear BK176
            clear HB
            have HO_6 := n0_
            have BK176 := n1_
            have HB := n2_
            have BK182 := n3_
            have GW182 := n4_
            have GE182 := n5_
            have NB176_182 := n6_
            have NB182_176 := n7_
            clear n0_ n1_ n2_ n3_ n4_ n5_ n6_ n7_
            clear hb hbox hg
            refine hK.out _ _ ⟨(blk_cell BK176.out 0).trans rfl, (blk_cell BK176.out 1).trans rfl, (blk_cell BK176.out 2).trans rfl, (blk_cell BK176.out 3).trans rfl, (blk_cell BK176.out 4).trans rfl, (blk_cell BK176.out 5).trans rfl, ((HB.out.cell (World.block_lt_of_cell? w _ hw177_0)).trans hw177_0), ((HB.out.cell (World.block_lt_of_cell? w _ hw177_1)).trans hw177_1), ((HB.out.cell (World.block_lt_of_cell? w _ hw177_2)).trans hw177_2)⟩ (fun hHeld => ?_)
            clear hK K
            refine norm_ (a' := ?_) ?_ ?_
            rotate_left
            ·show Act.put _ (some 9) _ = _
             simp only [Act.put, List.setIfInBounds_toArray, List.set_cons_zero, List.set_cons_succ, i64_w, i32_w]
             rfl
            exact norm_ (by simp only [putAll, Act.put, List.setIfInBounds_toArray, List.set_cons_zero, List.set_cons_succ]) (hCont (gb182) _ ⟨hHeld, (Rt HO_6.out), (bt BK176.out), (bt BK182.out), GW182.out, GE182.out, NB176_182.out, NB182_176.out, (bl HB.out)⟩)
           ·skip
            refine box_step ?hg (N := 9) ?hd (cs := #[.int .i64 0, .int .i64 0, .int .i64 0]) (t := 36) ?hr ?_; (case hd => rfl); (case hg => rfl); (case hr => first | (go_simp; done) | (go_simp; rfl))
            intro gb182 hg w69 hbox hb
            have n0_ := Aside0.mk (Kd.R_below (Rt HO_6.out) hb)
            have n1_ := Aside0.mk (blk_below (g := gb176) (o := .cells #[.int .i64 ((rd_T38 l1 x7_1).f0), .int .i64 ((rd_T38 l1 x7_1).f1), .int .i64 ((rd_T38 l1 x7_1).f2.f0), .int .i64 ((rd_T38 l1 x7_1).f2.f1), .int .i64 ((rd_T38 l1 x7_1).f2.f2), .int .i64 ((rd_T38 l1 x7_1).f3)] 38 (0, 0)) (bt BK176.out) hb)
            have n2_ := Aside0.mk (below_step (bl HB.out) hb)
            have n3_ := Aside0.mk (hbox)
            have n4_ := Aside0.mk ((by rw [hg]; exact (below_size (bl HB.out)) : w.heap.size ≤ gb182))
            have n5_ := Aside0.mk ((by rw [hg]; exact (below_size (bl HB.out)) : w.heap.size ≤ gb182))
            have n6_ := Aside0.mk ((by rw [hg]; exact Nat.ne_of_lt (blk_lt (g := gb176) (o := .cells #[.int .i64 ((rd_T38 l1 x7_1).f0), .int .i64 ((rd_T38 l1 x7_1).f1), .int .i64 ((rd_T38 l1 x7_1).f2.f0), .int .i64 ((rd_T38 l1 x7_1).f2.f1), .int .i64 ((rd_T38 l1 x7_1).f2.f2), .int .i64 ((rd_T38 l1 x7_1).f3)] 38 (0, 0)) (bt BK176.out)) : gb176 ≠ gb182))
            have n7_ := Aside0.mk ((by rw [hg]; exact Nat.ne_of_gt (blk_lt (g := gb176) (o := .cells #[.int .i64 ((rd_T38 l1 x7_1).f0), .int .i64 ((rd_T38 l1 x7_1).f1), .int .i64 ((rd_T38 l1 x7_1).f2.f0), .int .i64 ((rd_T38 l1 x7_1).f2.f1), .int .i64 ((rd_T38 l1 x7_1).f2.f2), .int .i64 ((rd_T38 l1 x7_1).f3)] 38 (0, 0)) (bt BK176.out)) : gb182 ≠ gb176))
            clear HO_6
            clear BK176
            clear HB
            have HO_6 := n0_
            have BK176 := n1_
            have HB := n2_
            have BK182 := n3_
            have GW182 := n4_
            have GE182 := n5_
            have NB176_182 := n6_
            have NB182_176 := n7_
            clear n0_ n1_ n2_ n3_ n4_ n5_ n6_ n7_
            clear hb hbox hg
            refine hK.out _ _ ⟨(blk_cell BK176.out 0).trans rfl, (blk_cell BK176.out 1).trans rfl, (blk_cell BK176.out 2).trans rfl, (blk_cell BK176.out 3).trans rfl, (blk_cell BK176.out 4).trans rfl, (blk_cell BK176.out 5).trans rfl, ((HB.out.cell (World.block_lt_of_cell? w _ hw177_0)).trans hw177_0), ((HB.out.cell (World.block_lt_of_cell? w _ hw177_1)).trans hw177_1), ((HB.out.cell (World.block_lt_of_cell? w _ hw177_2)).trans hw177_2)⟩ (fun hHeld => ?_)
            clear hK K
            refine norm_ (a' := ?_) ?_ ?_
            rotate_left
            ·show Act.put _ (some 9) _ = _
             simp only [Act.put, List.setIfInBounds_toArray, List.set_cons_zero, List.set_cons_succ, i64_w, i32_w]
             rfl
            refine one_ (i := 7) (N := some 44) #[true, true, true, true, true, true, true, true, false, false, false, true, false, false] rfl rfl (one_of HT_.out (by kernel_rfl)) (by decide) (fun K hK => ?_)
            refine goes_ Try.func23 (by kernel_rfl) rfl #[.agg #[.int .i64 ((rd_T36 l0 ((rd_T38 l1 x7_1).f0)).f0), .int .i64 ((rd_T36 l0 ((rd_T38 l1 x7_1).f0)).f1), .int .i64 ((rd_T36 l0 ((rd_T38 l1 x7_1).f0)).f2)], .agg #[.int .i64 ((rd_T38 l1 x7_1).f2.f0), .int .i64 ((rd_T38 l1 x7_1).f2.f1), .int .i64 ((rd_T38 l1 x7_1).f2.f2)]] (by rfl) rfl rfl (by (try simp only [List.map_toArray, List.map_cons, List.map_nil]); first | done | rfl | (simp only [List.length_drop, List.length_take]; rfl)) ?_
            with_reducible refine (fringeref25_Mul.calls k1 ((rd_T36 l0 ((rd_T38 l1 x7_1).f0)).f0) ((rd_T36 l0 ((rd_T38 l1 x7_1).f0)).f1) ((rd_T36 l0 ((rd_T38 l1 x7_1).f0)).f2) ((rd_T38 l1 x7_1).f2.f0) ((rd_T38 l1 x7_1).f2.f1) ((rd_T38 l1 x7_1).f2.f2) t178 t179 t180 t181 _ A13.out).mono ?_
            rintro e w70 ⟨rfl, hb⟩
            refine ⟨_, rfl, ?_⟩
            have n0_ := Aside0.mk (Kd.R_below (Rt HO_6.out) hb)
            have n1_ := Aside0.mk (blk_below (g := gb176) (o := .cells #[.int .i64 ((rd_T38 l1 x7_1).f0), .int .i64 ((rd_T38 l1 x7_1).f1), .int .i64 ((rd_T38 l1 x7_1).f2.f0), .int .i64 ((rd_T38 l1 x7_1).f2.f1), .int .i64 ((rd_T38 l1 x7_1).f2.f2), .int .i64 ((rd_T38 l1 x7_1).f3)] 38 (0, 0)) (bt BK176.out) hb)
            have n2_ := Aside0.mk (blk_below (g := gb182) (o := .cells #[.int .i64 0, .int .i64 0, .int .i64 0] 36 (0, 0)) (bt BK182.out) hb)
            have n3_ := Aside0.mk (below_step (bl HB.out) hb)
            clear HO_6
            clear BK176
            clear BK182
            clear HB
            have HO_6 := n0_
            have BK176 := n1_
            have BK182 := n2_
            have HB := n3_
            clear n0_ n1_ n2_ n3_
            (try clear hb)
            (try clear hb2)
            (try clear hk)
            (try clear hi)
            refine hK.out _ _ ⟨(blk_cell BK176.out 0).trans rfl, (blk_cell BK176.out 1).trans rfl, (blk_cell BK176.out 2).trans rfl, (blk_cell BK176.out 3).trans rfl, (blk_cell BK176.out 4).trans rfl, (blk_cell BK176.out 5).trans rfl, ((HB.out.cell (World.block_lt_of_cell? w _ hw177_0)).trans hw177_0), ((HB.out.cell (World.block_lt_of_cell? w _ hw177_1)).trans hw177_1), ((HB.out.cell (World.block_lt_of_cell? w _ hw177_2)).trans hw177_2)⟩ (fun hHeld => ?_)
            clear hK K
            refine norm_ (a' := ?_) ?_ ?_
            rotate_left
            ·show Act.put _ (some 44) _ = _
             simp only [Act.put, List.setIfInBounds_toArray, List.set_cons_zero, List.set_cons_succ, i64_w, i32_w]
             rfl
            refine pure_ (i := 8) (N := some 36) (v := ?_) (a' := ?_) #[true, true, true, true, true, true, true, true, true, false, false, true, false, false] rfl rfl (any_of HT_.out (by kernel_rfl)) (fun _ _ _ h => h) (Or.inl ⟨by rfl, ?_⟩) ?_ ?_
            rotate_left
            ·intro w'
             go_simp
             with_reducible rfl
            rotate_left
            ·simp only [Act.put, List.setIfInBounds_toArray, List.set_cons_zero, List.set_cons_succ, i64_w, i32_w]
             rfl
            refine pure_ (i := 9) (N := some 45) (v := ?_) (a' := ?_) #[true, true, true, true, true, true, true, true, true, true, false, true, false, false] rfl rfl (any_of HT_.out (by kernel_rfl)) (fun _ _ _ h => h) (Or.inl ⟨by rfl, ?_⟩) ?_ ?_
            rotate_left
            ·intro w'
             go_simp
             with_reducible rfl
            rotate_left
            ·simp only [Act.put, List.setIfInBounds_toArray, List.set_cons_zero, List.set_cons_succ, i64_w, i32_w]
             rfl
            refine pure_ (i := 10) (N := some 46) (v := ?_) (a' := ?_) #[true, true, true, true, true, true, true, true, true, true, true, true, false, false] rfl rfl (any_of HT_.out (by kernel_rfl)) (fun _ _ _ h => h) (Or.inl ⟨by rfl, ?_⟩) ?_ ?_
            rotate_left
            ·intro w'
             go_simp
             with_reducible rfl
            rotate_left
            ·simp only [Act.put, List.setIfInBounds_toArray, List.set_cons_zero, List.set_cons_succ, i64_w, i32_w]
             rfl
            exact norm_ (by simp only [putAll, Act.put, List.setIfInBounds_toArray, List.set_cons_zero, List.set_cons_succ]) (hCont (gb182) _ ⟨hHeld, (Rt HO_6.out), (bt BK176.out), (bt BK182.out), GW182.out, GE182.out, NB176_182.out, NB182_176.out, (bl HB.out)⟩)
          rintro gb182 w71 ⟨hS_, h0_, h1_, h2_, h3_, h4_, h5_, h6_, h7_⟩
          have n0_ : Aside0 (Kd.R k38 38 w71 w.heap.size (fun k_ => k_ ≠ gb176) u6 x6_1) := ⟨h0_⟩
          have n1_ : Aside0 (w71.heap[gb176]? = some (.cells #[.int .i64 ((rd_T38 l1 x7_1).f0), .int .i64 ((rd_T38 l1 x7_1).f1), .int .i64 ((rd_T38 l1 x7_1).f2.f0), .int .i64 ((rd_T38 l1 x7_1).f2.f1), .int .i64 ((rd_T38 l1 x7_1).f2.f2), .int .i64 ((rd_T38 l1 x7_1).f3)] 38 (0, 0))) := ⟨h1_⟩
          have n2_ : Aside0 (w71.heap[gb182]? = some (.cells #[.int .i64 0, .int .i64 0, .int .i64 0] 36 (0, 0))) := ⟨h2_⟩
          have n3_ : Aside0 (w.heap.size ≤ gb182) := ⟨h3_⟩
          have n4_ : Aside0 (w.heap.size ≤ gb182) := ⟨h4_⟩
          have n5_ : Aside0 (gb176 ≠ gb182) := ⟨h5_⟩
          have n6_ : Aside0 (gb182 ≠ gb176) := ⟨h6_⟩
          have n7_ : Aside0 (Below w.heap.size w w71) := ⟨h7_⟩
          clear HO_6
          clear BK176
          clear HB
          clear h0_ h1_ h2_ h3_ h4_ h5_ h6_ h7_
          have HO_6 := n0_
          have BK176 := n1_
          have BK182 := n2_
          have GW182 := n3_
          have GE182 := n4_
          have NB176_182 := n5_
          have NB182_176 := n6_
          have HB := n7_
          clear n0_ n1_ n2_ n3_ n4_ n5_ n6_ n7_
          have hHeld : w71.cell? ⟨gb176, 0, none⟩ = some (.int .i64 ((rd_T38 l1 x7_1).f0)) ∧ w71.cell? ⟨gb176, 1, none⟩ = some (.int .i64 ((rd_T38 l1 x7_1).f1)) ∧ w71.cell? ⟨gb176, 2, none⟩ = some (.int .i64 ((rd_T38 l1 x7_1).f2.f0)) ∧ w71.cell? ⟨gb176, 3, none⟩ = some (.int .i64 ((rd_T38 l1 x7_1).f2.f1)) ∧ w71.cell? ⟨gb176, 4, none⟩ = some (.int .i64 ((rd_T38 l1 x7_1).f2.f2)) ∧ w71.cell? ⟨gb176, 5, none⟩ = some (.int .i64 ((rd_T38 l1 x7_1).f3)) ∧ w71.cell? (ad177.add ((((rd_T38 l1 x7_1).f0)).toNat * 3)) = some (.int .i64 ((rd_T36 l0 ((rd_T38 l1 x7_1).f0)).f0)) ∧ w71.cell? ⟨(ad177.add ((((rd_T38 l1 x7_1).f0)).toNat * 3)).block, (ad177.add ((((rd_T38 l1 x7_1).f0)).toNat * 3)).off + 1, none⟩ = some (.int .i64 ((rd_T36 l0 ((rd_T38 l1 x7_1).f0)).f1)) ∧ w71.cell? ⟨(ad177.add ((((rd_T38 l1 x7_1).f0)).toNat * 3)).block, (ad177.add ((((rd_T38 l1 x7_1).f0)).toNat * 3)).off + 2, none⟩ = some (.int .i64 ((rd_T36 l0 ((rd_T38 l1 x7_1).f0)).f2)) := hS_
          refine norm_ (a' := ?_) ?_ ?_
          rotate_left
          ·simp only [putAll, Act.put, List.setIfInBounds_toArray, List.set_cons_zero, List.set_cons_succ]
           rfl
          refine one_ (i := 12) (N := none) #[true, true, true, true, true, true, true, true, true, true, true, true, true, false] rfl rfl (one_of HT_.out (by kernel_rfl)) (by decide) (fun K hK => ?_)
          have hs72 : w71.cell? ⟨gb182, 0, none⟩ = some (.int .i64 0) := (blk_cell BK182.out 0).trans rfl
          have hfs72 := blk_frozen BK182.out 0
          have hns72_0 := NB176_182.out
          have hms72_0 := NB182_176.out
          have hs73 : w71.cell? ⟨gb182, 1, none⟩ = some (.int .i64 0) := (blk_cell BK182.out 1).trans rfl
          have hfs73 := blk_frozen BK182.out 1
          have hns73_0 := NB176_182.out
          have hms73_0 := NB182_176.out
          have hs74 : w71.cell? ⟨gb182, 2, none⟩ = some (.int .i64 0) := (blk_cell BK182.out 2).trans rfl
          have hfs74 := blk_frozen BK182.out 2
          have hns74_0 := NB176_182.out
          have hms74_0 := NB182_176.out
          refine skip_ (w1 := ?_) (by rfl) rfl ?_ ?_
          rotate_left
          ·go_simp
           rfl
          refine hK.out _ _ ⟨((cell_far (p := ⟨gb182, _, none⟩) NB176_182.out _).trans (((cell_far (p := ⟨gb182, _, none⟩) NB176_182.out _).trans (((cell_far (p := ⟨gb182, _, none⟩) NB176_182.out _).trans (hHeld.1)))))), ((cell_far (p := ⟨gb182, _, none⟩) NB176_182.out _).trans (((cell_far (p := ⟨gb182, _, none⟩) NB176_182.out _).trans (((cell_far (p := ⟨gb182, _, none⟩) NB176_182.out _).trans (hHeld.2.1)))))), ((cell_far (p := ⟨gb182, _, none⟩) NB176_182.out _).trans (((cell_far (p := ⟨gb182, _, none⟩) NB176_182.out _).trans (((cell_far (p := ⟨gb182, _, none⟩) NB176_182.out _).trans (hHeld.2.2.1)))))), ((cell_far (p := ⟨gb182, _, none⟩) NB176_182.out _).trans (((cell_far (p := ⟨gb182, _, none⟩) NB176_182.out _).trans (((cell_far (p := ⟨gb182, _, none⟩) NB176_182.out _).trans (hHeld.2.2.2.1)))))), ((cell_far (p := ⟨gb182, _, none⟩) NB176_182.out _).trans (((cell_far (p := ⟨gb182, _, none⟩) NB176_182.out _).trans (((cell_far (p := ⟨gb182, _, none⟩) NB176_182.out _).trans (hHeld.2.2.2.2.1)))))), ((cell_far (p := ⟨gb182, _, none⟩) NB176_182.out _).trans (((cell_far (p := ⟨gb182, _, none⟩) NB176_182.out _).trans (((cell_far (p := ⟨gb182, _, none⟩) NB176_182.out _).trans (hHeld.2.2.2.2.2.1)))))), ((cell_far (p := ⟨gb182, _, none⟩) (by first | exact Nat.ne_of_lt (Nat.lt_of_lt_of_le (by have := World.block_lt_of_cell? _ _ hw177_0; first | rwa [add_block] at this | exact this) GW182.out) | (rw [add_block]; exact Nat.ne_of_lt (Nat.lt_of_lt_of_le (by have := World.block_lt_of_cell? _ _ hw177_0; first | rwa [add_block] at this | exact this) GW182.out)) | (show (Addr.add _ _).block ≠ _; rw [add_block]; exact Nat.ne_of_lt (Nat.lt_of_lt_of_le (by have := World.block_lt_of_cell? _ _ hw177_0; first | rwa [add_block] at this | exact this) GW182.out)) | (dsimp only; exact Nat.ne_of_lt (Nat.lt_of_lt_of_le (by have := World.block_lt_of_cell? _ _ hw177_0; first | rwa [add_block] at this | exact this) GW182.out))) _).trans (((cell_far (p := ⟨gb182, _, none⟩) (by first | exact Nat.ne_of_lt (Nat.lt_of_lt_of_le (by have := World.block_lt_of_cell? _ _ hw177_0; first | rwa [add_block] at this | exact this) GW182.out) | (rw [add_block]; exact Nat.ne_of_lt (Nat.lt_of_lt_of_le (by have := World.block_lt_of_cell? _ _ hw177_0; first | rwa [add_block] at this | exact this) GW182.out)) | (show (Addr.add _ _).block ≠ _; rw [add_block]; exact Nat.ne_of_lt (Nat.lt_of_lt_of_le (by have := World.block_lt_of_cell? _ _ hw177_0; first | rwa [add_block] at this | exact this) GW182.out)) | (dsimp only; exact Nat.ne_of_lt (Nat.lt_of_lt_of_le (by have := World.block_lt_of_cell? _ _ hw177_0; first | rwa [add_block] at this | exact this) GW182.out))) _).trans (((cell_far (p := ⟨gb182, _, none⟩) (by first | exact Nat.ne_of_lt (Nat.lt_of_lt_of_le (by have := World.block_lt_of_cell? _ _ hw177_0; first | rwa [add_block] at this | exact this) GW182.out) | (rw [add_block]; exact Nat.ne_of_lt (Nat.lt_of_lt_of_le (by have := World.block_lt_of_cell? _ _ hw177_0; first | rwa [add_block] at this | exact this) GW182.out)) | (show (Addr.add _ _).block ≠ _; rw [add_block]; exact Nat.ne_of_lt (Nat.lt_of_lt_of_le (by have := World.block_lt_of_cell? _ _ hw177_0; first | rwa [add_block] at this | exact this) GW182.out)) | (dsimp only; exact Nat.ne_of_lt (Nat.lt_of_lt_of_le (by have := World.block_lt_of_cell? _ _ hw177_0; first | rwa [add_block] at this | exact this) GW182.out))) _).trans (hHeld.2.2.2.2.2.2.1)))))), ((cell_far (p := ⟨gb182, _, none⟩) (by first | exact Nat.ne_of_lt (Nat.lt_of_lt_of_le (by have := World.block_lt_of_cell? _ _ hw177_1; first | rwa [add_block] at this | exact this) GW182.out) | (rw [add_block]; exact Nat.ne_of_lt (Nat.lt_of_lt_of_le (by have := World.block_lt_of_cell? _ _ hw177_1; first | rwa [add_block] at this | exact this) GW182.out)) | (show (Addr.add _ _).block ≠ _; rw [add_block]; exact Nat.ne_of_lt (Nat.lt_of_lt_of_le (by have := World.block_lt_of_cell? _ _ hw177_1; first | rwa [add_block] at this | exact this) GW182.out)) | (dsimp only; exact Nat.ne_of_lt (Nat.lt_of_lt_of_le (by have := World.block_lt_of_cell? _ _ hw177_1; first | rwa [add_block] at this | exact this) GW182.out))) _).trans (((cell_far (p := ⟨gb182, _, none⟩) (by first | exact Nat.ne_of_lt (Nat.lt_of_lt_of_le (by have := World.block_lt_of_cell? _ _ hw177_1; first | rwa [add_block] at this | exact this) GW182.out) | (rw [add_block]; exact Nat.ne_of_lt (Nat.lt_of_lt_of_le (by have := World.block_lt_of_cell? _ _ hw177_1; first | rwa [add_block] at this | exact this) GW182.out)) | (show (Addr.add _ _).block ≠ _; rw [add_block]; exact Nat.ne_of_lt (Nat.lt_of_lt_of_le (by have := World.block_lt_of_cell? _ _ hw177_1; first | rwa [add_block] at this | exact this) GW182.out)) | (dsimp only; exact Nat.ne_of_lt (Nat.lt_of_lt_of_le (by have := World.block_lt_of_cell? _ _ hw177_1; first | rwa [add_block] at this | exact this) GW182.out))) _).trans (((cell_far (p := ⟨gb182, _, none⟩) (by first | exact Nat.ne_of_lt (Nat.lt_of_lt_of_le (by have := World.block_lt_of_cell? _ _ hw177_1; first | rwa [add_block] at this | exact this) GW182.out) | (rw [add_block]; exact Nat.ne_of_lt (Nat.lt_of_lt_of_le (by have := World.block_lt_of_cell? _ _ hw177_1; first | rwa [add_block] at this | exact this) GW182.out)) | (show (Addr.add _ _).block ≠ _; rw [add_block]; exact Nat.ne_of_lt (Nat.lt_of_lt_of_le (by have := World.block_lt_of_cell? _ _ hw177_1; first | rwa [add_block] at this | exact this) GW182.out)) | (dsimp only; exact Nat.ne_of_lt (Nat.lt_of_lt_of_le (by have := World.block_lt_of_cell? _ _ hw177_1; first | rwa [add_block] at this | exact this) GW182.out))) _).trans (hHeld.2.2.2.2.2.2.2.1)))))), ((cell_far (p := ⟨gb182, _, none⟩) (by first | exact Nat.ne_of_lt (Nat.lt_of_lt_of_le (by have := World.block_lt_of_cell? _ _ hw177_2; first | rwa [add_block] at this | exact this) GW182.out) | (rw [add_block]; exact Nat.ne_of_lt (Nat.lt_of_lt_of_le (by have := World.block_lt_of_cell? _ _ hw177_2; first | rwa [add_block] at this | exact this) GW182.out)) | (show (Addr.add _ _).block ≠ _; rw [add_block]; exact Nat.ne_of_lt (Nat.lt_of_lt_of_le (by have := World.block_lt_of_cell? _ _ hw177_2; first | rwa [add_block] at this | exact this) GW182.out)) | (dsimp only; exact Nat.ne_of_lt (Nat.lt_of_lt_of_le (by have := World.block_lt_of_cell? _ _ hw177_2; first | rwa [add_block] at this | exact this) GW182.out))) _).trans (((cell_far (p := ⟨gb182, _, none⟩) (by first | exact Nat.ne_of_lt (Nat.lt_of_lt_of_le (by have := World.block_lt_of_cell? _ _ hw177_2; first | rwa [add_block] at this | exact this) GW182.out) | (rw [add_block]; exact Nat.ne_of_lt (Nat.lt_of_lt_of_le (by have := World.block_lt_of_cell? _ _ hw177_2; first | rwa [add_block] at this | exact this) GW182.out)) | (show (Addr.add _ _).block ≠ _; rw [add_block]; exact Nat.ne_of_lt (Nat.lt_of_lt_of_le (by have := World.block_lt_of_cell? _ _ hw177_2; first | rwa [add_block] at this | exact this) GW182.out)) | (dsimp only; exact Nat.ne_of_lt (Nat.lt_of_lt_of_le (by have := World.block_lt_of_cell? _ _ hw177_2; first | rwa [add_block] at this | exact this) GW182.out))) _).trans (((cell_far (p := ⟨gb182, _, none⟩) (by first | exact Nat.ne_of_lt (Nat.lt_of_lt_of_le (by have := World.block_lt_of_cell? _ _ hw177_2; first | rwa [add_block] at this | exact this) GW182.out) | (rw [add_block]; exact Nat.ne_of_lt (Nat.lt_of_lt_of_le (by have := World.block_lt_of_cell? _ _ hw177_2; first | rwa [add_block] at this | exact this) GW182.out)) | (show (Addr.add _ _).block ≠ _; rw [add_block]; exact Nat.ne_of_lt (Nat.lt_of_lt_of_le (by have := World.block_lt_of_cell? _ _ hw177_2; first | rwa [add_block] at this | exact this) GW182.out)) | (dsimp only; exact Nat.ne_of_lt (Nat.lt_of_lt_of_le (by have := World.block_lt_of_cell? _ _ hw177_2; first | rwa [add_block] at this | exact this) GW182.out))) _).trans (hHeld.2.2.2.2.2.2.2.2))))))⟩ (fun hHeld => ?_)
          clear hK K
          refine pure_ (i := 13) (N := some 10) (v := ?_) (a' := ?_) #[true, true, true, true, true, true, true, true, true, true, true, true, true, true] rfl rfl (any_of HT_.out (by kernel_rfl)) (fun _ _ _ h => h) (Or.inl ⟨by rfl, ?_⟩) ?_ ?_
          rotate_left
          ·intro w'
           go_simp
           with_reducible rfl
          rotate_left
          ·simp only [Act.put, List.setIfInBounds_toArray, List.set_cons_zero, List.set_cons_succ, i64_w, i32_w]
           rfl
          refine done_ (done_of HT_.out (by kernel_rfl)) ?_
          try go_wp2
          go_ret2
          exact ⟨_, by first | rfl | (simp [errW_none, errW_some] <;> rfl) | (simp [*, errW_none, errW_some] <;> rfl), by first | exact Kd.R_nil _ _ _ _ _ | exact Kd.N_nil _ _ _ _ _ | exact Kd.V_nil _ _ _ _ _ | exact Kd.Q_nil _ _ _ _ _ | exact Kd.S_nil _ _ _ _ _, by repeat (first | (with_reducible first | exact HB.out | apply below_alloc | apply pw_below_drewN | apply below_drew1 | refine below_set ?_ GE176.out | refine below_set ?_ GE182.out) | exact HB.out)⟩
        ·rw [if_neg c12] at H
         exact absurd H (by simp)
       ·rw [if_neg c11] at H
        exact absurd H (by simp)
      ·rw [if_neg c10] at H
       exact absurd H (by simp)
     ·rw [if_neg c9] at H
      have c9b0 : decide (x7_1 < (l1.length : Int)) = false := decide_eq_false c9
      clear c9
      simp only [Option.some.injEq, Prod.mk.injEq] at H
      obtain ⟨rfl, rfl⟩ := H
      go_wp2
      go_ret2
      exact ⟨_, by first | rfl | (simp [errW_none, errW_some] <;> rfl) | (simp [*, errW_none, errW_some] <;> rfl), by (with_reducible repeat (first | apply Kd.R_alloc | apply Kd.R_drewN | apply Kd.R_drew)); exact HO_6.out, by repeat (first | (with_reducible first | exact HB.out | apply below_alloc | apply pw_below_drewN | apply below_drew1) | exact HB.out)⟩
  ·rw [if_neg c6] at H
   have c6b0 : (t173 == 0) = false := beq_eq_false_iff_ne.mpr c6
   have c6b1 : (t173 != 0) = true := bne_iff_ne.mpr c6
   replace H := Option.bind_eq_some_iff.mp H
   obtain ⟨t174, A750, H⟩ := H
   replace H : (some (([] : List (S38)), t174)) = some (r1, r2) := H
   have A75 := Aside0.mk A750
   clear A750
   simp only [Option.some.injEq, Prod.mk.injEq] at H
   obtain ⟨rfl, rfl⟩ := H
   go_enter Try.func10, Try.ntmps10
   go_wp2_with (first | ((with_reducible refine gate_callee (f := 12) rfl ?_); refine goesL_ (some 13) rfl rfl Try.func12 (by kernel_rfl) rfl #[.slice A0 l0.length c0] rfl (by (try simp only [List.map_toArray, List.map_cons, List.map_nil]); first | done | rfl | (simp only [List.length_drop, List.length_take]; rfl)) ?_; (with_reducible refine (fringeref26_Check.calls k _ _ l0 t171 _ ?side1 ?side2 A3.out).mono ?_); (case side1 => repeat (first | exact HR0.out | (with_reducible refine Kd.C_alloc ?_ _) | (with_reducible refine Kd.C_drewN ?_ _) | (with_reducible refine Kd.C_drew ?_))); (case side2 => exact HC0.out); rintro e w76 ⟨rfl, hb⟩; refine ⟨_, rfl, ?_⟩; have n0_ := Aside0.mk (below_step (bl HB.out) hb); clear HB; have HB := n0_; clear n0_; (try clear hb); (try clear hb2); (try clear hk); (try clear hi)) | ((with_reducible refine gate_callee (f := 15) rfl ?_); refine goesL_ (some 20) rfl rfl Try.func15 (by kernel_rfl) rfl #[.slice A1 l1.length c1, .int .i64 (l0.length : Int)] rfl (by (try simp only [List.map_toArray, List.map_cons, List.map_nil]); first | done | rfl | (simp only [List.length_drop, List.length_take]; rfl)) ?_; (with_reducible refine (fringeref26_All.calls k _ _ l1 (l0.length : Int) t173 _ ?side1 ?side2 A5.out).mono ?_); (case side1 => repeat (first | exact (Kd.C_below HR1.out HB.out) | (with_reducible refine Kd.C_alloc ?_ _) | (with_reducible refine Kd.C_drewN ?_ _) | (with_reducible refine Kd.C_drew ?_))); (case side2 => exact HC1.out); rintro e w77 ⟨rfl, hb⟩; refine ⟨_, rfl, ?_⟩; have n0_ := Aside0.mk (below_step (bl HB.out) hb); clear HB; have HB := n0_; clear n0_; (try clear hb); (try clear hb2); (try clear hk); (try clear hi)) | ((with_reducible refine gate_callee (f := 15) rfl ?_); refine goesL_ (some 25) rfl rfl Try.func15 (by kernel_rfl) rfl #[.slice A1 l1.length c1, .int .i64 (l0.length : Int)] rfl (by (try simp only [List.map_toArray, List.map_cons, List.map_nil]); first | done | rfl | (simp only [List.length_drop, List.length_take]; rfl)) ?_; (with_reducible refine (fringeref26_All.calls k _ _ l1 (l0.length : Int) t174 _ ?side1 ?side2 A75.out).mono ?_); (case side1 => repeat (first | exact (Kd.C_below HR1.out HB.out) | (with_reducible refine Kd.C_alloc ?_ _) | (with_reducible refine Kd.C_drewN ?_ _) | (with_reducible refine Kd.C_drew ?_))); (case side2 => exact HC1.out); rintro e w78 ⟨rfl, hb⟩; refine ⟨_, rfl, ?_⟩; have n0_ := Aside0.mk (below_step (bl HB.out) hb); clear HB; have HB := n0_; clear n0_; (try clear hb); (try clear hb2); (try clear hk); (try clear hi)))
   go_ret2
   exact ⟨_, by first | rfl | (simp [errW_none, errW_some] <;> rfl) | (simp [*, errW_none, errW_some] <;> rfl), by first | exact Kd.R_nil _ _ _ _ _ | exact Kd.N_nil _ _ _ _ _ | exact Kd.V_nil _ _ _ _ _ | exact Kd.Q_nil _ _ _ _ _ | exact Kd.S_nil _ _ _ _ _, by repeat (first | (with_reducible first | exact HB.out | apply below_alloc | apply pw_below_drewN | apply below_drew1) | exact HB.out)⟩
 ·rw [if_neg c4] at H
  have c4b0 : (t171 == 0) = false := beq_eq_false_iff_ne.mpr c4
  have c4b1 : (t171 != 0) = true := bne_iff_ne.mpr c4
  replace H := Option.bind_eq_some_iff.mp H
  obtain ⟨t172, A790, H⟩ := H
  replace H : (some (([] : List (S38)), t172)) = some (r1, r2) := H
  have A79 := Aside0.mk A790
  clear A790
  simp only [Option.some.injEq, Prod.mk.injEq] at H
  obtain ⟨rfl, rfl⟩ := H
  go_enter Try.func10, Try.ntmps10
  go_wp2_with (first | ((with_reducible refine gate_callee (f := 12) rfl ?_); refine goesL_ (some 13) rfl rfl Try.func12 (by kernel_rfl) rfl #[.slice A0 l0.length c0] rfl (by (try simp only [List.map_toArray, List.map_cons, List.map_nil]); first | done | rfl | (simp only [List.length_drop, List.length_take]; rfl)) ?_; (with_reducible refine (fringeref26_Check.calls k _ _ l0 t171 _ ?side1 ?side2 A3.out).mono ?_); (case side1 => repeat (first | exact HR0.out | (with_reducible refine Kd.C_alloc ?_ _) | (with_reducible refine Kd.C_drewN ?_ _) | (with_reducible refine Kd.C_drew ?_))); (case side2 => exact HC0.out); rintro e w80 ⟨rfl, hb⟩; refine ⟨_, rfl, ?_⟩; have n0_ := Aside0.mk (below_step (bl HB.out) hb); clear HB; have HB := n0_; clear n0_; (try clear hb); (try clear hb2); (try clear hk); (try clear hi)) | ((with_reducible refine gate_callee (f := 12) rfl ?_); refine goesL_ (some 16) rfl rfl Try.func12 (by kernel_rfl) rfl #[.slice A0 l0.length c0] rfl (by (try simp only [List.map_toArray, List.map_cons, List.map_nil]); first | done | rfl | (simp only [List.length_drop, List.length_take]; rfl)) ?_; (with_reducible refine (fringeref26_Check.calls k _ _ l0 t172 _ ?side1 ?side2 A79.out).mono ?_); (case side1 => repeat (first | exact (Kd.C_below HR0.out HB.out) | (with_reducible refine Kd.C_alloc ?_ _) | (with_reducible refine Kd.C_drewN ?_ _) | (with_reducible refine Kd.C_drew ?_))); (case side2 => exact HC0.out); rintro e w81 ⟨rfl, hb⟩; refine ⟨_, rfl, ?_⟩; have n0_ := Aside0.mk (below_step (bl HB.out) hb); clear HB; have HB := n0_; clear n0_; (try clear hb); (try clear hb2); (try clear hk); (try clear hi)))
  go_ret2
  exact ⟨_, by first | rfl | (simp [errW_none, errW_some] <;> rfl) | (simp [*, errW_none, errW_some] <;> rfl), by first | exact Kd.R_nil _ _ _ _ _ | exact Kd.N_nil _ _ _ _ _ | exact Kd.V_nil _ _ _ _ _ | exact Kd.Q_nil _ _ _ _ _ | exact Kd.S_nil _ _ _ _ _, by repeat (first | (with_reducible first | exact HB.out | apply below_alloc | apply pw_below_drewN | apply below_drew1) | exact HB.out)⟩

end Go.Proofs.Ytanikfihfmomoaa.Q
