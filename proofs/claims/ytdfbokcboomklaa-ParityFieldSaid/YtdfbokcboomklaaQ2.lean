-- Written by qprint.py (a program of this session) over the program of the kit that prints contracts. Not trusted: Lean checks it.
import Derived.Test.YtdfbokcboomklaaQ0
import Derived.Test.YtdfbokcboomklaaQ1
namespace Go.Proofs.Ytdfbokcboomklaa.Q
open Go.RowKit Go.Proofs.YtdfbokcboomklaaW.PrintWords Go.Proofs.YtdfbokcboomklaaW.PrintLast Go.Proofs.YtdfbokcboomklaaW.PrintMore
attribute [local go_sem] max2_int min2_int max_two min_two max_three min_three max_four min_four   -- for this text's walks alone
set_option linter.unusedVariables false
set_option linter.unusedSimpArgs false

/-! ### fringelaw45_ParityField: function 3 -/
def fringelaw45_ParityField.f (k : Nat) (a0 : Int) (a1 : Int) : Option (Bool) := (parity_Inv.f a0).bind fun bt103 => ((fringeref45_Inv.f k a0).bind fun bt105 => ((parity_Mul.f a0 a1).bind fun t107 => ((fringeref45_Mul.f k a0 a1).bind fun t108 => (if t107 = t108 then (if bt103.1 = bt105.1 then (some (bt103.2 == bt105.2)) else (some false)) else (some false)))))
theorem fringelaw45_ParityField.mono : ∀ a0 a1 k, LeO (fringelaw45_ParityField.f k a0 a1) (fringelaw45_ParityField.f (k + 1) a0 a1) := by
 intro a0 a1 k
 unfold fringelaw45_ParityField.f
 repeat' first
   | (with_reducible exact fringeref45_Inv.mono _ _)
   | (with_reducible exact fringeref45_Mul.mono _ _ _)
   | (with_reducible exact LeO.refl _)
   | (with_reducible exact LeO.none _)
   | (with_reducible refine LeO.ite ?_ ?_)
   | (with_reducible refine LeO.bind ?_ (fun _ => ?_))
   | exact fringeref45_Inv.mono _ _
   | exact fringeref45_Mul.mono _ _ _
   | exact LeO.none _
   | refine LeO.ite ?_ ?_
   | refine LeO.bind ?_ (fun _ => ?_)
set_option maxHeartbeats 8000000 in
set_option maxRecDepth 100000 in
theorem fringelaw45_ParityField.calls (k : Nat) (a0 : Int) (a1 : Int) (w : World) (h : fringelaw45_ParityField.f k a0 a1 = some true) :
  Calls Try.prog 3 #[.int .u8 a0, .int .u8 a1] w fun e w' => e = .returned (.bool true) ∧ Below w.heap.size w w' := by
 have HB := Aside0.mk (Below.refl w.heap.size w)
 have H : ((parity_Inv.f a0).bind fun bt103 => ((fringeref45_Inv.f k a0).bind fun bt105 => ((parity_Mul.f a0 a1).bind fun t107 => ((fringeref45_Mul.f k a0 a1).bind fun t108 => (if t107 = t108 then (if bt103.1 = bt105.1 then (some (bt103.2 == bt105.2)) else (some false)) else (some false)))))) = some true := h
 clear h
 replace H := Option.bind_eq_some_iff.mp H
 obtain ⟨⟨t103, t104⟩, A30, H⟩ := H
 (try dsimp only at H)
 have A3 := Aside0.mk A30
 clear A30
 replace H := Option.bind_eq_some_iff.mp H
 obtain ⟨⟨t105, t106⟩, A40, H⟩ := H
 (try dsimp only at H)
 have A4 := Aside0.mk A40
 clear A40
 replace H := Option.bind_eq_some_iff.mp H
 obtain ⟨t107, A50, H⟩ := H
 (try dsimp only at H)
 have A5 := Aside0.mk A50
 clear A50
 replace H := Option.bind_eq_some_iff.mp H
 obtain ⟨t108, A60, H⟩ := H
 (try dsimp only at H)
 have A6 := Aside0.mk A60
 clear A60
 by_cases c7 : t107 = t108
 ·as_aux_lemma =>
  rw [if_pos c7] at H
  have c7b0 : (t107 == t108) = true := beq_iff_eq.mpr c7
  have c7b1 : (t107 != t108) = false := bne_eq_false_iff_eq.mpr c7
  clear c7
  by_cases c8 : t103 = t105
  ·as_aux_lemma =>
   rw [if_pos c8] at H
   have c8b0 : (t103 == t105) = true := beq_iff_eq.mpr c8
   have c8b1 : (t103 != t105) = false := bne_eq_false_iff_eq.mpr c8
   clear c8
   have hend := Aside0.mk (Option.some.inj H)
   clear H
   go_enter Try.func3, Try.ntmps3
   go_wp2_with (first | ((with_reducible refine gate_callee (f := 9) rfl ?_); refine goesL_ (some 11) rfl rfl Try.func9 (by kernel_rfl) rfl #[.int .u8 a0] rfl (by (try simp only [List.map_toArray, List.map_cons, List.map_nil]); first | done | rfl | (simp only [List.length_drop, List.length_take]; rfl)) ?_; (with_reducible refine (parity_Inv.calls a0 t103 t104 _ A3.out).mono ?_); rintro e w9 ⟨rfl, hb⟩; refine ⟨_, rfl, ?_⟩; have n0_ := Aside0.mk (below_step (by repeat (first | (with_reducible first | exact HB.out | apply below_alloc | apply pw_below_drewN | apply below_drew1) | exact HB.out)) hb); clear HB; have HB := n0_; clear n0_; (try clear hb); (try clear hb2); (try clear hk); (try clear hi)) | ((with_reducible refine gate_callee (f := 10) rfl ?_); refine goesL_ (some 16) rfl rfl Try.func10 (by kernel_rfl) rfl #[.int .u8 a0] rfl (by (try simp only [List.map_toArray, List.map_cons, List.map_nil]); first | done | rfl | (simp only [List.length_drop, List.length_take]; rfl)) ?_; (with_reducible refine (fringeref45_Inv.calls k a0 t105 t106 _ A4.out).mono ?_); rintro e w' ⟨rfl, ⟨nd, rfl⟩⟩; refine ⟨_, rfl, ?_⟩) | ((with_reducible refine gate_callee (f := 11) rfl ?_); refine goesL_ (some 21) rfl rfl Try.func11 (by kernel_rfl) rfl #[.int .u8 a0, .int .u8 a1] rfl (by (try simp only [List.map_toArray, List.map_cons, List.map_nil]); first | done | rfl | (simp only [List.length_drop, List.length_take]; rfl)) ?_; (with_reducible refine (parity_Mul.calls a0 a1 t107 _ A5.out).mono ?_); rintro e w10 ⟨rfl, hb⟩; refine ⟨_, rfl, ?_⟩; have n0_ := Aside0.mk (below_step (by repeat (first | (with_reducible first | exact HB.out | apply below_alloc | apply pw_below_drewN | apply below_drew1) | exact HB.out)) hb); clear HB; have HB := n0_; clear n0_; (try clear hb); (try clear hb2); (try clear hk); (try clear hi)) | ((with_reducible refine gate_callee (f := 12) rfl ?_); refine goesL_ (some 24) rfl rfl Try.func12 (by kernel_rfl) rfl #[.int .u8 a0, .int .u8 a1] rfl (by (try simp only [List.map_toArray, List.map_cons, List.map_nil]); first | done | rfl | (simp only [List.length_drop, List.length_take]; rfl)) ?_; (with_reducible refine (fringeref45_Mul.calls k a0 a1 t108 _ A6.out).mono ?_); rintro e w' ⟨rfl, ⟨nd, rfl⟩⟩; refine ⟨_, rfl, ?_⟩))
   go_ret
   exact ⟨by first | rfl | (rw [hend.out]; done) | (simp only [hend.out]; done) | (simp [*]; first | exact hend.out | exact eq_of_beq hend.out | exact of_decide_eq_true hend.out) | (have h_ := hend.out; simp_all; done) | (simp [*, errW_none, errW_some] <;> rfl), by repeat (first | (with_reducible first | exact HB.out | apply below_alloc | apply pw_below_drewN | apply below_drew1) | exact HB.out)⟩
  ·as_aux_lemma =>
   rw [if_neg c8] at H
   have c8b0 : (t103 == t105) = false := beq_eq_false_iff_ne.mpr c8
   have c8b1 : (t103 != t105) = true := bne_iff_ne.mpr c8
   exact absurd H (by simp)
 ·as_aux_lemma =>
  rw [if_neg c7] at H
  have c7b0 : (t107 == t108) = false := beq_eq_false_iff_ne.mpr c7
  have c7b1 : (t107 != t108) = true := bne_iff_ne.mpr c7
  exact absurd H (by simp)

end Go.Proofs.Ytdfbokcboomklaa.Q
