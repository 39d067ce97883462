-- Written by qprint.py (a program of this session) over the program of the kit that prints contracts. Not trusted: Lean checks it.
import Derived.Test.YtihmhcdcbcleeaaQ0
import Derived.Test.YtihmhcdcbcleeaaQ4
import Derived.Test.YtihmhcdcbcleeaaQ6
import Derived.Test.YtihmhcdcbcleeaaQ7
import Derived.Test.YtihmhcdcbcleeaaQ8
import Derived.Test.YtihmhcdcbcleeaaQ9
import Derived.Test.YtihmhcdcbcleeaaQ10
namespace Go.Proofs.Ytihmhcdcbcleeaa.Q
open Go.RowKit Go.Proofs.YtihmhcdcbcleeaaW.PrintWords Go.Proofs.YtihmhcdcbcleeaaW.PrintLast Go.Proofs.YtihmhcdcbcleeaaW.PrintMore
attribute [local go_sem] max2_int min2_int max_two min_two max_three min_three max_four min_four   -- for this text's walks alone
set_option linter.unusedVariables false
set_option linter.unusedSimpArgs false

/-! ### fringelaw41_SkyMoves: function 3 -/
mutual
def fringelaw41_SkyMoves.j0 : Nat → List (S33) → List (S33) → List (S33) → List (S33) → Bool → Option (Bool)
 | 0, _, _, _, _, _ => none
 | k + 1, x0, x7, x8, x12, x66 => if x66 = true then (some false) else (fringelaw41_SkyMoves.l0 k x0 x7 x8 x12 0)
def fringelaw41_SkyMoves.l0 : Nat → List (S33) → List (S33) → List (S33) → List (S33) → Int → Option (Bool)
 | 0, _, _, _, _, _ => none
 | k + 1, x0, x7, x8, x12, x16 => if x16 < (x12.length : Int) then (if 0 ≤ x16 then (fringelaw41_SkyMoves.l0 k x0 x7 x8 (x12.set (x16 : Int).toNat (⟨99, (rd_T33 x12 x16).f1, (rd_T33 x12 x16).f2⟩ : S33)) (wrap64 (x16 + 1))) else (none)) else (fringelaw41_SkyMoves.l1 k x0 x7 x8 0)
def fringelaw41_SkyMoves.l1 : Nat → List (S33) → List (S33) → List (S33) → Int → Option (Bool)
 | 0, _, _, _, _ => none
 | k + 1, x0, x7, x8, x17 => if x17 < (x8.length : Int) then (if 0 ≤ x17 then (fringelaw41_SkyMoves.l1 k x0 x7 (x8.set (x17 : Int).toNat (⟨99, (rd_T33 x8 x17).f1, (rd_T33 x8 x17).f2⟩ : S33)) (wrap64 (x17 + 1))) else (none)) else ((fringeref41_Same.f k x0 x7).bind fun t176 => (some t176))
end
def fringelaw41_SkyMoves.f (k : Nat) (l0 : List (S33)) (a1 : Int) (a2 : Int) : Option (Bool) := (fringeref41_Great.f ([] : List (S41)) l0).bind fun t149 => (if t149 = true then (some true) else ((some (([] : List (S33)) : List (S33))).bind fun y150 => (if y150.length + l0.length < 5864062014805 then ((some (y150 ++ l0 : List (S33))).bind fun y153 => ((sky_Merge.f k l0).bind fun bt156 => ((fringeref41_Merge.f k l0).bind fun bt160 => ((sky_Shift.f k l0 a1 a2).bind fun bt164 => ((fringeref41_Shift.f k l0 a1 a2).bind fun bt168 => ((fringeref41_Same.f k bt156.1 bt160.1).bind fun t172 => (if t172 = true then (if bt156.2 = bt160.2 then ((fringeref41_Same.f k bt164.1 bt168.1).bind fun t173 => (if t173 = true then (fringelaw41_SkyMoves.j0 k l0 y153 bt156.1 bt164.1 (bt164.2 != bt168.2)) else (fringelaw41_SkyMoves.j0 k l0 y153 bt156.1 bt164.1 true))) else (fringelaw41_SkyMoves.j0 k l0 y153 bt156.1 bt164.1 true)) else (fringelaw41_SkyMoves.j0 k l0 y153 bt156.1 bt164.1 true)))))))) else (none))))
theorem fringelaw41_SkyMoves.mono_l : ∀ k, (∀ y0 y1 y2 y3 y4, LeO (fringelaw41_SkyMoves.j0 k y0 y1 y2 y3 y4) (fringelaw41_SkyMoves.j0 (k + 1) y0 y1 y2 y3 y4)) ∧ (∀ y0 y1 y2 y3 y4, LeO (fringelaw41_SkyMoves.l0 k y0 y1 y2 y3 y4) (fringelaw41_SkyMoves.l0 (k + 1) y0 y1 y2 y3 y4)) ∧ (∀ y0 y1 y2 y3, LeO (fringelaw41_SkyMoves.l1 k y0 y1 y2 y3) (fringelaw41_SkyMoves.l1 (k + 1) y0 y1 y2 y3))
 | 0 => ⟨fun _ _ _ _ _ r h => by simp [fringelaw41_SkyMoves.j0] at h, fun _ _ _ _ _ r h => by simp [fringelaw41_SkyMoves.l0] at h, fun _ _ _ _ r h => by simp [fringelaw41_SkyMoves.l1] at h⟩
 | k + 1 => by
  obtain ⟨ih0, ih1, ih2⟩ := fringelaw41_SkyMoves.mono_l k
  refine ⟨?_, ?_, ?_⟩
  ·intro y0 y1 y2 y3 y4
   unfold fringelaw41_SkyMoves.j0
   repeat' first
   | (with_reducible exact ih0 _ _ _ _ _)
   | (with_reducible exact ih1 _ _ _ _ _)
   | (with_reducible exact ih2 _ _ _ _)
   | (with_reducible exact fringeref41_Merge.mono _ _)
   | (with_reducible exact fringeref41_Same.mono _ _ _)
   | (with_reducible exact fringeref41_Shift.mono _ _ _ _)
   | (with_reducible exact sky_Merge.mono _ _)
   | (with_reducible exact sky_Shift.mono _ _ _ _)
   | (with_reducible exact LeO.refl _)
   | (with_reducible exact LeO.none _)
   | (with_reducible refine LeO.ite ?_ ?_)
   | (with_reducible refine LeO.bind ?_ (fun _ => ?_))
   | exact ih0 _ _ _ _ _
   | exact ih1 _ _ _ _ _
   | exact ih2 _ _ _ _
   | exact fringeref41_Merge.mono _ _
   | exact fringeref41_Same.mono _ _ _
   | exact fringeref41_Shift.mono _ _ _ _
   | exact sky_Merge.mono _ _
   | exact sky_Shift.mono _ _ _ _
   | exact LeO.none _
   | refine LeO.ite ?_ ?_
   | refine LeO.bind ?_ (fun _ => ?_)
  ·intro y0 y1 y2 y3 y4
   unfold fringelaw41_SkyMoves.l0
   repeat' first
   | (with_reducible exact ih0 _ _ _ _ _)
   | (with_reducible exact ih1 _ _ _ _ _)
   | (with_reducible exact ih2 _ _ _ _)
   | (with_reducible exact fringeref41_Merge.mono _ _)
   | (with_reducible exact fringeref41_Same.mono _ _ _)
   | (with_reducible exact fringeref41_Shift.mono _ _ _ _)
   | (with_reducible exact sky_Merge.mono _ _)
   | (with_reducible exact sky_Shift.mono _ _ _ _)
   | (with_reducible exact LeO.refl _)
   | (with_reducible exact LeO.none _)
   | (with_reducible refine LeO.ite ?_ ?_)
   | (with_reducible refine LeO.bind ?_ (fun _ => ?_))
   | exact ih0 _ _ _ _ _
   | exact ih1 _ _ _ _ _
   | exact ih2 _ _ _ _
   | exact fringeref41_Merge.mono _ _
   | exact fringeref41_Same.mono _ _ _
   | exact fringeref41_Shift.mono _ _ _ _
   | exact sky_Merge.mono _ _
   | exact sky_Shift.mono _ _ _ _
   | exact LeO.none _
   | refine LeO.ite ?_ ?_
   | refine LeO.bind ?_ (fun _ => ?_)
  ·intro y0 y1 y2 y3
   unfold fringelaw41_SkyMoves.l1
   repeat' first
   | (with_reducible exact ih0 _ _ _ _ _)
   | (with_reducible exact ih1 _ _ _ _ _)
   | (with_reducible exact ih2 _ _ _ _)
   | (with_reducible exact fringeref41_Merge.mono _ _)
   | (with_reducible exact fringeref41_Same.mono _ _ _)
   | (with_reducible exact fringeref41_Shift.mono _ _ _ _)
   | (with_reducible exact sky_Merge.mono _ _)
   | (with_reducible exact sky_Shift.mono _ _ _ _)
   | (with_reducible exact LeO.refl _)
   | (with_reducible exact LeO.none _)
   | (with_reducible refine LeO.ite ?_ ?_)
   | (with_reducible refine LeO.bind ?_ (fun _ => ?_))
   | exact ih0 _ _ _ _ _
   | exact ih1 _ _ _ _ _
   | exact ih2 _ _ _ _
   | exact fringeref41_Merge.mono _ _
   | exact fringeref41_Same.mono _ _ _
   | exact fringeref41_Shift.mono _ _ _ _
   | exact sky_Merge.mono _ _
   | exact sky_Shift.mono _ _ _ _
   | exact LeO.none _
   | refine LeO.ite ?_ ?_
   | refine LeO.bind ?_ (fun _ => ?_)
theorem fringelaw41_SkyMoves.mono : ∀ a0 a1 a2 k, LeO (fringelaw41_SkyMoves.f k a0 a1 a2) (fringelaw41_SkyMoves.f (k + 1) a0 a1 a2) := by
 intro a0 a1 a2 k
 obtain ⟨ih0, ih1, ih2⟩ := fringelaw41_SkyMoves.mono_l k
 unfold fringelaw41_SkyMoves.f
 repeat' first
   | (with_reducible exact ih0 _ _ _ _ _)
   | (with_reducible exact ih1 _ _ _ _ _)
   | (with_reducible exact ih2 _ _ _ _)
   | (with_reducible exact fringeref41_Merge.mono _ _)
   | (with_reducible exact fringeref41_Same.mono _ _ _)
   | (with_reducible exact fringeref41_Shift.mono _ _ _ _)
   | (with_reducible exact sky_Merge.mono _ _)
   | (with_reducible exact sky_Shift.mono _ _ _ _)
   | (with_reducible exact LeO.refl _)
   | (with_reducible exact LeO.none _)
   | (with_reducible refine LeO.ite ?_ ?_)
   | (with_reducible refine LeO.bind ?_ (fun _ => ?_))
   | exact ih0 _ _ _ _ _
   | exact ih1 _ _ _ _ _
   | exact ih2 _ _ _ _
   | exact fringeref41_Merge.mono _ _
   | exact fringeref41_Same.mono _ _ _
   | exact fringeref41_Shift.mono _ _ _ _
   | exact sky_Merge.mono _ _
   | exact sky_Shift.mono _ _ _ _
   | exact LeO.none _
   | refine LeO.ite ?_ ?_
   | refine LeO.bind ?_ (fun _ => ?_)
set_option maxHeartbeats 8000000 in
set_option maxRecDepth 100000 in
theorem fringelaw41_SkyMoves.calls (k : Nat) (A0 : Option Addr) (c0 : Nat) (l0 : List (S33)) (a1 : Int) (a2 : Int) (w : World) (hr0 : Kd.C k33 w A0 l0.length l0) (hc0 : l0.length ≤ c0) (h : fringelaw41_SkyMoves.f k l0 a1 a2 = some true) :
  Calls Try.prog 3 #[.slice A0 l0.length c0, .int .i64 a1, .int .i64 a2] w fun e w' => e = .returned (.bool true) ∧ Below w.heap.size w w' := by
 have HR0 := Aside0.mk hr0
 have HC0 := Aside0.mk hc0
 clear hr0 hc0
 have HB := Aside0.mk (Below.refl w.heap.size w)
 have H : ((fringeref41_Great.f ([] : List (S41)) l0).bind fun t149 => (if t149 = true then (some true) else ((some (([] : List (S33)) : List (S33))).bind fun y150 => (if y150.length + l0.length < 5864062014805 then ((some (y150 ++ l0 : List (S33))).bind fun y153 => ((sky_Merge.f k l0).bind fun bt156 => ((fringeref41_Merge.f k l0).bind fun bt160 => ((sky_Shift.f k l0 a1 a2).bind fun bt164 => ((fringeref41_Shift.f k l0 a1 a2).bind fun bt168 => ((fringeref41_Same.f k bt156.1 bt160.1).bind fun t172 => (if t172 = true then (if bt156.2 = bt160.2 then ((fringeref41_Same.f k bt164.1 bt168.1).bind fun t173 => (if t173 = true then (fringelaw41_SkyMoves.j0 k l0 y153 bt156.1 bt164.1 (bt164.2 != bt168.2)) else (fringelaw41_SkyMoves.j0 k l0 y153 bt156.1 bt164.1 true))) else (fringelaw41_SkyMoves.j0 k l0 y153 bt156.1 bt164.1 true)) else (fringelaw41_SkyMoves.j0 k l0 y153 bt156.1 bt164.1 true)))))))) else (none))))) = some true := h
 clear h
 replace H := Option.bind_eq_some_iff.mp H
 obtain ⟨t149, A40, H⟩ := H
 replace H : (if t149 = true then (some true) else ((some (([] : List (S33)) : List (S33))).bind fun y150 => (if y150.length + l0.length < 5864062014805 then ((some (y150 ++ l0 : List (S33))).bind fun y153 => ((sky_Merge.f k l0).bind fun bt156 => ((fringeref41_Merge.f k l0).bind fun bt160 => ((sky_Shift.f k l0 a1 a2).bind fun bt164 => ((fringeref41_Shift.f k l0 a1 a2).bind fun bt168 => ((fringeref41_Same.f k bt156.1 bt160.1).bind fun t172 => (if t172 = true then (if bt156.2 = bt160.2 then ((fringeref41_Same.f k bt164.1 bt168.1).bind fun t173 => (if t173 = true then (fringelaw41_SkyMoves.j0 k l0 y153 bt156.1 bt164.1 (bt164.2 != bt168.2)) else (fringelaw41_SkyMoves.j0 k l0 y153 bt156.1 bt164.1 true))) else (fringelaw41_SkyMoves.j0 k l0 y153 bt156.1 bt164.1 true)) else (fringelaw41_SkyMoves.j0 k l0 y153 bt156.1 bt164.1 true)))))))) else (none)))) = some true := H
 have A4 := Aside0.mk A40
 clear A40
 by_cases c5 : t149 = true
 ·as_aux_lemma =>
  subst c5
  have H1 : (some true) = some true := by first | (with_reducible rfl) | (rw [if_pos rfl] at H; exact H)
  clear H
  have H := H1
  clear H1
  have hend := Aside0.mk (Option.some.inj H)
  clear H
  go_enter Try.func3, Try.ntmps3
  go_wp2_with (first | ((with_reducible refine gate_callee (f := 10) rfl ?_); refine goesL_ (some 19) rfl rfl Try.func10 (by kernel_rfl) rfl #[.slice none 0 0, .slice A0 l0.length c0] rfl (by (try simp only [List.map_toArray, List.map_cons, List.map_nil]); first | done | rfl | (simp only [List.length_drop, List.length_take]; rfl)) ?_; (refine (fringeref41_Great.calls _ _ ([] : List (S41)) _ _ l0 true _ ?side1 ?side2 ?side3 ?side4 A4.out).mono ?_); (case side1 => exact Kd.C_nil _ _); (case side2 => exact Nat.le_refl _); (case side3 => repeat (first | exact HR0.out | (with_reducible refine Kd.C_alloc ?_ _) | (with_reducible refine Kd.C_drewN ?_ _) | (with_reducible refine Kd.C_drew ?_))); (case side4 => exact HC0.out); rintro e w' ⟨rfl, ⟨nd, rfl⟩⟩; refine ⟨_, rfl, ?_⟩))
  go_ret
  exact ⟨by first | rfl | (rw [hend.out]; done) | (simp only [hend.out]; done) | (simp [*]; first | exact hend.out | exact eq_of_beq hend.out | exact of_decide_eq_true hend.out) | (have h_ := hend.out; simp_all; done) | (simp [*, errW_none, errW_some] <;> rfl), by repeat (first | (with_reducible first | exact HB.out | apply below_alloc | apply pw_below_drewN | apply below_drew1) | exact HB.out)⟩
 ·as_aux_lemma =>
  replace c5 := Bool.eq_false_iff.mpr c5
  subst c5
  have H1 : ((some (([] : List (S33)) : List (S33))).bind fun y150 => (if y150.length + l0.length < 5864062014805 then ((some (y150 ++ l0 : List (S33))).bind fun y153 => ((sky_Merge.f k l0).bind fun bt156 => ((fringeref41_Merge.f k l0).bind fun bt160 => ((sky_Shift.f k l0 a1 a2).bind fun bt164 => ((fringeref41_Shift.f k l0 a1 a2).bind fun bt168 => ((fringeref41_Same.f k bt156.1 bt160.1).bind fun t172 => (if t172 = true then (if bt156.2 = bt160.2 then ((fringeref41_Same.f k bt164.1 bt168.1).bind fun t173 => (if t173 = true then (fringelaw41_SkyMoves.j0 k l0 y153 bt156.1 bt164.1 (bt164.2 != bt168.2)) else (fringelaw41_SkyMoves.j0 k l0 y153 bt156.1 bt164.1 true))) else (fringelaw41_SkyMoves.j0 k l0 y153 bt156.1 bt164.1 true)) else (fringelaw41_SkyMoves.j0 k l0 y153 bt156.1 bt164.1 true)))))))) else (none))) = some true := by first | (with_reducible rfl) | (rw [if_neg (show ¬ (false = true) by decide)] at H; exact H)
  clear H
  have H := H1
  clear H1
  obtain ⟨y150, hy150⟩ : ∃ y_ : List (S33), y_ = (([] : List (S33))) := ⟨_, rfl⟩
  replace H : (if y150.length + l0.length < 5864062014805 then ((some (y150 ++ l0 : List (S33))).bind fun y153 => ((sky_Merge.f k l0).bind fun bt156 => ((fringeref41_Merge.f k l0).bind fun bt160 => ((sky_Shift.f k l0 a1 a2).bind fun bt164 => ((fringeref41_Shift.f k l0 a1 a2).bind fun bt168 => ((fringeref41_Same.f k bt156.1 bt160.1).bind fun t172 => (if t172 = true then (if bt156.2 = bt160.2 then ((fringeref41_Same.f k bt164.1 bt168.1).bind fun t173 => (if t173 = true then (fringelaw41_SkyMoves.j0 k l0 y153 bt156.1 bt164.1 (bt164.2 != bt168.2)) else (fringelaw41_SkyMoves.j0 k l0 y153 bt156.1 bt164.1 true))) else (fringelaw41_SkyMoves.j0 k l0 y153 bt156.1 bt164.1 true)) else (fringelaw41_SkyMoves.j0 k l0 y153 bt156.1 bt164.1 true)))))))) else (none)) = some true := by first | (rw [hy150]; with_reducible exact H) | (have H2_ := (Option.bind_some _ _).symm.trans H; rw [hy150]; with_reducible exact H2_) | (have H2_ := (Option.bind_some _ _).symm.trans H; with_reducible exact H2_) | with_reducible exact H | (rw [hy150]; exact H) | exact H
  have Ny150 := Aside0.mk hy150
  clear hy150
  by_cases c6 : y150.length + l0.length < 5864062014805
  ·as_aux_lemma =>
   rw [if_pos c6] at H
   have LMc6 := Aside0.mk c6
   clear c6
   obtain ⟨y153, hy153⟩ : ∃ y_ : List (S33), y_ = (y150 ++ l0) := ⟨_, rfl⟩
   replace H : ((sky_Merge.f k l0).bind fun bt156 => ((fringeref41_Merge.f k l0).bind fun bt160 => ((sky_Shift.f k l0 a1 a2).bind fun bt164 => ((fringeref41_Shift.f k l0 a1 a2).bind fun bt168 => ((fringeref41_Same.f k bt156.1 bt160.1).bind fun t172 => (if t172 = true then (if bt156.2 = bt160.2 then ((fringeref41_Same.f k bt164.1 bt168.1).bind fun t173 => (if t173 = true then (fringelaw41_SkyMoves.j0 k l0 y153 bt156.1 bt164.1 (bt164.2 != bt168.2)) else (fringelaw41_SkyMoves.j0 k l0 y153 bt156.1 bt164.1 true))) else (fringelaw41_SkyMoves.j0 k l0 y153 bt156.1 bt164.1 true)) else (fringelaw41_SkyMoves.j0 k l0 y153 bt156.1 bt164.1 true))))))) = some true := by first | (rw [hy153]; with_reducible exact H) | (have H2_ := (Option.bind_some _ _).symm.trans H; rw [hy153]; with_reducible exact H2_) | (have H2_ := (Option.bind_some _ _).symm.trans H; with_reducible exact H2_) | with_reducible exact H | (rw [hy153]; exact H) | exact H
   have Ny153 := Aside0.mk hy153
   clear hy153
   replace H := Option.bind_eq_some_iff.mp H
   obtain ⟨⟨t156, t157⟩, A70, H⟩ := H
   replace H : ((fringeref41_Merge.f k l0).bind fun bt160 => ((sky_Shift.f k l0 a1 a2).bind fun bt164 => ((fringeref41_Shift.f k l0 a1 a2).bind fun bt168 => ((fringeref41_Same.f k t156 bt160.1).bind fun t172 => (if t172 = true then (if t157 = bt160.2 then ((fringeref41_Same.f k bt164.1 bt168.1).bind fun t173 => (if t173 = true then (fringelaw41_SkyMoves.j0 k l0 y153 t156 bt164.1 (bt164.2 != bt168.2)) else (fringelaw41_SkyMoves.j0 k l0 y153 t156 bt164.1 true))) else (fringelaw41_SkyMoves.j0 k l0 y153 t156 bt164.1 true)) else (fringelaw41_SkyMoves.j0 k l0 y153 t156 bt164.1 true)))))) = some true := H
   have A7 := Aside0.mk A70
   clear A70
   replace H := Option.bind_eq_some_iff.mp H
   obtain ⟨⟨t160, t161⟩, A80, H⟩ := H
   replace H : ((sky_Shift.f k l0 a1 a2).bind fun bt164 => ((fringeref41_Shift.f k l0 a1 a2).bind fun bt168 => ((fringeref41_Same.f k t156 t160).bind fun t172 => (if t172 = true then (if t157 = t161 then ((fringeref41_Same.f k bt164.1 bt168.1).bind fun t173 => (if t173 = true then (fringelaw41_SkyMoves.j0 k l0 y153 t156 bt164.1 (bt164.2 != bt168.2)) else (fringelaw41_SkyMoves.j0 k l0 y153 t156 bt164.1 true))) else (fringelaw41_SkyMoves.j0 k l0 y153 t156 bt164.1 true)) else (fringelaw41_SkyMoves.j0 k l0 y153 t156 bt164.1 true))))) = some true := H
   have A8 := Aside0.mk A80
   clear A80
   replace H := Option.bind_eq_some_iff.mp H
   obtain ⟨⟨t164, t165⟩, A90, H⟩ := H
   replace H : ((fringeref41_Shift.f k l0 a1 a2).bind fun bt168 => ((fringeref41_Same.f k t156 t160).bind fun t172 => (if t172 = true then (if t157 = t161 then ((fringeref41_Same.f k t164 bt168.1).bind fun t173 => (if t173 = true then (fringelaw41_SkyMoves.j0 k l0 y153 t156 t164 (t165 != bt168.2)) else (fringelaw41_SkyMoves.j0 k l0 y153 t156 t164 true))) else (fringelaw41_SkyMoves.j0 k l0 y153 t156 t164 true)) else (fringelaw41_SkyMoves.j0 k l0 y153 t156 t164 true)))) = some true := H
   have A9 := Aside0.mk A90
   clear A90
   replace H := Option.bind_eq_some_iff.mp H
   obtain ⟨⟨t168, t169⟩, A100, H⟩ := H
   replace H : ((fringeref41_Same.f k t156 t160).bind fun t172 => (if t172 = true then (if t157 = t161 then ((fringeref41_Same.f k t164 t168).bind fun t173 => (if t173 = true then (fringelaw41_SkyMoves.j0 k l0 y153 t156 t164 (t165 != t169)) else (fringelaw41_SkyMoves.j0 k l0 y153 t156 t164 true))) else (fringelaw41_SkyMoves.j0 k l0 y153 t156 t164 true)) else (fringelaw41_SkyMoves.j0 k l0 y153 t156 t164 true))) = some true := H
   have A10 := Aside0.mk A100
   clear A100
   have HC11 := Aside0.mk H
   clear H
   go_enter Try.func3, Try.ntmps3
   go_upto_region 8 with (first | ((with_reducible refine gate_callee (f := 10) rfl ?_); refine goesL_ (some 19) rfl rfl Try.func10 (by kernel_rfl) rfl #[.slice none 0 0, .slice A0 l0.length c0] rfl (by (try simp only [List.map_toArray, List.map_cons, List.map_nil]); first | done | rfl | (simp only [List.length_drop, List.length_take]; rfl)) ?_; (refine (fringeref41_Great.calls _ _ ([] : List (S41)) _ _ l0 false _ ?side1 ?side2 ?side3 ?side4 A4.out).mono ?_); (case side1 => exact Kd.C_nil _ _); (case side2 => exact Nat.le_refl _); (case side3 => repeat (first | exact HR0.out | (with_reducible refine Kd.C_alloc ?_ _) | (with_reducible refine Kd.C_drewN ?_ _) | (with_reducible refine Kd.C_drew ?_))); (case side4 => exact HC0.out); rintro e w' ⟨rfl, ⟨nd, rfl⟩⟩; refine ⟨_, rfl, ?_⟩) | ((with_reducible refine gate_dst (N := 20) rfl ?_); refine Kd.R_lit k33 _ 33 ?hg (N := 20) ?hd (xs := ([] : List (S33))) (inner := []) (ok := fun _ => True) (okp := fun _ => True) ?hr ?hp (fun _ hk => hk) trivial (Below.refl _ _) (Nat.le_refl _) (by simp) ?_; (case hd => rfl); (case hg => rfl); (case hr => first | (go_simp; done) | (go_simp; rfl)); (case hp => exact (Reps.none _ _)); intro v151 w12 ho13 hb hg_ hnew_; clear hg_ hnew_; (first | rw [← Ny150.out] at ho13 | (simp only [Int.reduceToNat] at ho13; rw [← Ny150.out] at ho13)); have n0_ := Aside0.mk (Kd.R_lower ho13 (below_size (by repeat (first | (with_reducible first | exact HB.out | apply below_alloc | apply pw_below_drewN | apply below_drew1) | exact HB.out)))); have n1_ := Aside0.mk (below_step (by repeat (first | (with_reducible first | exact HB.out | apply below_alloc | apply pw_below_drewN | apply below_drew1) | exact HB.out)) hb); clear HB; have HO152 := n0_; have HB := n1_; clear n0_ n1_; clear hb ho13) | ((with_reducible refine gate_builtin (b := .append) (xs := #[.tmp 20, .tmp 21]) rfl ?_); at_builtin; refine Kd.R_append_rows k33 (w0 := w) w.heap.size rfl (.tmp 20) (.tmp 21) 22 33 (.agg #[(.int .i64 0), (.int .i64 0), (.int .i64 0)]) 24 rfl Try.underlying22 info33 rfl (by decide) (by omega) v151 y150 l0 _ _ _ (fun _ => True) (fun _ => False) rfl rfl ?aO ?aR (fun _ _ h => h) (fun _ h => h.elim) ?aF ?aB ?aS ?aL ?_; (case aR => repeat (first | exact (Kd.C_below HR0.out HB.out) | (with_reducible refine Kd.C_alloc ?_ _) | (with_reducible refine Kd.C_drewN ?_ _) | (with_reducible refine Kd.C_drew ?_))); (case aB => exact (by repeat (first | (with_reducible first | exact HB.out | apply below_alloc | apply pw_below_drewN | apply below_drew1) | exact HB.out))); (case aF => exact (fun _ _ => trivial)); (case aO => exact (by (with_reducible repeat (first | apply Kd.R_alloc | apply Kd.R_drewN | apply Kd.R_drew)); exact HO152.out)); (case aS => exact (below_size (by repeat (first | (with_reducible first | exact HB.out | apply below_alloc | apply pw_below_drewN | apply below_drew1) | exact HB.out)))); (case aL => have := LMc6.out; omega); intro v154 w14 ho hb hg hat; rw [← Ny153.out] at ho; have n0_ := Aside0.mk (hb); have n1_ := Aside0.mk (ho); clear HB; clear HO152; have HB := n0_; have HO155 := n1_; clear n0_ n1_; clear ho hb hg hat) | ((with_reducible refine gate_callee (f := 11) rfl ?_); refine goesL_ (some 25) rfl rfl Try.func11 (by kernel_rfl) rfl #[.slice A0 l0.length c0] rfl (by (try simp only [List.map_toArray, List.map_cons, List.map_nil]); first | done | rfl | (simp only [List.length_drop, List.length_take]; rfl)) ?_; (with_reducible refine (sky_Merge.calls k _ _ l0 t156 t157 _ ?side1 ?side2 A7.out).mono ?_); (case side1 => repeat (first | exact (Kd.C_below HR0.out HB.out) | (with_reducible refine Kd.C_alloc ?_ _) | (with_reducible refine Kd.C_drewN ?_ _) | (with_reducible refine Kd.C_drew ?_))); (case side2 => exact HC0.out); rintro e w15 ⟨v158, rfl, ho0, hb⟩; refine ⟨_, rfl, ?_⟩; have n0_ := Aside0.mk (Kd.R_elder' (by (with_reducible repeat (first | apply Kd.R_alloc | apply Kd.R_drewN | apply Kd.R_drew)); exact HO155.out) (Kd.R_base ho0) hb); have n1_ := Aside0.mk (Kd.R_lower (Kd.R_new' ho0 (Kd.R_lt (by (with_reducible repeat (first | apply Kd.R_alloc | apply Kd.R_drewN | apply Kd.R_drew)); exact HO155.out))) (below_size (by repeat (first | (with_reducible first | exact HB.out | apply below_alloc | apply pw_below_drewN | apply below_drew1) | exact HB.out)))); have n2_ := Aside0.mk (below_step (by repeat (first | (with_reducible first | exact HB.out | apply below_alloc | apply pw_below_drewN | apply below_drew1) | exact HB.out)) hb); clear HO155; clear HB; have HO155 := n0_; have HO159 := n1_; have HB := n2_; clear n0_ n1_ n2_; (try clear hb); (try clear hb2); (try clear hk); (try clear hi); (try clear ho0)) | ((with_reducible refine gate_callee (f := 12) rfl ?_); refine goesL_ (some 30) rfl rfl Try.func12 (by kernel_rfl) rfl #[.slice A0 l0.length c0] rfl (by (try simp only [List.map_toArray, List.map_cons, List.map_nil]); first | done | rfl | (simp only [List.length_drop, List.length_take]; rfl)) ?_; (with_reducible refine (fringeref41_Merge.calls k _ _ l0 t160 t161 _ ?side1 ?side2 A8.out).mono ?_); (case side1 => repeat (first | exact (Kd.C_below HR0.out HB.out) | (with_reducible refine Kd.C_alloc ?_ _) | (with_reducible refine Kd.C_drewN ?_ _) | (with_reducible refine Kd.C_drew ?_))); (case side2 => exact HC0.out); rintro e w16 ⟨v162, rfl, ho0, hb⟩; refine ⟨_, rfl, ?_⟩; have n0_ := Aside0.mk (Kd.R_elder' (by (with_reducible repeat (first | apply Kd.R_alloc | apply Kd.R_drewN | apply Kd.R_drew)); exact HO155.out) (Kd.R_base ho0) hb); have n1_ := Aside0.mk (Kd.R_elder' (by (with_reducible repeat (first | apply Kd.R_alloc | apply Kd.R_drewN | apply Kd.R_drew)); exact HO159.out) (Kd.R_base ho0) hb); have n2_ := Aside0.mk (Kd.R_lower (Kd.R_new' (Kd.R_new' ho0 (Kd.R_lt (by (with_reducible repeat (first | apply Kd.R_alloc | apply Kd.R_drewN | apply Kd.R_drew)); exact HO155.out))) (Kd.R_lt (by (with_reducible repeat (first | apply Kd.R_alloc | apply Kd.R_drewN | apply Kd.R_drew)); exact HO159.out))) (below_size (by repeat (first | (with_reducible first | exact HB.out | apply below_alloc | apply pw_below_drewN | apply below_drew1) | exact HB.out)))); have n3_ := Aside0.mk (below_step (by repeat (first | (with_reducible first | exact HB.out | apply below_alloc | apply pw_below_drewN | apply below_drew1) | exact HB.out)) hb); clear HO155; clear HO159; clear HB; have HO155 := n0_; have HO159 := n1_; have HO163 := n2_; have HB := n3_; clear n0_ n1_ n2_ n3_; (try clear hb); (try clear hb2); (try clear hk); (try clear hi); (try clear ho0)) | ((with_reducible refine gate_callee (f := 13) rfl ?_); refine goesL_ (some 37) rfl rfl Try.func13 (by kernel_rfl) rfl #[.slice A0 l0.length c0, .int .i64 a1, .int .i64 a2] rfl (by (try simp only [List.map_toArray, List.map_cons, List.map_nil]); first | done | rfl | (simp only [List.length_drop, List.length_take]; rfl)) ?_; (with_reducible refine (sky_Shift.calls k _ _ l0 a1 a2 t164 t165 _ ?side1 ?side2 A9.out).mono ?_); (case side1 => repeat (first | exact (Kd.C_below HR0.out HB.out) | (with_reducible refine Kd.C_alloc ?_ _) | (with_reducible refine Kd.C_drewN ?_ _) | (with_reducible refine Kd.C_drew ?_))); (case side2 => exact HC0.out); rintro e w17 ⟨v166, rfl, ho0, hb⟩; refine ⟨_, rfl, ?_⟩; have n0_ := Aside0.mk (Kd.R_elder' (by (with_reducible repeat (first | apply Kd.R_alloc | apply Kd.R_drewN | apply Kd.R_drew)); exact HO155.out) (Kd.R_base ho0) hb); have n1_ := Aside0.mk (Kd.R_elder' (by (with_reducible repeat (first | apply Kd.R_alloc | apply Kd.R_drewN | apply Kd.R_drew)); exact HO159.out) (Kd.R_base ho0) hb); have n2_ := Aside0.mk (Kd.R_elder' (by (with_reducible repeat (first | apply Kd.R_alloc | apply Kd.R_drewN | apply Kd.R_drew)); exact HO163.out) (Kd.R_base ho0) hb); have n3_ := Aside0.mk (Kd.R_lower (Kd.R_new' (Kd.R_new' (Kd.R_new' ho0 (Kd.R_lt (by (with_reducible repeat (first | apply Kd.R_alloc | apply Kd.R_drewN | apply Kd.R_drew)); exact HO155.out))) (Kd.R_lt (by (with_reducible repeat (first | apply Kd.R_alloc | apply Kd.R_drewN | apply Kd.R_drew)); exact HO159.out))) (Kd.R_lt (by (with_reducible repeat (first | apply Kd.R_alloc | apply Kd.R_drewN | apply Kd.R_drew)); exact HO163.out))) (below_size (by repeat (first | (with_reducible first | exact HB.out | apply below_alloc | apply pw_below_drewN | apply below_drew1) | exact HB.out)))); have n4_ := Aside0.mk (below_step (by repeat (first | (with_reducible first | exact HB.out | apply below_alloc | apply pw_below_drewN | apply below_drew1) | exact HB.out)) hb); clear HO155; clear HO159; clear HO163; clear HB; have HO155 := n0_; have HO159 := n1_; have HO163 := n2_; have HO167 := n3_; have HB := n4_; clear n0_ n1_ n2_ n3_ n4_; (try clear hb); (try clear hb2); (try clear hk); (try clear hi); (try clear ho0)) | ((with_reducible refine gate_callee (f := 14) rfl ?_); refine goesL_ (some 44) rfl rfl Try.func14 (by kernel_rfl) rfl #[.slice A0 l0.length c0, .int .i64 a1, .int .i64 a2] rfl (by (try simp only [List.map_toArray, List.map_cons, List.map_nil]); first | done | rfl | (simp only [List.length_drop, List.length_take]; rfl)) ?_; (with_reducible refine (fringeref41_Shift.calls k _ _ l0 a1 a2 t168 t169 _ ?side1 ?side2 A10.out).mono ?_); (case side1 => repeat (first | exact (Kd.C_below HR0.out HB.out) | (with_reducible refine Kd.C_alloc ?_ _) | (with_reducible refine Kd.C_drewN ?_ _) | (with_reducible refine Kd.C_drew ?_))); (case side2 => exact HC0.out); rintro e w18 ⟨v170, rfl, ho0, hb⟩; refine ⟨_, rfl, ?_⟩; have n0_ := Aside0.mk (Kd.R_elder' (by (with_reducible repeat (first | apply Kd.R_alloc | apply Kd.R_drewN | apply Kd.R_drew)); exact HO155.out) (Kd.R_base ho0) hb); have n1_ := Aside0.mk (Kd.R_elder' (by (with_reducible repeat (first | apply Kd.R_alloc | apply Kd.R_drewN | apply Kd.R_drew)); exact HO159.out) (Kd.R_base ho0) hb); have n2_ := Aside0.mk (Kd.R_elder' (by (with_reducible repeat (first | apply Kd.R_alloc | apply Kd.R_drewN | apply Kd.R_drew)); exact HO163.out) (Kd.R_base ho0) hb); have n3_ := Aside0.mk (Kd.R_elder' (by (with_reducible repeat (first | apply Kd.R_alloc | apply Kd.R_drewN | apply Kd.R_drew)); exact HO167.out) (Kd.R_base ho0) hb); have n4_ := Aside0.mk (Kd.R_lower (Kd.R_new' (Kd.R_new' (Kd.R_new' (Kd.R_new' ho0 (Kd.R_lt (by (with_reducible repeat (first | apply Kd.R_alloc | apply Kd.R_drewN | apply Kd.R_drew)); exact HO155.out))) (Kd.R_lt (by (with_reducible repeat (first | apply Kd.R_alloc | apply Kd.R_drewN | apply Kd.R_drew)); exact HO159.out))) (Kd.R_lt (by (with_reducible repeat (first | apply Kd.R_alloc | apply Kd.R_drewN | apply Kd.R_drew)); exact HO163.out))) (Kd.R_lt (by (with_reducible repeat (first | apply Kd.R_alloc | apply Kd.R_drewN | apply Kd.R_drew)); exact HO167.out))) (below_size (by repeat (first | (with_reducible first | exact HB.out | apply below_alloc | apply pw_below_drewN | apply below_drew1) | exact HB.out)))); have n5_ := Aside0.mk (below_step (by repeat (first | (with_reducible first | exact HB.out | apply below_alloc | apply pw_below_drewN | apply below_drew1) | exact HB.out)) hb); clear HO155; clear HO159; clear HO163; clear HO167; clear HB; have HO155 := n0_; have HO159 := n1_; have HO163 := n2_; have HO167 := n3_; have HO171 := n4_; have HB := n5_; clear n0_ n1_ n2_ n3_ n4_ n5_; (try clear hb); (try clear hb2); (try clear hk); (try clear hi); (try clear ho0)))
   (try simp only [Act.put, List.setIfInBounds_toArray, List.set_cons_zero, List.set_cons_succ])
   go_cut [66] (fun v66 wc => ∃ (kq : Nat) (x66_10 : Bool), v66 = .bool x66_10 ∧ Aside0 (fringelaw41_SkyMoves.j0 kq l0 y153 t156 t164 x66_10 = some true) ∧ Aside0 (kq ≤ k) ∧ Aside0 (Kd.R k33 33 wc w.heap.size (fun k_ => some k_ ≠ (v158 : Value).ownBlock ∧ some k_ ≠ (v166 : Value).ownBlock) v154 y153) ∧ Aside0 (Kd.R k33 33 wc w.heap.size (fun k_ => some k_ ≠ (v154 : Value).ownBlock ∧ some k_ ≠ (v166 : Value).ownBlock) v158 t156) ∧ Aside0 (Kd.R k33 33 wc w.heap.size (fun k_ => some k_ ≠ (v154 : Value).ownBlock ∧ some k_ ≠ (v158 : Value).ownBlock) v166 t164) ∧ Aside0 (Below w.heap.size w wc))
   case first =>
    as_aux_lemma =>
    have H := HC11.out
    clear HC11
    replace H := Option.bind_eq_some_iff.mp H
    obtain ⟨t172, A190, H⟩ := H
    replace H : (if t172 = true then (if t157 = t161 then ((fringeref41_Same.f k t164 t168).bind fun t173 => (if t173 = true then (fringelaw41_SkyMoves.j0 k l0 y153 t156 t164 (t165 != t169)) else (fringelaw41_SkyMoves.j0 k l0 y153 t156 t164 true))) else (fringelaw41_SkyMoves.j0 k l0 y153 t156 t164 true)) else (fringelaw41_SkyMoves.j0 k l0 y153 t156 t164 true)) = some true := H
    have A19 := Aside0.mk A190
    clear A190
    by_cases c20 : t172 = true
    ·as_aux_lemma =>
     subst c20
     have H1 : (if t157 = t161 then ((fringeref41_Same.f k t164 t168).bind fun t173 => (if t173 = true then (fringelaw41_SkyMoves.j0 k l0 y153 t156 t164 (t165 != t169)) else (fringelaw41_SkyMoves.j0 k l0 y153 t156 t164 true))) else (fringelaw41_SkyMoves.j0 k l0 y153 t156 t164 true)) = some true := by first | (with_reducible rfl) | (rw [if_pos rfl] at H; exact H)
     clear H
     have H := H1
     clear H1
     by_cases c21 : t157 = t161
     ·as_aux_lemma =>
      rw [if_pos c21] at H
      have c21b0 : (t157 == t161) = true := beq_iff_eq.mpr c21
      have c21b1 : (t157 != t161) = false := bne_eq_false_iff_eq.mpr c21
      clear c21
      (first | rw [c21b0] | (simp only [i64_w, i32_w]; rw [c21b0]) | skip)
      replace H := Option.bind_eq_some_iff.mp H
      obtain ⟨t173, A220, H⟩ := H
      replace H : (if t173 = true then (fringelaw41_SkyMoves.j0 k l0 y153 t156 t164 (t165 != t169)) else (fringelaw41_SkyMoves.j0 k l0 y153 t156 t164 true)) = some true := H
      have A22 := Aside0.mk A220
      clear A220
      by_cases c23 : t173 = true
      ·as_aux_lemma =>
       subst c23
       have H1 : (fringelaw41_SkyMoves.j0 k l0 y153 t156 t164 (t165 != t169)) = some true := by first | (with_reducible rfl) | (rw [if_pos rfl] at H; exact H)
       clear H
       have H := H1
       clear H1
       have H' := Aside0.mk H
       clear H
       obtain ⟨Ao24, co24, eo24⟩ := Kd.R_slice HO159.out
       subst eo24
       obtain ⟨Ao25, co25, eo25⟩ := Kd.R_slice HO163.out
       subst eo25
       go_wp2_with (first | ((with_reducible refine gate_callee (f := 15) rfl ?_); refine goesL_ (some 49) rfl rfl Try.func15 (by kernel_rfl) rfl #[.slice Ao24 t156.length co24, .slice Ao25 t160.length co25] rfl (by (try simp only [List.map_toArray, List.map_cons, List.map_nil]); first | done | rfl | (simp only [List.length_drop, List.length_take]; rfl)) ?_; (with_reducible refine (fringeref41_Same.calls k _ _ t156 _ _ t160 true _ ?side1 ?side2 ?side3 ?side4 A19.out).mono ?_); (case side1 => repeat (first | exact (Kd.R_reads' HO159.out).2.2 | (with_reducible refine Kd.C_alloc ?_ _) | (with_reducible refine Kd.C_drewN ?_ _) | (with_reducible refine Kd.C_drew ?_))); (case side2 => exact (Kd.R_reads' HO159.out).2.1); (case side3 => repeat (first | exact (Kd.R_reads' HO163.out).2.2 | (with_reducible refine Kd.C_alloc ?_ _) | (with_reducible refine Kd.C_drewN ?_ _) | (with_reducible refine Kd.C_drew ?_))); (case side4 => exact (Kd.R_reads' HO163.out).2.1); rintro e w' ⟨rfl, ⟨nd, rfl⟩⟩; refine ⟨_, rfl, ?_⟩; obtain ⟨Ao26, co26, eo26⟩ := Kd.R_slice HO167.out; subst eo26; obtain ⟨Ao27, co27, eo27⟩ := Kd.R_slice HO171.out; subst eo27) | (go_at_call 15; (with_reducible refine (fringeref41_Same.calls k _ _ t164 _ _ t168 true _ ?side1 ?side2 ?side3 ?side4 A22.out).mono ?_); (case side1 => repeat (first | exact (Kd.R_reads' HO167.out).2.2 | (with_reducible refine Kd.C_alloc ?_ _) | (with_reducible refine Kd.C_drewN ?_ _) | (with_reducible refine Kd.C_drew ?_))); (case side2 => exact (Kd.R_reads' HO167.out).2.1); (case side3 => repeat (first | exact (Kd.R_reads' HO171.out).2.2 | (with_reducible refine Kd.C_alloc ?_ _) | (with_reducible refine Kd.C_drewN ?_ _) | (with_reducible refine Kd.C_drew ?_))); (case side4 => exact (Kd.R_reads' HO171.out).2.1); rintro e w' ⟨rfl, ⟨nd, rfl⟩⟩))
       go_meet
       case rel => exact ⟨_, ((t165 != t169)), (by first | rfl | (simp; done) | (simp [*]; done)), H', ⟨by first | omega | exact Nat.le_refl _⟩, ⟨by (with_reducible repeat (first | apply Kd.R_alloc | apply Kd.R_drewN | apply Kd.R_drew)); exact Kd.R_mono HO155.out (fun _ hk => ⟨hk.1.1.1.2, hk.1.2⟩)⟩, ⟨by (with_reducible repeat (first | apply Kd.R_alloc | apply Kd.R_drewN | apply Kd.R_drew)); exact Kd.R_mono HO159.out (fun _ hk => ⟨hk.1.1.1.2, hk.1.2⟩)⟩, ⟨by (with_reducible repeat (first | apply Kd.R_alloc | apply Kd.R_drewN | apply Kd.R_drew)); exact Kd.R_mono HO167.out (fun _ hk => ⟨hk.1.1.1.2, hk.1.1.2⟩)⟩, ⟨by repeat (first | (with_reducible first | exact HB.out | apply below_alloc | apply pw_below_drewN | apply below_drew1) | exact HB.out)⟩⟩
      ·as_aux_lemma =>
       replace c23 := Bool.eq_false_iff.mpr c23
       subst c23
       have H1 : (fringelaw41_SkyMoves.j0 k l0 y153 t156 t164 true) = some true := by first | (with_reducible rfl) | (rw [if_neg (show ¬ (false = true) by decide)] at H; exact H)
       clear H
       have H := H1
       clear H1
       have H' := Aside0.mk H
       clear H
       obtain ⟨Ao28, co28, eo28⟩ := Kd.R_slice HO159.out
       subst eo28
       obtain ⟨Ao29, co29, eo29⟩ := Kd.R_slice HO163.out
       subst eo29
       go_wp2_with (first | ((with_reducible refine gate_callee (f := 15) rfl ?_); refine goesL_ (some 49) rfl rfl Try.func15 (by kernel_rfl) rfl #[.slice Ao28 t156.length co28, .slice Ao29 t160.length co29] rfl (by (try simp only [List.map_toArray, List.map_cons, List.map_nil]); first | done | rfl | (simp only [List.length_drop, List.length_take]; rfl)) ?_; (with_reducible refine (fringeref41_Same.calls k _ _ t156 _ _ t160 true _ ?side1 ?side2 ?side3 ?side4 A19.out).mono ?_); (case side1 => repeat (first | exact (Kd.R_reads' HO159.out).2.2 | (with_reducible refine Kd.C_alloc ?_ _) | (with_reducible refine Kd.C_drewN ?_ _) | (with_reducible refine Kd.C_drew ?_))); (case side2 => exact (Kd.R_reads' HO159.out).2.1); (case side3 => repeat (first | exact (Kd.R_reads' HO163.out).2.2 | (with_reducible refine Kd.C_alloc ?_ _) | (with_reducible refine Kd.C_drewN ?_ _) | (with_reducible refine Kd.C_drew ?_))); (case side4 => exact (Kd.R_reads' HO163.out).2.1); rintro e w' ⟨rfl, ⟨nd, rfl⟩⟩; refine ⟨_, rfl, ?_⟩; obtain ⟨Ao30, co30, eo30⟩ := Kd.R_slice HO167.out; subst eo30; obtain ⟨Ao31, co31, eo31⟩ := Kd.R_slice HO171.out; subst eo31) | (go_at_call 15; (with_reducible refine (fringeref41_Same.calls k _ _ t164 _ _ t168 false _ ?side1 ?side2 ?side3 ?side4 A22.out).mono ?_); (case side1 => repeat (first | exact (Kd.R_reads' HO167.out).2.2 | (with_reducible refine Kd.C_alloc ?_ _) | (with_reducible refine Kd.C_drewN ?_ _) | (with_reducible refine Kd.C_drew ?_))); (case side2 => exact (Kd.R_reads' HO167.out).2.1); (case side3 => repeat (first | exact (Kd.R_reads' HO171.out).2.2 | (with_reducible refine Kd.C_alloc ?_ _) | (with_reducible refine Kd.C_drewN ?_ _) | (with_reducible refine Kd.C_drew ?_))); (case side4 => exact (Kd.R_reads' HO171.out).2.1); rintro e w' ⟨rfl, ⟨nd, rfl⟩⟩))
       go_meet
       case rel => exact ⟨_, (true), (by first | rfl | (simp; done) | (simp [*]; done)), H', ⟨by first | omega | exact Nat.le_refl _⟩, ⟨by (with_reducible repeat (first | apply Kd.R_alloc | apply Kd.R_drewN | apply Kd.R_drew)); exact Kd.R_mono HO155.out (fun _ hk => ⟨hk.1.1.1.2, hk.1.2⟩)⟩, ⟨by (with_reducible repeat (first | apply Kd.R_alloc | apply Kd.R_drewN | apply Kd.R_drew)); exact Kd.R_mono HO159.out (fun _ hk => ⟨hk.1.1.1.2, hk.1.2⟩)⟩, ⟨by (with_reducible repeat (first | apply Kd.R_alloc | apply Kd.R_drewN | apply Kd.R_drew)); exact Kd.R_mono HO167.out (fun _ hk => ⟨hk.1.1.1.2, hk.1.1.2⟩)⟩, ⟨by repeat (first | (with_reducible first | exact HB.out | apply below_alloc | apply pw_below_drewN | apply below_drew1) | exact HB.out)⟩⟩
     ·as_aux_lemma =>
      rw [if_neg c21] at H
      have c21b0 : (t157 == t161) = false := beq_eq_false_iff_ne.mpr c21
      have c21b1 : (t157 != t161) = true := bne_iff_ne.mpr c21
      (first | rw [c21b0] | (simp only [i64_w, i32_w]; rw [c21b0]) | skip)
      have H' := Aside0.mk H
      clear H
      obtain ⟨Ao32, co32, eo32⟩ := Kd.R_slice HO159.out
      subst eo32
      obtain ⟨Ao33, co33, eo33⟩ := Kd.R_slice HO163.out
      subst eo33
      go_wp2_with (first | ((with_reducible refine gate_callee (f := 15) rfl ?_); refine goesL_ (some 49) rfl rfl Try.func15 (by kernel_rfl) rfl #[.slice Ao32 t156.length co32, .slice Ao33 t160.length co33] rfl (by (try simp only [List.map_toArray, List.map_cons, List.map_nil]); first | done | rfl | (simp only [List.length_drop, List.length_take]; rfl)) ?_; (with_reducible refine (fringeref41_Same.calls k _ _ t156 _ _ t160 true _ ?side1 ?side2 ?side3 ?side4 A19.out).mono ?_); (case side1 => repeat (first | exact (Kd.R_reads' HO159.out).2.2 | (with_reducible refine Kd.C_alloc ?_ _) | (with_reducible refine Kd.C_drewN ?_ _) | (with_reducible refine Kd.C_drew ?_))); (case side2 => exact (Kd.R_reads' HO159.out).2.1); (case side3 => repeat (first | exact (Kd.R_reads' HO163.out).2.2 | (with_reducible refine Kd.C_alloc ?_ _) | (with_reducible refine Kd.C_drewN ?_ _) | (with_reducible refine Kd.C_drew ?_))); (case side4 => exact (Kd.R_reads' HO163.out).2.1); rintro e w' ⟨rfl, ⟨nd, rfl⟩⟩; refine ⟨_, rfl, ?_⟩))
      go_meet
      case rel => exact ⟨_, (true), (by first | rfl | (simp; done) | (simp [*]; done)), H', ⟨by first | omega | exact Nat.le_refl _⟩, ⟨by (with_reducible repeat (first | apply Kd.R_alloc | apply Kd.R_drewN | apply Kd.R_drew)); exact Kd.R_mono HO155.out (fun _ hk => ⟨hk.1.1.1.2, hk.1.2⟩)⟩, ⟨by (with_reducible repeat (first | apply Kd.R_alloc | apply Kd.R_drewN | apply Kd.R_drew)); exact Kd.R_mono HO159.out (fun _ hk => ⟨hk.1.1.1.2, hk.1.2⟩)⟩, ⟨by (with_reducible repeat (first | apply Kd.R_alloc | apply Kd.R_drewN | apply Kd.R_drew)); exact Kd.R_mono HO167.out (fun _ hk => ⟨hk.1.1.1.2, hk.1.1.2⟩)⟩, ⟨by repeat (first | (with_reducible first | exact HB.out | apply below_alloc | apply pw_below_drewN | apply below_drew1) | exact HB.out)⟩⟩
    ·as_aux_lemma =>
     replace c20 := Bool.eq_false_iff.mpr c20
     subst c20
     have H1 : (fringelaw41_SkyMoves.j0 k l0 y153 t156 t164 true) = some true := by first | (with_reducible rfl) | (rw [if_neg (show ¬ (false = true) by decide)] at H; exact H)
     clear H
     have H := H1
     clear H1
     have H' := Aside0.mk H
     clear H
     obtain ⟨Ao34, co34, eo34⟩ := Kd.R_slice HO159.out
     subst eo34
     obtain ⟨Ao35, co35, eo35⟩ := Kd.R_slice HO163.out
     subst eo35
     go_wp2_with (first | ((with_reducible refine gate_callee (f := 15) rfl ?_); refine goesL_ (some 49) rfl rfl Try.func15 (by kernel_rfl) rfl #[.slice Ao34 t156.length co34, .slice Ao35 t160.length co35] rfl (by (try simp only [List.map_toArray, List.map_cons, List.map_nil]); first | done | rfl | (simp only [List.length_drop, List.length_take]; rfl)) ?_; (with_reducible refine (fringeref41_Same.calls k _ _ t156 _ _ t160 false _ ?side1 ?side2 ?side3 ?side4 A19.out).mono ?_); (case side1 => repeat (first | exact (Kd.R_reads' HO159.out).2.2 | (with_reducible refine Kd.C_alloc ?_ _) | (with_reducible refine Kd.C_drewN ?_ _) | (with_reducible refine Kd.C_drew ?_))); (case side2 => exact (Kd.R_reads' HO159.out).2.1); (case side3 => repeat (first | exact (Kd.R_reads' HO163.out).2.2 | (with_reducible refine Kd.C_alloc ?_ _) | (with_reducible refine Kd.C_drewN ?_ _) | (with_reducible refine Kd.C_drew ?_))); (case side4 => exact (Kd.R_reads' HO163.out).2.1); rintro e w' ⟨rfl, ⟨nd, rfl⟩⟩; refine ⟨_, rfl, ?_⟩))
     go_meet
     case rel => exact ⟨_, (true), (by first | rfl | (simp; done) | (simp [*]; done)), H', ⟨by first | omega | exact Nat.le_refl _⟩, ⟨by (with_reducible repeat (first | apply Kd.R_alloc | apply Kd.R_drewN | apply Kd.R_drew)); exact Kd.R_mono HO155.out (fun _ hk => ⟨hk.1.1.1.2, hk.1.2⟩)⟩, ⟨by (with_reducible repeat (first | apply Kd.R_alloc | apply Kd.R_drewN | apply Kd.R_drew)); exact Kd.R_mono HO159.out (fun _ hk => ⟨hk.1.1.1.2, hk.1.2⟩)⟩, ⟨by (with_reducible repeat (first | apply Kd.R_alloc | apply Kd.R_drewN | apply Kd.R_drew)); exact Kd.R_mono HO167.out (fun _ hk => ⟨hk.1.1.1.2, hk.1.1.2⟩)⟩, ⟨by repeat (first | (with_reducible first | exact HB.out | apply below_alloc | apply pw_below_drewN | apply below_drew1) | exact HB.out)⟩⟩
   case rest =>
    as_aux_lemma =>
    clear HC11
    try clear c1
    try clear c2
    try clear p2
    try clear c3
    try clear c5
    try clear c6
    try clear c10
    try clear c11
    try clear c12
    try clear c13
    try clear c14
    try clear c15
    try clear c20
    try clear c21
    try clear c21b0
    try clear c21b1
    try clear c23
    obtain ⟨kq, x66_10, rfl, HA, HJ10, HO_7, HO_8, HO_12, HB⟩ := hcut
    cases kq with
    | zero => exact absurd HA.out (by simp [fringelaw41_SkyMoves.j0])
    | succ kj10 =>
     have H := HA.out
     clear HA
     simp only [fringelaw41_SkyMoves.j0] at H
     by_cases c36 : x66_10 = true
     ·as_aux_lemma =>
      subst c36
      have H1 : (some false) = some true := by first | (with_reducible rfl) | (rw [if_pos rfl] at H; exact H)
      clear H
      have H := H1
      clear H1
      exact absurd H (by simp)
     ·as_aux_lemma =>
      replace c36 := Bool.eq_false_iff.mpr c36
      subst c36
      have H1 : (fringelaw41_SkyMoves.l0 kj10 l0 y153 t156 t164 0) = some true := by first | (with_reducible rfl) | (rw [if_neg (show ¬ (false = true) by decide)] at H; exact H)
      clear H
      have H := H1
      clear H1
      have H' := Aside0.mk H
      clear H
      go_wp2
      go_loopg [16] kj10 (fun kq v16 w' => ∃ (x12_2 : List (S33)) (x16_2 : Int), v16 = .int .i64 x16_2 ∧ Aside0 (fringelaw41_SkyMoves.l0 kq l0 y153 t156 x12_2 x16_2 = some true) ∧ Aside0 (kq ≤ kj10) ∧ Aside0 (Kd.R k33 33 w' w.heap.size (fun k_ => some k_ ≠ (v158 : Value).ownBlock ∧ some k_ ≠ (v166 : Value).ownBlock) v154 y153) ∧ Aside0 (Kd.R k33 33 w' w.heap.size (fun k_ => some k_ ≠ (v154 : Value).ownBlock ∧ some k_ ≠ (v166 : Value).ownBlock) v158 t156) ∧ Aside0 (Kd.R k33 33 w' w.heap.size (fun k_ => some k_ ≠ (v154 : Value).ownBlock ∧ some k_ ≠ (v158 : Value).ownBlock) v166 x12_2) ∧ Aside0 (Below w.heap.size w w'))
      case atStart => exact ⟨(t164), (0), (by first | rfl | (simp; done) | (simp [*]; done)), H', ⟨Nat.le_refl _⟩, ⟨by (with_reducible repeat (first | apply Kd.R_alloc | apply Kd.R_drewN | apply Kd.R_drew)); exact HO_7.out⟩, ⟨by (with_reducible repeat (first | apply Kd.R_alloc | apply Kd.R_drewN | apply Kd.R_drew)); exact HO_8.out⟩, ⟨by (with_reducible repeat (first | apply Kd.R_alloc | apply Kd.R_drewN | apply Kd.R_drew)); exact HO_12.out⟩, ⟨by repeat (first | (with_reducible first | exact HB.out | apply below_alloc | apply pw_below_drewN | apply below_drew1) | exact HB.out)⟩⟩
      case round =>
       as_aux_lemma =>
       clear H'
       try clear c1
       try clear c2
       try clear p2
       try clear c3
       try clear c5
       try clear c6
       try clear c10
       try clear c11
       try clear c12
       try clear c13
       try clear c14
       try clear c15
       try clear c20
       try clear c21
       try clear c21b0
       try clear c21b1
       try clear c23
       try clear c36
       try clear p2
       obtain ⟨x12_2, x16_2, rfl, HA, HK2, HO_7, HO_8, HO_12, HB⟩ := hrel
       cases gk with
       | zero => exact absurd HA.out (by simp [fringelaw41_SkyMoves.l0])
       | succ k2 =>
        have H := HA.out
        clear HA
        simp only [fringelaw41_SkyMoves.l0] at H
        by_cases c37 : x16_2 < (x12_2.length : Int)
        ·as_aux_lemma =>
         rw [if_pos c37] at H
         have c37b0 : decide (x16_2 < (x12_2.length : Int)) = true := decide_eq_true c37
         clear c37
         by_cases c38 : 0 ≤ x16_2
         ·as_aux_lemma =>
          rw [if_pos c38] at H
          have c38b0 : decide (0 ≤ x16_2) = true := decide_eq_true c38
          clear c38
          obtain ⟨y174, hy174⟩ : ∃ y_ : List (S33), y_ = (x12_2.set (x16_2 : Int).toNat (⟨99, (rd_T33 x12_2 x16_2).f1, (rd_T33 x12_2 x16_2).f2⟩ : S33)) := ⟨_, rfl⟩
          replace H : (fringelaw41_SkyMoves.l0 k2 l0 y153 t156 y174 (wrap64 (x16_2 + 1))) = some true := by first | (rw [hy174]; with_reducible exact H) | (have H2_ := (Option.bind_some _ _).symm.trans H; rw [hy174]; with_reducible exact H2_) | (have H2_ := (Option.bind_some _ _).symm.trans H; with_reducible exact H2_) | with_reducible exact H | (rw [hy174]; exact H) | exact H
          have Ny174 := Aside0.mk hy174
          clear hy174
          have H' := Aside0.mk H
          clear H
          obtain ⟨Ao40, co40, eo40⟩ := Kd.R_slice HO_12.out
          subst eo40
          have p39 : 0 ≤ (x16_2 : Int) := of_decide_eq_true (by first | (with_reducible assumption) | assumption)
          have q39 : (x16_2 : Int) < ((x12_2.length : Int) : Int) := of_decide_eq_true (by first | (with_reducible assumption) | assumption)
          obtain ⟨go39, co39, eo39, gb39, gl39, cl39, HG39⟩ := Kd.R_form HO_12.out (by omega)
          (first | cases eo39 | (injection eo39 with ea_ en_ ec_; (first | subst ea_ | (injection ea_ with ea_; subst ea_)); subst ec_; clear en_))
          have GB39 := Aside0.mk gb39
          have GG39 := Aside0.mk HG39
          clear gb39 gl39 HG39
          obtain ⟨ce39, hcl39, hM39, hcc39, hfr39⟩ := Kd.R_elem HO_12.out z33 (x16_2 : Int) p39 q39
          obtain rfl := k33_openM hM39
          have hx39_0 : wr.cell? ⟨go39, (x16_2 : Int).toNat * 3, none⟩ = some (.int .i64 ((rd_T33 x12_2 x16_2).f0)) := hcc39 0 _ rfl
          have hx39_1 : wr.cell? ⟨go39, (x16_2 : Int).toNat * 3 + 1, none⟩ = some (.int .i64 ((rd_T33 x12_2 x16_2).f1)) := hcc39 1 _ rfl
          have hx39_2 : wr.cell? ⟨go39, (x16_2 : Int).toNat * 3 + 2, none⟩ = some (.int .i64 ((rd_T33 x12_2 x16_2).f2)) := hcc39 2 _ rfl
          have hf39_0 : wr.frozen? ⟨go39, (x16_2 : Int).toNat * 3, none⟩ = false := hfr39 0
          have hf39_1 : wr.frozen? ⟨go39, (x16_2 : Int).toNat * 3 + 1, none⟩ = false := hfr39 1
          have hf39_2 : wr.frozen? ⟨go39, (x16_2 : Int).toNat * 3 + 2, none⟩ = false := hfr39 2
          clear hcl39 hcc39 hfr39 hM39
          replace p39 := eq_true p39
          replace q39 := eq_true q39
          have HX41 := Aside0.mk (show Kd.R k33 33 wr w.heap.size (fun k_ => some k_ ≠ (v154 : Value).ownBlock ∧ some k_ ≠ (v158 : Value).ownBlock) (.slice (some ⟨go39, 0, none⟩) x12_2.length co40) x12_2 from (by (with_reducible repeat (first | apply Kd.R_alloc | apply Kd.R_drewN | apply Kd.R_drew)); exact HO_12.out))
          obtain ⟨ce41, hcl41, hM41, hcc41, hfr41⟩ := Kd.R_elem HX41.out z33 (x16_2 : Int) (of_decide_eq_true (by first | (with_reducible assumption) | assumption)) (by have h_ : (x16_2 : Int) < ((x12_2.length : Int) : Int) := of_decide_eq_true (by first | (with_reducible assumption) | assumption); first | exact h_ | (have e_ := (Kd.R_reads' HO_12.out).1; omega) | simpa using h_)
          obtain rfl := k33_openM hM41
          have HP41 := Kd.R_seg HX41.out (x16_2 : Int) (of_decide_eq_true (by first | (with_reducible assumption) | assumption)) (by have h_ : (x16_2 : Int) < ((x12_2.length : Int) : Int) := of_decide_eq_true (by first | (with_reducible assumption) | assumption); first | exact h_ | (have e_ := (Kd.R_reads' HO_12.out).1; omega) | simpa using h_) (seg := [.int .i64 99]) (j := 0) hcl41 hcc41 (show 1 ≤ 3 from by decide) (x' := (⟨99, (rd_T33 x12_2 x16_2).f1, (rd_T33 x12_2 x16_2).f2⟩ : S33)) (k33_mkM _ _ _ (⟨99, (rd_T33 x12_2 x16_2).f1, (rd_T33 x12_2 x16_2).f2⟩ : S33) ) (fun _ hk => hk)
          have hx41_0 := hcc41 0 _ rfl
          (try simp only [show (k33).sz = 3 from rfl, Nat.mul_one, Nat.add_zero] at hx41_0)
          have hf41_0 := hfr41 0
          (try simp only [show (k33).sz = 3 from rfl, Nat.mul_one, Nat.add_zero] at hf41_0)
          clear hcl41 hcc41 hfr41 hM41
          go_wp2_with (first | ((with_reducible refine gate_store (t := 3) (p := 76) rfl ?_); refine store_event (t := 3) (p := 76) (v := ?vo_w42) (w1 := (wr.setCell ⟨go39, (x16_2 : Int).toNat * 3, none⟩ (.int .i64 99))) ?hg ?ho ?hn ?hr ?_; (case ho => rfl); (case hg => rfl); (case hn => rfl); (case hr => first | (go_simp; done) | (go_simp; rfl)); intro w42 hw; have hg : wr.grownBy w42 (some go39) := (by rw [hw]; exact HP41.2); have hp_ : Kd.R k33 33 w42 w.heap.size (fun k_ => some k_ ≠ (v154 : Value).ownBlock ∧ some k_ ≠ (v158 : Value).ownBlock) (.slice (some ⟨go39, 0, none⟩) x12_2.length co40) y174 := (by rw [hw, Ny174.out]; exact HP41.1); clear HP41; have n0_ := Aside0.mk (Kd.R_after (v := (.slice (some ⟨go39, 0, none⟩) x12_2.length co40)) (v1 := (.slice (some ⟨go39, 0, none⟩) x12_2.length co40)) (ok := (fun k_ => some k_ ≠ (v158 : Value).ownBlock)) (by (with_reducible repeat (first | apply Kd.R_alloc | apply Kd.R_drewN | apply Kd.R_drew)); exact HO_7.out) hg (.inl rfl)); have n1_ := Aside0.mk (Kd.R_after (v := (.slice (some ⟨go39, 0, none⟩) x12_2.length co40)) (v1 := (.slice (some ⟨go39, 0, none⟩) x12_2.length co40)) (ok := (fun k_ => some k_ ≠ (v154 : Value).ownBlock)) (by (with_reducible repeat (first | apply Kd.R_alloc | apply Kd.R_drewN | apply Kd.R_drew)); exact HO_8.out) hg (.inl rfl)); have n2_ := Aside0.mk (hp_); have n3_ := Aside0.mk ((by rw [hw]; exact below_set (HB.out) GB39.out : Below w.heap.size w w42)); clear HO_7; clear HO_8; clear HO_12; clear HB; have HO_7 := n0_; have HO_8 := n1_; have HO_12 := n2_; have HB := n3_; clear n0_ n1_ n2_ n3_; clear hg hw hp_))
          go_roundg k2
          case measure => have := HJ10.out; have := HK2.out; omega
          case rel => exact ⟨(y174), (wrap64 (x16_2 + 1)), (by first | rfl | (simp; done) | (simp [*]; done)), H', ⟨by have := HJ10.out; have := HK2.out; omega⟩, ⟨by (with_reducible repeat (first | apply Kd.R_alloc | apply Kd.R_drewN | apply Kd.R_drew)); exact HO_7.out⟩, ⟨by (with_reducible repeat (first | apply Kd.R_alloc | apply Kd.R_drewN | apply Kd.R_drew)); exact HO_8.out⟩, ⟨by (with_reducible repeat (first | apply Kd.R_alloc | apply Kd.R_drewN | apply Kd.R_drew)); exact HO_12.out⟩, ⟨by repeat (first | (with_reducible first | exact HB.out | apply below_alloc | apply pw_below_drewN | apply below_drew1) | exact HB.out)⟩⟩
         ·as_aux_lemma =>
          rw [if_neg c38] at H
          exact absurd H (by simp)
        ·as_aux_lemma =>
         rw [if_neg c37] at H
         have c37b0 : decide (x16_2 < (x12_2.length : Int)) = false := decide_eq_false c37
         clear c37
         have H' := Aside0.mk H
         clear H
         obtain ⟨Ao43, co43, eo43⟩ := Kd.R_slice HO_12.out
         subst eo43
         go_wp2
         go_loopg [17] k2 (fun kq v17 w' => ∃ (x8_3 : List (S33)) (x17_3 : Int), v17 = .int .i64 x17_3 ∧ Aside0 (fringelaw41_SkyMoves.l1 kq l0 y153 x8_3 x17_3 = some true) ∧ Aside0 (kq ≤ k2) ∧ Aside0 (Kd.R k33 33 w' w.heap.size (fun k_ => some k_ ≠ (v158 : Value).ownBlock) v154 y153) ∧ Aside0 (Kd.R k33 33 w' w.heap.size (fun k_ => some k_ ≠ (v154 : Value).ownBlock) v158 x8_3) ∧ Aside0 (Below w.heap.size w w'))
         case atStart => exact ⟨(t156), (0), (by first | rfl | (simp; done) | (simp [*]; done)), H', ⟨Nat.le_refl _⟩, ⟨by (with_reducible repeat (first | apply Kd.R_alloc | apply Kd.R_drewN | apply Kd.R_drew)); exact Kd.R_mono HO_7.out (fun _ hk => hk.1)⟩, ⟨by (with_reducible repeat (first | apply Kd.R_alloc | apply Kd.R_drewN | apply Kd.R_drew)); exact Kd.R_mono HO_8.out (fun _ hk => hk.1)⟩, ⟨by repeat (first | (with_reducible first | exact HB.out | apply below_alloc | apply pw_below_drewN | apply below_drew1) | exact HB.out)⟩⟩
         case round =>
          as_aux_lemma =>
          clear H'
          try clear c1
          try clear c2
          try clear p2
          try clear c3
          try clear p3
          try clear q3
          try clear hx3
          try clear hf3
          try clear c4
          try clear hx4
          try clear hf4
          try clear c5
          try clear c6
          try clear p6
          try clear c10
          try clear c11
          try clear c12
          try clear c13
          try clear c14
          try clear c15
          try clear c20
          try clear c21
          try clear c21b0
          try clear c21b1
          try clear c23
          try clear c36
          try clear c37
          try clear c37b0
          try clear c38
          try clear c38b0
          try clear c39
          try clear p39
          try clear q39
          try clear hx39
          try clear hf39
          try clear c41
          try clear hx41
          try clear hf41
          try clear hx39_0
          try clear hx39_1
          try clear hx39_2
          try clear hx41_0
          try clear p2
          try clear p39
          try clear q39
          obtain ⟨x8_3, x17_3, rfl, HA, HK3, HO_7, HO_8, HB⟩ := hrel
          cases gk with
          | zero => exact absurd HA.out (by simp [fringelaw41_SkyMoves.l1])
          | succ k3 =>
           have H := HA.out
           clear HA
           simp only [fringelaw41_SkyMoves.l1] at H
           by_cases c44 : x17_3 < (x8_3.length : Int)
           ·as_aux_lemma =>
            rw [if_pos c44] at H
            have c44b0 : decide (x17_3 < (x8_3.length : Int)) = true := decide_eq_true c44
            clear c44
            by_cases c45 : 0 ≤ x17_3
            ·as_aux_lemma =>
             rw [if_pos c45] at H
             have c45b0 : decide (0 ≤ x17_3) = true := decide_eq_true c45
             clear c45
             obtain ⟨y175, hy175⟩ : ∃ y_ : List (S33), y_ = (x8_3.set (x17_3 : Int).toNat (⟨99, (rd_T33 x8_3 x17_3).f1, (rd_T33 x8_3 x17_3).f2⟩ : S33)) := ⟨_, rfl⟩
             replace H : (fringelaw41_SkyMoves.l1 k3 l0 y153 y175 (wrap64 (x17_3 + 1))) = some true := by first | (rw [hy175]; with_reducible exact H) | (have H2_ := (Option.bind_some _ _).symm.trans H; rw [hy175]; with_reducible exact H2_) | (have H2_ := (Option.bind_some _ _).symm.trans H; with_reducible exact H2_) | with_reducible exact H | (rw [hy175]; exact H) | exact H
             have Ny175 := Aside0.mk hy175
             clear hy175
             have H' := Aside0.mk H
             clear H
             obtain ⟨Ao47, co47, eo47⟩ := Kd.R_slice HO_8.out
             subst eo47
             have p46 : 0 ≤ (x17_3 : Int) := of_decide_eq_true (by first | (with_reducible assumption) | assumption)
             have q46 : (x17_3 : Int) < ((x8_3.length : Int) : Int) := of_decide_eq_true (by first | (with_reducible assumption) | assumption)
             obtain ⟨go46, co46, eo46, gb46, gl46, cl46, HG46⟩ := Kd.R_form HO_8.out (by omega)
             (first | cases eo46 | (injection eo46 with ea_ en_ ec_; (first | subst ea_ | (injection ea_ with ea_; subst ea_)); subst ec_; clear en_))
             have GB46 := Aside0.mk gb46
             have GG46 := Aside0.mk HG46
             clear gb46 gl46 HG46
             obtain ⟨ce46, hcl46, hM46, hcc46, hfr46⟩ := Kd.R_elem HO_8.out z33 (x17_3 : Int) p46 q46
             obtain rfl := k33_openM hM46
             have hx46_0 : wr.cell? ⟨go46, (x17_3 : Int).toNat * 3, none⟩ = some (.int .i64 ((rd_T33 x8_3 x17_3).f0)) := hcc46 0 _ rfl
             have hx46_1 : wr.cell? ⟨go46, (x17_3 : Int).toNat * 3 + 1, none⟩ = some (.int .i64 ((rd_T33 x8_3 x17_3).f1)) := hcc46 1 _ rfl
             have hx46_2 : wr.cell? ⟨go46, (x17_3 : Int).toNat * 3 + 2, none⟩ = some (.int .i64 ((rd_T33 x8_3 x17_3).f2)) := hcc46 2 _ rfl
             have hf46_0 : wr.frozen? ⟨go46, (x17_3 : Int).toNat * 3, none⟩ = false := hfr46 0
             have hf46_1 : wr.frozen? ⟨go46, (x17_3 : Int).toNat * 3 + 1, none⟩ = false := hfr46 1
             have hf46_2 : wr.frozen? ⟨go46, (x17_3 : Int).toNat * 3 + 2, none⟩ = false := hfr46 2
             clear hcl46 hcc46 hfr46 hM46
             replace p46 := eq_true p46
             replace q46 := eq_true q46
             have HX48 := Aside0.mk (show Kd.R k33 33 wr w.heap.size (fun k_ => some k_ ≠ (v154 : Value).ownBlock) (.slice (some ⟨go46, 0, none⟩) x8_3.length co47) x8_3 from (by (with_reducible repeat (first | apply Kd.R_alloc | apply Kd.R_drewN | apply Kd.R_drew)); exact HO_8.out))
             obtain ⟨ce48, hcl48, hM48, hcc48, hfr48⟩ := Kd.R_elem HX48.out z33 (x17_3 : Int) (of_decide_eq_true (by first | (with_reducible assumption) | assumption)) (by have h_ : (x17_3 : Int) < ((x8_3.length : Int) : Int) := of_decide_eq_true (by first | (with_reducible assumption) | assumption); first | exact h_ | (have e_ := (Kd.R_reads' HO_8.out).1; omega) | simpa using h_)
             obtain rfl := k33_openM hM48
             have HP48 := Kd.R_seg HX48.out (x17_3 : Int) (of_decide_eq_true (by first | (with_reducible assumption) | assumption)) (by have h_ : (x17_3 : Int) < ((x8_3.length : Int) : Int) := of_decide_eq_true (by first | (with_reducible assumption) | assumption); first | exact h_ | (have e_ := (Kd.R_reads' HO_8.out).1; omega) | simpa using h_) (seg := [.int .i64 99]) (j := 0) hcl48 hcc48 (show 1 ≤ 3 from by decide) (x' := (⟨99, (rd_T33 x8_3 x17_3).f1, (rd_T33 x8_3 x17_3).f2⟩ : S33)) (k33_mkM _ _ _ (⟨99, (rd_T33 x8_3 x17_3).f1, (rd_T33 x8_3 x17_3).f2⟩ : S33) ) (fun _ hk => hk)
             have hx48_0 := hcc48 0 _ rfl
             (try simp only [show (k33).sz = 3 from rfl, Nat.mul_one, Nat.add_zero] at hx48_0)
             have hf48_0 := hfr48 0
             (try simp only [show (k33).sz = 3 from rfl, Nat.mul_one, Nat.add_zero] at hf48_0)
             clear hcl48 hcc48 hfr48 hM48
             go_wp2_with (first | ((with_reducible refine gate_store (t := 3) (p := 86) rfl ?_); refine store_event (t := 3) (p := 86) (v := ?vo_w49) (w1 := (wr.setCell ⟨go46, (x17_3 : Int).toNat * 3, none⟩ (.int .i64 99))) ?hg ?ho ?hn ?hr ?_; (case ho => rfl); (case hg => rfl); (case hn => rfl); (case hr => first | (go_simp; done) | (go_simp; rfl)); intro w49 hw; have hg : wr.grownBy w49 (some go46) := (by rw [hw]; exact HP48.2); have hp_ : Kd.R k33 33 w49 w.heap.size (fun k_ => some k_ ≠ (v154 : Value).ownBlock) (.slice (some ⟨go46, 0, none⟩) x8_3.length co47) y175 := (by rw [hw, Ny175.out]; exact HP48.1); clear HP48; have n0_ := Aside0.mk (Kd.R_after (v := (.slice (some ⟨go46, 0, none⟩) x8_3.length co47)) (v1 := (.slice (some ⟨go46, 0, none⟩) x8_3.length co47)) (ok := (fun _ => True)) (by (with_reducible repeat (first | apply Kd.R_alloc | apply Kd.R_drewN | apply Kd.R_drew)); exact Kd.R_mono HO_7.out (fun _ hk => ⟨trivial, hk⟩)) hg (.inl rfl)); have n1_ := Aside0.mk (hp_); have n2_ := Aside0.mk ((by rw [hw]; exact below_set (HB.out) GB46.out : Below w.heap.size w w49)); clear HO_7; clear HO_8; clear HB; have HO_7 := n0_; have HO_8 := n1_; have HB := n2_; clear n0_ n1_ n2_; clear hg hw hp_))
             go_roundg k3
             case measure => have := HJ10.out; have := HK2.out; have := HK3.out; omega
             case rel => exact ⟨(y175), (wrap64 (x17_3 + 1)), (by first | rfl | (simp; done) | (simp [*]; done)), H', ⟨by have := HJ10.out; have := HK2.out; have := HK3.out; omega⟩, ⟨by (with_reducible repeat (first | apply Kd.R_alloc | apply Kd.R_drewN | apply Kd.R_drew)); exact Kd.R_mono HO_7.out (fun _ hk => hk.2)⟩, ⟨by (with_reducible repeat (first | apply Kd.R_alloc | apply Kd.R_drewN | apply Kd.R_drew)); exact HO_8.out⟩, ⟨by repeat (first | (with_reducible first | exact HB.out | apply below_alloc | apply pw_below_drewN | apply below_drew1) | exact HB.out)⟩⟩
            ·as_aux_lemma =>
             rw [if_neg c45] at H
             exact absurd H (by simp)
           ·as_aux_lemma =>
            rw [if_neg c44] at H
            have c44b0 : decide (x17_3 < (x8_3.length : Int)) = false := decide_eq_false c44
            clear c44
            replace H := Option.bind_eq_some_iff.mp H
            obtain ⟨t176, A500, H⟩ := H
            replace H : (some t176) = some true := H
            have A50 := Aside0.mk A500
            clear A500
            have hend := Aside0.mk (Option.some.inj H)
            clear H
            obtain ⟨Ao51, co51, eo51⟩ := Kd.R_slice HO_8.out
            subst eo51
            obtain ⟨Ao52, co52, eo52⟩ := Kd.R_slice HO_7.out
            subst eo52
            go_wp2_with (first | ((with_reducible refine gate_callee (f := 15) rfl ?_); refine goesL_ (some 89) rfl rfl Try.func15 (by kernel_rfl) rfl #[.slice A0 l0.length c0, .slice Ao52 y153.length co52] rfl (by (try simp only [List.map_toArray, List.map_cons, List.map_nil]); first | done | rfl | (simp only [List.length_drop, List.length_take]; rfl)) ?_; (with_reducible refine (fringeref41_Same.calls k3 _ _ l0 _ _ y153 t176 _ ?side1 ?side2 ?side3 ?side4 A50.out).mono ?_); (case side1 => repeat (first | exact (Kd.C_below HR0.out HB.out) | (with_reducible refine Kd.C_alloc ?_ _) | (with_reducible refine Kd.C_drewN ?_ _) | (with_reducible refine Kd.C_drew ?_))); (case side2 => exact HC0.out); (case side3 => repeat (first | exact (Kd.R_reads' HO_7.out).2.2 | (with_reducible refine Kd.C_alloc ?_ _) | (with_reducible refine Kd.C_drewN ?_ _) | (with_reducible refine Kd.C_drew ?_))); (case side4 => exact (Kd.R_reads' HO_7.out).2.1); rintro e w' ⟨rfl, ⟨nd, rfl⟩⟩; refine ⟨_, rfl, ?_⟩))
            go_ret
            exact ⟨by first | rfl | (rw [hend.out]; done) | (simp only [hend.out]; done) | (simp [*]; first | exact hend.out | exact eq_of_beq hend.out | exact of_decide_eq_true hend.out) | (have h_ := hend.out; simp_all; done) | (simp [*, errW_none, errW_some] <;> rfl), by repeat (first | (with_reducible first | exact HB.out | apply below_alloc | apply pw_below_drewN | apply below_drew1) | exact HB.out)⟩
  ·as_aux_lemma =>
   rw [if_neg c6] at H
   exact absurd H (by simp)

end Go.Proofs.Ytihmhcdcbcleeaa.Q
