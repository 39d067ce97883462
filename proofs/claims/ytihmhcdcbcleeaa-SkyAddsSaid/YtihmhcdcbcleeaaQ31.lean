-- Written by qprint.py (a program of this session) over the program of the kit that prints contracts. Not trusted: Lean checks it.
import Derived.Test.YtihmhcdcbcleeaaQ0
import Derived.Test.YtihmhcdcbcleeaaQ2
import Derived.Test.YtihmhcdcbcleeaaQ6
import Derived.Test.YtihmhcdcbcleeaaQ10
import Derived.Test.YtihmhcdcbcleeaaQ13
import Derived.Test.YtihmhcdcbcleeaaQ16
import Derived.Test.YtihmhcdcbcleeaaQ18
import Derived.Test.YtihmhcdcbcleeaaQ19
import Derived.Test.YtihmhcdcbcleeaaQ30
namespace Go.Proofs.Ytihmhcdcbcleeaa.Q
open Go.RowKit Go.Proofs.YtihmhcdcbcleeaaW.PrintWords Go.Proofs.YtihmhcdcbcleeaaW.PrintLast Go.Proofs.YtihmhcdcbcleeaaW.PrintMore
attribute [local go_sem] max2_int min2_int max_two min_two max_three min_three max_four min_four   -- for this text's walks alone
set_option linter.unusedVariables false
set_option linter.unusedSimpArgs false

attribute [local go_sem high] eqA45
/-! ### fringelaw41_SkyAdds: function 8 -/
mutual
def fringelaw41_SkyAdds.j0 : Nat → List (S41) → List (S33) → List (S33) → Bool → Bool → Option (Bool)
 | 0, _, _, _, _, _ => none
 | k + 1, x0, x1, x2, x7, x46 => if x46 = true then (some x7) else ((sky_See.f k x0 x1).bind fun bt689 => ((sky_See.f k x0 x2).bind fun bt693 => ((some (([] : List (S33)) : List (S33))).bind fun y697 => (if y697.length + x1.length < 5864062014805 then ((some (y697 ++ x1 : List (S33))).bind fun y700 => (if y700.length + x2.length < 5864062014805 then ((some (y700 ++ x2 : List (S33))).bind fun y703 => ((sky_See.f k x0 y703).bind fun bt706 => (if bt689.2 = 0 then (if bt693.2 = 0 then (if bt706.2 = 0 then (if (bt689.1.length : Int) = (wrap64 (Int.tdiv (wrap64 ((x0.length : Int) * (wrap64 ((x0.length : Int) - 1)))) 2)) then (if (bt693.1.length : Int) = (bt689.1.length : Int) then (fringelaw41_SkyAdds.j1 k x0 x7 bt689.1 bt693.1 y703 bt706.1 ((bt706.1.length : Int) != (bt689.1.length : Int))) else (fringelaw41_SkyAdds.j1 k x0 x7 bt689.1 bt693.1 y703 bt706.1 true)) else (fringelaw41_SkyAdds.j1 k x0 x7 bt689.1 bt693.1 y703 bt706.1 true)) else (fringelaw41_SkyAdds.j1 k x0 x7 bt689.1 bt693.1 y703 bt706.1 true)) else (fringelaw41_SkyAdds.j1 k x0 x7 bt689.1 bt693.1 y703 bt706.1 true)) else (fringelaw41_SkyAdds.j1 k x0 x7 bt689.1 bt693.1 y703 bt706.1 true)))) else (none))) else (none)))))
def fringelaw41_SkyAdds.j1 : Nat → List (S41) → Bool → List (S47) → List (S47) → List (S33) → List (S47) → Bool → Option (Bool)
 | 0, _, _, _, _, _, _, _ => none
 | k + 1, x0, x7, x8, x10, x12, x13, x106 => if x106 = true then (some false) else (fringelaw41_SkyAdds.l0 k x0 x7 x8 x10 x12 x13 0)
def fringelaw41_SkyAdds.l0 : Nat → List (S41) → Bool → List (S47) → List (S47) → List (S33) → List (S47) → Int → Option (Bool)
 | 0, _, _, _, _, _, _, _ => none
 | k + 1, x0, x7, x8, x10, x12, x13, x15 => if x15 < (x8.length : Int) then (if 0 ≤ x15 then (if x15 < (x10.length : Int) then ((cx_Add.f k ((rd_T47 x8 x15).f2.f0) ((rd_T47 x8 x15).f2.f1) ((rd_T47 x8 x15).f2.f2) ((rd_T47 x10 x15).f2.f0) ((rd_T47 x10 x15).f2.f1) ((rd_T47 x10 x15).f2.f2)).bind fun bt712 => (if bt712.2.2.2 = 0 then (if x15 < (x13.length : Int) then (if (!(bt712.1 == ((rd_T47 x13 x15).f2.f0)) || (!(bt712.2.1 == ((rd_T47 x13 x15).f2.f1)) || (!(bt712.2.2.1 == ((rd_T47 x13 x15).f2.f2))))) = true then (some false) else (if ((rd_T47 x8 x15).f0) = ((rd_T47 x10 x15).f0) then (if ((rd_T47 x8 x15).f0) = ((rd_T47 x13 x15).f0) then (if ((rd_T47 x8 x15).f1) = ((rd_T47 x10 x15).f1) then (if ((rd_T47 x8 x15).f1) = ((rd_T47 x13 x15).f1) then (if ((rd_T47 x8 x15).f0) ≥ ((rd_T47 x8 x15).f1) then (some false) else (if ((rd_T47 x8 x15).f3) = 1 then (fringelaw41_SkyAdds.l0 k x0 x7 x8 x10 x12 x13 (wrap64 (x15 + 1))) else (some false))) else (some false)) else (some false)) else (some false)) else (some false))) else (none)) else (some false))) else (none)) else (none)) else ((sky_Merge.f k x12).bind fun bt729 => (if bt729.2 = 0 then ((sky_See.f k x0 bt729.1).bind fun bt733 => ((sky_Merge.f k bt729.1).bind fun bt737 => (if x7 = true then (if bt733.2 = 0 then ((fringeref41_SameVis.f k x13 bt733.1).bind fun t741 => (if t741 = true then (if bt737.2 = 0 then ((fringeref41_Same.f k bt737.1 bt729.1).bind fun t742 => (some t742)) else (some false)) else (some false))) else (some false)) else (some false)))) else (if x7 = true then (some (bt729.2 == 16)) else (some false))))
end
def fringelaw41_SkyAdds.f (k : Nat) (l0 : List (S41)) (l1 : List (S33)) (l2 : List (S33)) : Option (Bool) := (fringelaw41_alive.f k).bind fun t686 => ((fringelaw41_valid.f k l0 l1).bind fun t687 => (if t687 = true then ((fringelaw41_valid.f k l0 l2).bind fun t688 => (if t688 = true then (if (wrap64 ((l1.length : Int) + (l2.length : Int))) > 16 then (fringelaw41_SkyAdds.j0 k l0 l1 l2 t686 true) else (fringelaw41_SkyAdds.j0 k l0 l1 l2 t686 (!t686))) else (fringelaw41_SkyAdds.j0 k l0 l1 l2 t686 true))) else (fringelaw41_SkyAdds.j0 k l0 l1 l2 t686 true)))
theorem fringelaw41_SkyAdds.mono_l : ∀ k, (∀ y0 y1 y2 y3 y4, LeO (fringelaw41_SkyAdds.j0 k y0 y1 y2 y3 y4) (fringelaw41_SkyAdds.j0 (k + 1) y0 y1 y2 y3 y4)) ∧ (∀ y0 y1 y2 y3 y4 y5 y6, LeO (fringelaw41_SkyAdds.j1 k y0 y1 y2 y3 y4 y5 y6) (fringelaw41_SkyAdds.j1 (k + 1) y0 y1 y2 y3 y4 y5 y6)) ∧ (∀ y0 y1 y2 y3 y4 y5 y6, LeO (fringelaw41_SkyAdds.l0 k y0 y1 y2 y3 y4 y5 y6) (fringelaw41_SkyAdds.l0 (k + 1) y0 y1 y2 y3 y4 y5 y6))
 | 0 => ⟨fun _ _ _ _ _ r h => by simp [fringelaw41_SkyAdds.j0] at h, fun _ _ _ _ _ _ _ r h => by simp [fringelaw41_SkyAdds.j1] at h, fun _ _ _ _ _ _ _ r h => by simp [fringelaw41_SkyAdds.l0] at h⟩
 | k + 1 => by
  obtain ⟨ih0, ih1, ih2⟩ := fringelaw41_SkyAdds.mono_l k
  refine ⟨?_, ?_, ?_⟩
  ·intro y0 y1 y2 y3 y4
   unfold fringelaw41_SkyAdds.j0
   repeat' first
   | (with_reducible exact ih0 _ _ _ _ _)
   | (with_reducible exact ih1 _ _ _ _ _ _ _)
   | (with_reducible exact ih2 _ _ _ _ _ _ _)
   | (with_reducible exact cx_Add.mono _ _ _ _ _ _ _)
   | (with_reducible exact fringelaw41_alive.mono _)
   | (with_reducible exact fringelaw41_valid.mono _ _ _)
   | (with_reducible exact fringeref41_Same.mono _ _ _)
   | (with_reducible exact fringeref41_SameVis.mono _ _ _)
   | (with_reducible exact sky_Merge.mono _ _)
   | (with_reducible exact sky_See.mono _ _ _)
   | (with_reducible exact LeO.refl _)
   | (with_reducible exact LeO.none _)
   | (with_reducible refine LeO.ite ?_ ?_)
   | (with_reducible refine LeO.bind ?_ (fun _ => ?_))
   | exact ih0 _ _ _ _ _
   | exact ih1 _ _ _ _ _ _ _
   | exact ih2 _ _ _ _ _ _ _
   | exact cx_Add.mono _ _ _ _ _ _ _
   | exact fringelaw41_alive.mono _
   | exact fringelaw41_valid.mono _ _ _
   | exact fringeref41_Same.mono _ _ _
   | exact fringeref41_SameVis.mono _ _ _
   | exact sky_Merge.mono _ _
   | exact sky_See.mono _ _ _
   | exact LeO.none _
   | refine LeO.ite ?_ ?_
   | refine LeO.bind ?_ (fun _ => ?_)
  ·intro y0 y1 y2 y3 y4 y5 y6
   unfold fringelaw41_SkyAdds.j1
   repeat' first
   | (with_reducible exact ih0 _ _ _ _ _)
   | (with_reducible exact ih1 _ _ _ _ _ _ _)
   | (with_reducible exact ih2 _ _ _ _ _ _ _)
   | (with_reducible exact cx_Add.mono _ _ _ _ _ _ _)
   | (with_reducible exact fringelaw41_alive.mono _)
   | (with_reducible exact fringelaw41_valid.mono _ _ _)
   | (with_reducible exact fringeref41_Same.mono _ _ _)
   | (with_reducible exact fringeref41_SameVis.mono _ _ _)
   | (with_reducible exact sky_Merge.mono _ _)
   | (with_reducible exact sky_See.mono _ _ _)
   | (with_reducible exact LeO.refl _)
   | (with_reducible exact LeO.none _)
   | (with_reducible refine LeO.ite ?_ ?_)
   | (with_reducible refine LeO.bind ?_ (fun _ => ?_))
   | exact ih0 _ _ _ _ _
   | exact ih1 _ _ _ _ _ _ _
   | exact ih2 _ _ _ _ _ _ _
   | exact cx_Add.mono _ _ _ _ _ _ _
   | exact fringelaw41_alive.mono _
   | exact fringelaw41_valid.mono _ _ _
   | exact fringeref41_Same.mono _ _ _
   | exact fringeref41_SameVis.mono _ _ _
   | exact sky_Merge.mono _ _
   | exact sky_See.mono _ _ _
   | exact LeO.none _
   | refine LeO.ite ?_ ?_
   | refine LeO.bind ?_ (fun _ => ?_)
  ·intro y0 y1 y2 y3 y4 y5 y6
   unfold fringelaw41_SkyAdds.l0
   repeat' first
   | (with_reducible exact ih0 _ _ _ _ _)
   | (with_reducible exact ih1 _ _ _ _ _ _ _)
   | (with_reducible exact ih2 _ _ _ _ _ _ _)
   | (with_reducible exact cx_Add.mono _ _ _ _ _ _ _)
   | (with_reducible exact fringelaw41_alive.mono _)
   | (with_reducible exact fringelaw41_valid.mono _ _ _)
   | (with_reducible exact fringeref41_Same.mono _ _ _)
   | (with_reducible exact fringeref41_SameVis.mono _ _ _)
   | (with_reducible exact sky_Merge.mono _ _)
   | (with_reducible exact sky_See.mono _ _ _)
   | (with_reducible exact LeO.refl _)
   | (with_reducible exact LeO.none _)
   | (with_reducible refine LeO.ite ?_ ?_)
   | (with_reducible refine LeO.bind ?_ (fun _ => ?_))
   | exact ih0 _ _ _ _ _
   | exact ih1 _ _ _ _ _ _ _
   | exact ih2 _ _ _ _ _ _ _
   | exact cx_Add.mono _ _ _ _ _ _ _
   | exact fringelaw41_alive.mono _
   | exact fringelaw41_valid.mono _ _ _
   | exact fringeref41_Same.mono _ _ _
   | exact fringeref41_SameVis.mono _ _ _
   | exact sky_Merge.mono _ _
   | exact sky_See.mono _ _ _
   | exact LeO.none _
   | refine LeO.ite ?_ ?_
   | refine LeO.bind ?_ (fun _ => ?_)
theorem fringelaw41_SkyAdds.mono : ∀ a0 a1 a2 k, LeO (fringelaw41_SkyAdds.f k a0 a1 a2) (fringelaw41_SkyAdds.f (k + 1) a0 a1 a2) := by
 intro a0 a1 a2 k
 obtain ⟨ih0, ih1, ih2⟩ := fringelaw41_SkyAdds.mono_l k
 unfold fringelaw41_SkyAdds.f
 repeat' first
   | (with_reducible exact ih0 _ _ _ _ _)
   | (with_reducible exact ih1 _ _ _ _ _ _ _)
   | (with_reducible exact ih2 _ _ _ _ _ _ _)
   | (with_reducible exact cx_Add.mono _ _ _ _ _ _ _)
   | (with_reducible exact fringelaw41_alive.mono _)
   | (with_reducible exact fringelaw41_valid.mono _ _ _)
   | (with_reducible exact fringeref41_Same.mono _ _ _)
   | (with_reducible exact fringeref41_SameVis.mono _ _ _)
   | (with_reducible exact sky_Merge.mono _ _)
   | (with_reducible exact sky_See.mono _ _ _)
   | (with_reducible exact LeO.refl _)
   | (with_reducible exact LeO.none _)
   | (with_reducible refine LeO.ite ?_ ?_)
   | (with_reducible refine LeO.bind ?_ (fun _ => ?_))
   | exact ih0 _ _ _ _ _
   | exact ih1 _ _ _ _ _ _ _
   | exact ih2 _ _ _ _ _ _ _
   | exact cx_Add.mono _ _ _ _ _ _ _
   | exact fringelaw41_alive.mono _
   | exact fringelaw41_valid.mono _ _ _
   | exact fringeref41_Same.mono _ _ _
   | exact fringeref41_SameVis.mono _ _ _
   | exact sky_Merge.mono _ _
   | exact sky_See.mono _ _ _
   | exact LeO.none _
   | refine LeO.ite ?_ ?_
   | refine LeO.bind ?_ (fun _ => ?_)
def fringelaw41_SkyAdds.T13 : Bool × List (List Nat × List Nat) := (true, [([], []), ([], []), ([0, 1], [0, 1]), ([2], [2]), ([3], [3]), ([], []), ([], []), ([5, 6], [5, 6]), ([7], [7]), ([8], [8]), ([4, 9], [4, 9]), ([10], [10]), ([11], [11]), ([11], [11]), ([], []), ([14, 12, 10, 0, 1, 2, 3, 4, 5, 6, 7, 8, 9, 10, 11, 12, 14], [12, 14]), ([13, 15, 0, 1, 2, 3, 4, 5, 6, 7, 8, 9, 10, 11, 12, 13, 14, 15], [13])])
def fringelaw41_SkyAdds.B13 : List Nat := [0, 0, 3, 7, 15, 0, 0, 96, 224, 480, 1023, 2047, 4095, 4095, 0, 24575, 65535]
theorem fringelaw41_SkyAdds.tab13 : rtab .any (opsOf Try.f8 13) = fringelaw41_SkyAdds.T13 := by kernel_rfl
theorem fringelaw41_SkyAdds.bits13 : waitsOk fringelaw41_SkyAdds.T13.2 fringelaw41_SkyAdds.B13 = true := by kernel_rfl
def fringelaw41_SkyAdds.T14 : Bool × List (List Nat × List Nat) := (true, [([], []), ([0], [0]), ([1], [1]), ([2], [2]), ([2], [2]), ([2], [2]), ([4, 5, 2], [2, 4, 5]), ([6, 2], [2, 6]), ([7, 2], [2, 7]), ([3, 8, 2], [2, 3, 8]), ([2, 9], [2, 9]), ([10, 2], [10]), ([11], [11]), ([11], [11]), ([12, 13, 11], [11, 12, 13]), ([14, 11], [11, 14]), ([15, 11], [11, 15]), ([11], [11]), ([11], [11]), ([17, 18, 11], [11, 17, 18]), ([19, 11], [11, 19]), ([20, 11], [11, 20]), ([16, 21, 11], [11, 16, 21]), ([11, 22], [11, 22]), ([23, 11], [23]), ([24], [24]), ([24], [24]), ([25, 26, 24], [24, 25, 26]), ([27, 24], [24, 27]), ([28, 24], [24, 28]), ([24], [24]), ([24], [24]), ([30, 31, 24], [24, 30, 31]), ([32, 24], [24, 32]), ([33, 24], [24, 33]), ([29, 34, 24], [24, 29, 34]), ([24, 35], [24, 35]), ([36, 24], [36]), ([37], [37]), ([37], [37]), ([38, 39, 37], [37, 38, 39]), ([40, 37], [37, 40]), ([41, 37], [37, 41]), ([37], [37]), ([37], [37]), ([43, 44, 37], [37, 43, 44]), ([45, 37], [37, 45]), ([46, 37], [37, 46]), ([42, 47, 37], [37, 42, 47]), ([37, 48], [37, 48]), ([49, 37], [49]), ([50], [50]), ([50], [50]), ([51, 52, 50], [50, 51, 52]), ([53, 50], [50, 53]), ([54, 50], [50, 54]), ([50], [50]), ([50], [50]), ([56, 57, 50], [50, 56, 57]), ([58, 50], [50, 58]), ([59, 50], [50, 59]), ([55, 60, 50], [50, 55, 60]), ([50, 61], [50, 61]), ([62, 50], [62]), ([63], [63]), ([63], [63]), ([64, 65, 63], [63, 64, 65]), ([66, 63], [63, 66]), ([67, 63], [63, 67]), ([63], [63]), ([63], [63]), ([69, 70, 63], [63, 69, 70]), ([71, 63], [63, 71]), ([72, 63], [63, 72]), ([68, 73, 63], [63, 68, 73]), ([63, 74], [63, 74]), ([75, 63], [75]), ([76], [76]), ([76], [76]), ([77, 78, 76], [76, 77, 78]), ([79, 76], [76, 79]), ([80, 76], [76, 80]), ([81, 76], [76, 81]), ([76, 82], [76, 82])])
def fringelaw41_SkyAdds.B14 : List Nat := [0, 1, 3, 7, 7, 7, 55, 119, 247, 511, 1023, 2047, 4095, 4095, 16383, 32767, 65535, 4095, 4095, 397311, 921599, 1970175, 4194303, 8388607, 16777215, 33554431, 33554431, 134217727, 268435455, 536870911, 33554431, 33554431, 3254779903, 7549747199, 16139681791, 34359738367, 68719476735, 137438953471, 274877906943, 274877906943, 1099511627775, 2199023255551, 4398046511103, 274877906943, 274877906943, 26663156973567, 61847529062399, 132216273240063, 281474976710655, 562949953421311, 1125899906842623, 2251799813685247, 2251799813685247, 9007199254740991, 18014398509481983, 36028797018963967, 2251799813685247, 2251799813685247, 218424581927469055, 506654958079180799, 1083115710382604287, 2305843009213693951, 4611686018427387903, 9223372036854775807, 18446744073709551615, 18446744073709551615, 73786976294838206463, 147573952589676412927, 295147905179352825855, 18446744073709551615, 18446744073709551615, 1789334175149826506751, 4150517416584649113599, 8872883899454294327295, 18889465931478580854783, 37778931862957161709567, 75557863725914323419135, 151115727451828646838271, 151115727451828646838271, 604462909807314587353087, 1208925819614629174706175, 2417851639229258349412351, 4835703278458516698824703, 9671406556917033397649407]
theorem fringelaw41_SkyAdds.tab14 : rtab .any (opsOf Try.f8 14) = fringelaw41_SkyAdds.T14 := by kernel_rfl
theorem fringelaw41_SkyAdds.bits14 : waitsOk fringelaw41_SkyAdds.T14.2 fringelaw41_SkyAdds.B14 = true := by kernel_rfl
set_option maxHeartbeats 8000000 in
set_option maxRecDepth 100000 in
theorem fringelaw41_SkyAdds.calls (k : Nat) (A0 : Option Addr) (c0 : Nat) (l0 : List (S41)) (A1 : Option Addr) (c1 : Nat) (l1 : List (S33)) (A2 : Option Addr) (c2 : Nat) (l2 : List (S33)) (w : World) (hr0 : Kd.C k41 w A0 l0.length l0) (hc0 : l0.length ≤ c0) (hr1 : Kd.C k33 w A1 l1.length l1) (hc1 : l1.length ≤ c1) (hr2 : Kd.C k33 w A2 l2.length l2) (hc2 : l2.length ≤ c2) (h : fringelaw41_SkyAdds.f k l0 l1 l2 = some true) :
  Calls Try.prog 8 #[.slice A0 l0.length c0, .slice A1 l1.length c1, .slice A2 l2.length c2] w fun e w' => e = .returned (.bool true) ∧ Below w.heap.size w w' := by
 have hu45 := Try.underlying45
 have HR0 := Aside0.mk hr0
 have HC0 := Aside0.mk hc0
 clear hr0 hc0
 have HR1 := Aside0.mk hr1
 have HC1 := Aside0.mk hc1
 clear hr1 hc1
 have HR2 := Aside0.mk hr2
 have HC2 := Aside0.mk hc2
 clear hr2 hc2
 have HB := Aside0.mk (Below.refl w.heap.size w)
 have H : ((fringelaw41_alive.f k).bind fun t686 => ((fringelaw41_valid.f k l0 l1).bind fun t687 => (if t687 = true then ((fringelaw41_valid.f k l0 l2).bind fun t688 => (if t688 = true then (if (wrap64 ((l1.length : Int) + (l2.length : Int))) > 16 then (fringelaw41_SkyAdds.j0 k l0 l1 l2 t686 true) else (fringelaw41_SkyAdds.j0 k l0 l1 l2 t686 (!t686))) else (fringelaw41_SkyAdds.j0 k l0 l1 l2 t686 true))) else (fringelaw41_SkyAdds.j0 k l0 l1 l2 t686 true)))) = some true := h
 clear h
 replace H := Option.bind_eq_some_iff.mp H
 obtain ⟨t686, A40, H⟩ := H
 (try dsimp only at H)
 have A4 := Aside0.mk A40
 clear A40
 have HC5 := Aside0.mk H
 clear H
 go_enter Try.func8, Try.ntmps8
 go_upto_region 2 with (first | ((with_reducible refine gate_callee (f := 16) rfl ?_); refine goesL_ (some 24) rfl rfl Try.func16 (by kernel_rfl) rfl #[] rfl (by (try simp only [List.map_toArray, List.map_cons, List.map_nil]); first | done | rfl | (simp only [List.length_drop, List.length_take]; rfl)) ?_; (with_reducible refine (fringelaw41_alive.calls k  t686 _ A4.out).mono ?_); rintro e w6 ⟨rfl, hb⟩; refine ⟨_, rfl, ?_⟩; have n0_ := Aside0.mk (below_step (by repeat (first | (with_reducible first | exact HB.out | apply below_alloc | apply pw_below_drewN | apply below_drew1) | exact HB.out)) hb); clear HB; have HB := n0_; clear n0_; (try clear hb); (try clear hb2); (try clear hk); (try clear hi)))
 (try simp only [Act.put, List.setIfInBounds_toArray, List.set_cons_zero, List.set_cons_succ])
 go_cut [46] (fun v46 wc => ∃ (kq : Nat) (x46_4 : Bool), v46 = .bool x46_4 ∧ Aside0 (fringelaw41_SkyAdds.j0 kq l0 l1 l2 t686 x46_4 = some true) ∧ Aside0 (kq ≤ k) ∧ Aside0 (Below w.heap.size w wc))
 case first =>
  as_aux_lemma =>
  have H := HC5.out
  clear HC5
  replace H := Option.bind_eq_some_iff.mp H
  obtain ⟨t687, A70, H⟩ := H
  (try dsimp only at H)
  have A7 := Aside0.mk A70
  clear A70
  by_cases c8 : t687 = true
  ·as_aux_lemma =>
   subst c8
   rw [if_pos rfl] at H
   replace H := Option.bind_eq_some_iff.mp H
   obtain ⟨t688, A90, H⟩ := H
   (try dsimp only at H)
   have A9 := Aside0.mk A90
   clear A90
   by_cases c10 : t688 = true
   ·as_aux_lemma =>
    subst c10
    rw [if_pos rfl] at H
    by_cases c11 : (wrap64 ((l1.length : Int) + (l2.length : Int))) > 16
    ·as_aux_lemma =>
     rw [if_pos c11] at H
     have c11b0 : decide (16 < (wrap64 ((l1.length : Int) + (l2.length : Int)))) = true := decide_eq_true c11
     clear c11
     (first | rw [c11b0] | (simp only [i64_w, i32_w]; rw [c11b0]) | skip)
     have H' := Aside0.mk H
     clear H
     go_wp2_with (first | ((with_reducible refine gate_callee (f := 17) rfl ?_); refine goesL_ (some 27) rfl rfl Try.func17 (by kernel_rfl) rfl #[.slice A0 l0.length c0, .slice A1 l1.length c1] rfl (by (try simp only [List.map_toArray, List.map_cons, List.map_nil]); first | done | rfl | (simp only [List.length_drop, List.length_take]; rfl)) ?_; (with_reducible refine (fringelaw41_valid.calls k _ _ l0 _ _ l1 true _ ?side1 ?side2 ?side3 ?side4 A7.out).mono ?_); (case side1 => repeat (first | exact (Kd.C_below HR0.out HB.out) | (with_reducible refine Kd.C_alloc ?_ _) | (with_reducible refine Kd.C_drewN ?_ _) | (with_reducible refine Kd.C_drew ?_))); (case side2 => exact HC0.out); (case side3 => repeat (first | exact (Kd.C_below HR1.out HB.out) | (with_reducible refine Kd.C_alloc ?_ _) | (with_reducible refine Kd.C_drewN ?_ _) | (with_reducible refine Kd.C_drew ?_))); (case side4 => exact HC1.out); rintro e w' ⟨rfl, ⟨nd, rfl⟩⟩; refine ⟨_, rfl, ?_⟩) | (go_at_call 17; (with_reducible refine (fringelaw41_valid.calls k _ _ l0 _ _ l2 true _ ?side1 ?side2 ?side3 ?side4 A9.out).mono ?_); (case side1 => repeat (first | exact (Kd.C_below HR0.out (by repeat (first | (with_reducible first | exact HB.out | apply below_alloc | apply pw_below_drewN | apply below_drew1) | exact HB.out))) | (with_reducible refine Kd.C_alloc ?_ _) | (with_reducible refine Kd.C_drewN ?_ _) | (with_reducible refine Kd.C_drew ?_))); (case side2 => exact HC0.out); (case side3 => repeat (first | exact (Kd.C_below HR2.out (by repeat (first | (with_reducible first | exact HB.out | apply below_alloc | apply pw_below_drewN | apply below_drew1) | exact HB.out))) | (with_reducible refine Kd.C_alloc ?_ _) | (with_reducible refine Kd.C_drewN ?_ _) | (with_reducible refine Kd.C_drew ?_))); (case side4 => exact HC2.out); rintro e w' ⟨rfl, ⟨nd, rfl⟩⟩))
     go_meet
     case rel => exact ⟨_, (true), (by first | rfl | (simp; done) | (simp [*]; done)), H', ⟨by first | omega | exact Nat.le_refl _⟩, ⟨by repeat (first | (with_reducible first | exact HB.out | apply below_alloc | apply pw_below_drewN | apply below_drew1) | exact HB.out)⟩⟩
    ·as_aux_lemma =>
     rw [if_neg c11] at H
     have c11b0 : decide (16 < (wrap64 ((l1.length : Int) + (l2.length : Int)))) = false := decide_eq_false c11
     clear c11
     (first | rw [c11b0] | (simp only [i64_w, i32_w]; rw [c11b0]) | skip)
     have H' := Aside0.mk H
     clear H
     go_wp2_with (first | ((with_reducible refine gate_callee (f := 17) rfl ?_); refine goesL_ (some 27) rfl rfl Try.func17 (by kernel_rfl) rfl #[.slice A0 l0.length c0, .slice A1 l1.length c1] rfl (by (try simp only [List.map_toArray, List.map_cons, List.map_nil]); first | done | rfl | (simp only [List.length_drop, List.length_take]; rfl)) ?_; (with_reducible refine (fringelaw41_valid.calls k _ _ l0 _ _ l1 true _ ?side1 ?side2 ?side3 ?side4 A7.out).mono ?_); (case side1 => repeat (first | exact (Kd.C_below HR0.out HB.out) | (with_reducible refine Kd.C_alloc ?_ _) | (with_reducible refine Kd.C_drewN ?_ _) | (with_reducible refine Kd.C_drew ?_))); (case side2 => exact HC0.out); (case side3 => repeat (first | exact (Kd.C_below HR1.out HB.out) | (with_reducible refine Kd.C_alloc ?_ _) | (with_reducible refine Kd.C_drewN ?_ _) | (with_reducible refine Kd.C_drew ?_))); (case side4 => exact HC1.out); rintro e w' ⟨rfl, ⟨nd, rfl⟩⟩; refine ⟨_, rfl, ?_⟩) | (go_at_call 17; (with_reducible refine (fringelaw41_valid.calls k _ _ l0 _ _ l2 true _ ?side1 ?side2 ?side3 ?side4 A9.out).mono ?_); (case side1 => repeat (first | exact (Kd.C_below HR0.out (by repeat (first | (with_reducible first | exact HB.out | apply below_alloc | apply pw_below_drewN | apply below_drew1) | exact HB.out))) | (with_reducible refine Kd.C_alloc ?_ _) | (with_reducible refine Kd.C_drewN ?_ _) | (with_reducible refine Kd.C_drew ?_))); (case side2 => exact HC0.out); (case side3 => repeat (first | exact (Kd.C_below HR2.out (by repeat (first | (with_reducible first | exact HB.out | apply below_alloc | apply pw_below_drewN | apply below_drew1) | exact HB.out))) | (with_reducible refine Kd.C_alloc ?_ _) | (with_reducible refine Kd.C_drewN ?_ _) | (with_reducible refine Kd.C_drew ?_))); (case side4 => exact HC2.out); rintro e w' ⟨rfl, ⟨nd, rfl⟩⟩))
     go_meet
     case rel => exact ⟨_, (!t686), (by first | rfl | (simp; done) | (simp [*]; done)), H', ⟨by first | omega | exact Nat.le_refl _⟩, ⟨by repeat (first | (with_reducible first | exact HB.out | apply below_alloc | apply pw_below_drewN | apply below_drew1) | exact HB.out)⟩⟩
   ·as_aux_lemma =>
    replace c10 := Bool.eq_false_iff.mpr c10
    subst c10
    rw [if_neg (show ¬ (false = true) by decide)] at H
    have H' := Aside0.mk H
    clear H
    go_wp2_with (first | ((with_reducible refine gate_callee (f := 17) rfl ?_); refine goesL_ (some 27) rfl rfl Try.func17 (by kernel_rfl) rfl #[.slice A0 l0.length c0, .slice A1 l1.length c1] rfl (by (try simp only [List.map_toArray, List.map_cons, List.map_nil]); first | done | rfl | (simp only [List.length_drop, List.length_take]; rfl)) ?_; (with_reducible refine (fringelaw41_valid.calls k _ _ l0 _ _ l1 true _ ?side1 ?side2 ?side3 ?side4 A7.out).mono ?_); (case side1 => repeat (first | exact (Kd.C_below HR0.out HB.out) | (with_reducible refine Kd.C_alloc ?_ _) | (with_reducible refine Kd.C_drewN ?_ _) | (with_reducible refine Kd.C_drew ?_))); (case side2 => exact HC0.out); (case side3 => repeat (first | exact (Kd.C_below HR1.out HB.out) | (with_reducible refine Kd.C_alloc ?_ _) | (with_reducible refine Kd.C_drewN ?_ _) | (with_reducible refine Kd.C_drew ?_))); (case side4 => exact HC1.out); rintro e w' ⟨rfl, ⟨nd, rfl⟩⟩; refine ⟨_, rfl, ?_⟩) | (go_at_call 17; (with_reducible refine (fringelaw41_valid.calls k _ _ l0 _ _ l2 false _ ?side1 ?side2 ?side3 ?side4 A9.out).mono ?_); (case side1 => repeat (first | exact (Kd.C_below HR0.out (by repeat (first | (with_reducible first | exact HB.out | apply below_alloc | apply pw_below_drewN | apply below_drew1) | exact HB.out))) | (with_reducible refine Kd.C_alloc ?_ _) | (with_reducible refine Kd.C_drewN ?_ _) | (with_reducible refine Kd.C_drew ?_))); (case side2 => exact HC0.out); (case side3 => repeat (first | exact (Kd.C_below HR2.out (by repeat (first | (with_reducible first | exact HB.out | apply below_alloc | apply pw_below_drewN | apply below_drew1) | exact HB.out))) | (with_reducible refine Kd.C_alloc ?_ _) | (with_reducible refine Kd.C_drewN ?_ _) | (with_reducible refine Kd.C_drew ?_))); (case side4 => exact HC2.out); rintro e w' ⟨rfl, ⟨nd, rfl⟩⟩))
    go_meet
    case rel => exact ⟨_, (true), (by first | rfl | (simp; done) | (simp [*]; done)), H', ⟨by first | omega | exact Nat.le_refl _⟩, ⟨by repeat (first | (with_reducible first | exact HB.out | apply below_alloc | apply pw_below_drewN | apply below_drew1) | exact HB.out)⟩⟩
  ·as_aux_lemma =>
   replace c8 := Bool.eq_false_iff.mpr c8
   subst c8
   rw [if_neg (show ¬ (false = true) by decide)] at H
   have H' := Aside0.mk H
   clear H
   go_wp2_with (first | ((with_reducible refine gate_callee (f := 17) rfl ?_); refine goesL_ (some 27) rfl rfl Try.func17 (by kernel_rfl) rfl #[.slice A0 l0.length c0, .slice A1 l1.length c1] rfl (by (try simp only [List.map_toArray, List.map_cons, List.map_nil]); first | done | rfl | (simp only [List.length_drop, List.length_take]; rfl)) ?_; (with_reducible refine (fringelaw41_valid.calls k _ _ l0 _ _ l1 false _ ?side1 ?side2 ?side3 ?side4 A7.out).mono ?_); (case side1 => repeat (first | exact (Kd.C_below HR0.out HB.out) | (with_reducible refine Kd.C_alloc ?_ _) | (with_reducible refine Kd.C_drewN ?_ _) | (with_reducible refine Kd.C_drew ?_))); (case side2 => exact HC0.out); (case side3 => repeat (first | exact (Kd.C_below HR1.out HB.out) | (with_reducible refine Kd.C_alloc ?_ _) | (with_reducible refine Kd.C_drewN ?_ _) | (with_reducible refine Kd.C_drew ?_))); (case side4 => exact HC1.out); rintro e w' ⟨rfl, ⟨nd, rfl⟩⟩; refine ⟨_, rfl, ?_⟩))
   go_meet
   case rel => exact ⟨_, (true), (by first | rfl | (simp; done) | (simp [*]; done)), H', ⟨by first | omega | exact Nat.le_refl _⟩, ⟨by repeat (first | (with_reducible first | exact HB.out | apply below_alloc | apply pw_below_drewN | apply below_drew1) | exact HB.out)⟩⟩
 case rest =>
  as_aux_lemma =>
  clear HC5
  try clear c1
  try clear c2
  try clear p2
  try clear p6
  try clear c8
  try clear c10
  try clear c11
  try clear c11b0
  obtain ⟨kq, x46_4, rfl, HA, HJ4, HB⟩ := hcut
  cases kq with
  | zero => exact absurd HA.out (by simp [fringelaw41_SkyAdds.j0])
  | succ kj4 =>
   have H := HA.out
   clear HA
   simp only [fringelaw41_SkyAdds.j0] at H
   by_cases c12 : x46_4 = true
   ·as_aux_lemma =>
    subst c12
    rw [if_pos rfl] at H
    have hend := Aside0.mk (Option.some.inj H)
    clear H
    go_wp2
    go_ret
    exact ⟨by first | rfl | (rw [hend.out]; done) | (simp only [hend.out]; done) | (simp [*]; first | exact hend.out | exact eq_of_beq hend.out | exact of_decide_eq_true hend.out) | (have h_ := hend.out; simp_all; done) | (simp [*, errW_none, errW_some] <;> rfl), by repeat (first | (with_reducible first | exact HB.out | apply below_alloc | apply pw_below_drewN | apply below_drew1) | exact HB.out)⟩
   ·as_aux_lemma =>
    replace c12 := Bool.eq_false_iff.mpr c12
    subst c12
    rw [if_neg (show ¬ (false = true) by decide)] at H
    replace H := Option.bind_eq_some_iff.mp H
    obtain ⟨⟨t689, t690⟩, A130, H⟩ := H
    (try dsimp only at H)
    have A13 := Aside0.mk A130
    clear A130
    replace H := Option.bind_eq_some_iff.mp H
    obtain ⟨⟨t693, t694⟩, A140, H⟩ := H
    (try dsimp only at H)
    have A14 := Aside0.mk A140
    clear A140
    obtain ⟨y697, hy697⟩ : ∃ y_ : List (S33), y_ = (([] : List (S33))) := ⟨_, rfl⟩
    replace H : (if y697.length + l1.length < 5864062014805 then ((some (y697 ++ l1 : List (S33))).bind fun y700 => (if y700.length + l2.length < 5864062014805 then ((some (y700 ++ l2 : List (S33))).bind fun y703 => ((sky_See.f kj4 l0 y703).bind fun bt706 => (if t690 = 0 then (if t694 = 0 then (if bt706.2 = 0 then (if (t689.length : Int) = (wrap64 (Int.tdiv (wrap64 ((l0.length : Int) * (wrap64 ((l0.length : Int) - 1)))) 2)) then (if (t693.length : Int) = (t689.length : Int) then (fringelaw41_SkyAdds.j1 kj4 l0 t686 t689 t693 y703 bt706.1 ((bt706.1.length : Int) != (t689.length : Int))) else (fringelaw41_SkyAdds.j1 kj4 l0 t686 t689 t693 y703 bt706.1 true)) else (fringelaw41_SkyAdds.j1 kj4 l0 t686 t689 t693 y703 bt706.1 true)) else (fringelaw41_SkyAdds.j1 kj4 l0 t686 t689 t693 y703 bt706.1 true)) else (fringelaw41_SkyAdds.j1 kj4 l0 t686 t689 t693 y703 bt706.1 true)) else (fringelaw41_SkyAdds.j1 kj4 l0 t686 t689 t693 y703 bt706.1 true)))) else (none))) else (none)) = some true := by first | (rw [hy697]; with_reducible exact H) | (have H2_ := (Option.bind_some _ _).symm.trans H; rw [hy697]; with_reducible exact H2_) | (have H2_ := (Option.bind_some _ _).symm.trans H; with_reducible exact H2_) | with_reducible exact H | (rw [hy697]; exact H) | exact H
    have Ny697 := Aside0.mk hy697
    clear hy697
    by_cases c15 : y697.length + l1.length < 5864062014805
    ·as_aux_lemma =>
     rw [if_pos c15] at H
     have LMc15 := Aside0.mk c15
     clear c15
     obtain ⟨y700, hy700⟩ : ∃ y_ : List (S33), y_ = (y697 ++ l1) := ⟨_, rfl⟩
     replace H : (if y700.length + l2.length < 5864062014805 then ((some (y700 ++ l2 : List (S33))).bind fun y703 => ((sky_See.f kj4 l0 y703).bind fun bt706 => (if t690 = 0 then (if t694 = 0 then (if bt706.2 = 0 then (if (t689.length : Int) = (wrap64 (Int.tdiv (wrap64 ((l0.length : Int) * (wrap64 ((l0.length : Int) - 1)))) 2)) then (if (t693.length : Int) = (t689.length : Int) then (fringelaw41_SkyAdds.j1 kj4 l0 t686 t689 t693 y703 bt706.1 ((bt706.1.length : Int) != (t689.length : Int))) else (fringelaw41_SkyAdds.j1 kj4 l0 t686 t689 t693 y703 bt706.1 true)) else (fringelaw41_SkyAdds.j1 kj4 l0 t686 t689 t693 y703 bt706.1 true)) else (fringelaw41_SkyAdds.j1 kj4 l0 t686 t689 t693 y703 bt706.1 true)) else (fringelaw41_SkyAdds.j1 kj4 l0 t686 t689 t693 y703 bt706.1 true)) else (fringelaw41_SkyAdds.j1 kj4 l0 t686 t689 t693 y703 bt706.1 true)))) else (none)) = some true := by first | (rw [hy700]; with_reducible exact H) | (have H2_ := (Option.bind_some _ _).symm.trans H; rw [hy700]; with_reducible exact H2_) | (have H2_ := (Option.bind_some _ _).symm.trans H; with_reducible exact H2_) | with_reducible exact H | (rw [hy700]; exact H) | exact H
     have Ny700 := Aside0.mk hy700
     clear hy700
     by_cases c16 : y700.length + l2.length < 5864062014805
     ·as_aux_lemma =>
      rw [if_pos c16] at H
      have LMc16 := Aside0.mk c16
      clear c16
      obtain ⟨y703, hy703⟩ : ∃ y_ : List (S33), y_ = (y700 ++ l2) := ⟨_, rfl⟩
      replace H : ((sky_See.f kj4 l0 y703).bind fun bt706 => (if t690 = 0 then (if t694 = 0 then (if bt706.2 = 0 then (if (t689.length : Int) = (wrap64 (Int.tdiv (wrap64 ((l0.length : Int) * (wrap64 ((l0.length : Int) - 1)))) 2)) then (if (t693.length : Int) = (t689.length : Int) then (fringelaw41_SkyAdds.j1 kj4 l0 t686 t689 t693 y703 bt706.1 ((bt706.1.length : Int) != (t689.length : Int))) else (fringelaw41_SkyAdds.j1 kj4 l0 t686 t689 t693 y703 bt706.1 true)) else (fringelaw41_SkyAdds.j1 kj4 l0 t686 t689 t693 y703 bt706.1 true)) else (fringelaw41_SkyAdds.j1 kj4 l0 t686 t689 t693 y703 bt706.1 true)) else (fringelaw41_SkyAdds.j1 kj4 l0 t686 t689 t693 y703 bt706.1 true)) else (fringelaw41_SkyAdds.j1 kj4 l0 t686 t689 t693 y703 bt706.1 true))) = some true := by first | (rw [hy703]; with_reducible exact H) | (have H2_ := (Option.bind_some _ _).symm.trans H; rw [hy703]; with_reducible exact H2_) | (have H2_ := (Option.bind_some _ _).symm.trans H; with_reducible exact H2_) | with_reducible exact H | (rw [hy703]; exact H) | exact H
      have Ny703 := Aside0.mk hy703
      clear hy703
      replace H := Option.bind_eq_some_iff.mp H
      obtain ⟨⟨t706, t707⟩, A170, H⟩ := H
      (try dsimp only at H)
      have A17 := Aside0.mk A170
      clear A170
      have HC18 := Aside0.mk H
      clear H
      go_upto_region 8 with (first | ((with_reducible refine gate_callee (f := 18) rfl ?_); refine goesL_ (some 51) rfl rfl Try.func18 (by kernel_rfl) rfl #[.slice A0 l0.length c0, .slice A1 l1.length c1] rfl (by (try simp only [List.map_toArray, List.map_cons, List.map_nil]); first | done | rfl | (simp only [List.length_drop, List.length_take]; rfl)) ?_; (with_reducible refine (sky_See.calls kj4 _ _ l0 _ _ l1 t689 t690 _ ?side1 ?side2 ?side3 ?side4 A13.out).mono ?_); (case side1 => repeat (first | exact (Kd.C_below HR0.out HB.out) | (with_reducible refine Kd.C_alloc ?_ _) | (with_reducible refine Kd.C_drewN ?_ _) | (with_reducible refine Kd.C_drew ?_))); (case side2 => exact HC0.out); (case side3 => repeat (first | exact (Kd.C_below HR1.out HB.out) | (with_reducible refine Kd.C_alloc ?_ _) | (with_reducible refine Kd.C_drewN ?_ _) | (with_reducible refine Kd.C_drew ?_))); (case side4 => exact HC1.out); rintro e w19 ⟨v691, rfl, ho0, hb⟩; refine ⟨_, rfl, ?_⟩; have n0_ := Aside0.mk (Kd.R_lower ho0 (below_size (by repeat (first | (with_reducible first | exact HB.out | apply below_alloc | apply pw_below_drewN | apply below_drew1) | exact HB.out)))); have n1_ := Aside0.mk (below_step (by repeat (first | (with_reducible first | exact HB.out | apply below_alloc | apply pw_below_drewN | apply below_drew1) | exact HB.out)) hb); clear HB; have HO692 := n0_; have HB := n1_; clear n0_ n1_; (try clear hb); (try clear hb2); (try clear hk); (try clear hi); (try clear ho0)) | ((with_reducible refine gate_callee (f := 18) rfl ?_); refine goesL_ (some 57) rfl rfl Try.func18 (by kernel_rfl) rfl #[.slice A0 l0.length c0, .slice A2 l2.length c2] rfl (by (try simp only [List.map_toArray, List.map_cons, List.map_nil]); first | done | rfl | (simp only [List.length_drop, List.length_take]; rfl)) ?_; (with_reducible refine (sky_See.calls kj4 _ _ l0 _ _ l2 t693 t694 _ ?side1 ?side2 ?side3 ?side4 A14.out).mono ?_); (case side1 => repeat (first | exact (Kd.C_below HR0.out HB.out) | (with_reducible refine Kd.C_alloc ?_ _) | (with_reducible refine Kd.C_drewN ?_ _) | (with_reducible refine Kd.C_drew ?_))); (case side2 => exact HC0.out); (case side3 => repeat (first | exact (Kd.C_below HR2.out HB.out) | (with_reducible refine Kd.C_alloc ?_ _) | (with_reducible refine Kd.C_drewN ?_ _) | (with_reducible refine Kd.C_drew ?_))); (case side4 => exact HC2.out); rintro e w20 ⟨v695, rfl, ho0, hb⟩; refine ⟨_, rfl, ?_⟩; have n0_ := Aside0.mk (Kd.R_elder' (by (with_reducible repeat (first | apply Kd.R_alloc | apply Kd.R_drewN | apply Kd.R_drew)); exact HO692.out) (Kd.R_base ho0) hb); have n1_ := Aside0.mk (Kd.R_lower (Kd.R_new' ho0 (Kd.R_lt (by (with_reducible repeat (first | apply Kd.R_alloc | apply Kd.R_drewN | apply Kd.R_drew)); exact HO692.out))) (below_size (by repeat (first | (with_reducible first | exact HB.out | apply below_alloc | apply pw_below_drewN | apply below_drew1) | exact HB.out)))); have n2_ := Aside0.mk (below_step (by repeat (first | (with_reducible first | exact HB.out | apply below_alloc | apply pw_below_drewN | apply below_drew1) | exact HB.out)) hb); clear HO692; clear HB; have HO692 := n0_; have HO696 := n1_; have HB := n2_; clear n0_ n1_ n2_; (try clear hb); (try clear hb2); (try clear hk); (try clear hi); (try clear ho0)) | ((with_reducible refine gate_dst (N := 60) rfl ?_); (try (refine gate_guard (by rfl) ?_; dsimp only)); refine Kd.R_lit k33 _ 33 ?hg (N := 60) ?hd (xs := ([] : List (S33))) (inner := []) (ok := fun _ => True) (okp := fun _ => True) ?hr ?hp (fun _ hk => hk) trivial (Below.refl _ _) (Nat.le_refl _) (by simp) ?_; (case hd => rfl); (case hg => rfl); (case hr => first | (go_simp; done) | (go_simp; rfl)); (case hp => exact (Reps.none _ _)); intro v698 w21 ho22 hb hg_ hnew_; clear hg_ hnew_; (first | rw [← Ny697.out] at ho22 | (simp only [Int.reduceToNat] at ho22; rw [← Ny697.out] at ho22)); have n0_ := Aside0.mk (Kd.R_below (by (with_reducible repeat (first | apply Kd.R_alloc | apply Kd.R_drewN | apply Kd.R_drew)); exact HO692.out) hb); have n1_ := Aside0.mk (Kd.R_below (by (with_reducible repeat (first | apply Kd.R_alloc | apply Kd.R_drewN | apply Kd.R_drew)); exact HO696.out) hb); have n2_ := Aside0.mk (Kd.R_lower ho22 (below_size (by repeat (first | (with_reducible first | exact HB.out | apply below_alloc | apply pw_below_drewN | apply below_drew1) | exact HB.out)))); have n3_ := Aside0.mk (below_step (by repeat (first | (with_reducible first | exact HB.out | apply below_alloc | apply pw_below_drewN | apply below_drew1) | exact HB.out)) hb); clear HO692; clear HO696; clear HB; have HO692 := n0_; have HO696 := n1_; have HO699 := n2_; have HB := n3_; clear n0_ n1_ n2_ n3_; clear hb ho22) | ((with_reducible refine gate_builtin (b := .append) (xs := #[.tmp 60, .tmp 61]) rfl ?_); (try (refine gate_guard (by rfl) ?_; dsimp only)); at_builtin; refine Kd.R_append_rows k33 (w0 := w) w.heap.size rfl (.tmp 60) (.tmp 61) 22 33 (.agg #[(.int .i64 0), (.int .i64 0), (.int .i64 0)]) 24 rfl Try.underlying22 info33 rfl (by decide) (by omega) v698 y697 l1 _ _ _ (fun _ => True) (fun _ => False) rfl rfl ?aO ?aR (fun _ _ h => h) (fun _ h => h.elim) ?aF ?aB ?aS ?aL ?_; (case aR => repeat (first | exact (Kd.C_below HR1.out HB.out) | (with_reducible refine Kd.C_alloc ?_ _) | (with_reducible refine Kd.C_drewN ?_ _) | (with_reducible refine Kd.C_drew ?_))); (case aB => exact (by repeat (first | (with_reducible first | exact HB.out | apply below_alloc | apply pw_below_drewN | apply below_drew1) | exact HB.out))); (case aF => exact (fun _ _ => trivial)); (case aO => exact (by (with_reducible repeat (first | apply Kd.R_alloc | apply Kd.R_drewN | apply Kd.R_drew)); exact HO699.out)); (case aS => exact (below_size (by repeat (first | (with_reducible first | exact HB.out | apply below_alloc | apply pw_below_drewN | apply below_drew1) | exact HB.out)))); (case aL => have := LMc15.out; omega); intro v701 w23 ho hb hg hat; rw [← Ny700.out] at ho; have n0_ := Aside0.mk (Kd.R_over' (by (with_reducible repeat (first | apply Kd.R_alloc | apply Kd.R_drewN | apply Kd.R_drew)); exact HO692.out) (Kd.R_typed (by (with_reducible repeat (first | apply Kd.R_alloc | apply Kd.R_drewN | apply Kd.R_drew)); exact HO699.out)) (by decide) hg); have n1_ := Aside0.mk (Kd.R_over' (by (with_reducible repeat (first | apply Kd.R_alloc | apply Kd.R_drewN | apply Kd.R_drew)); exact HO696.out) (Kd.R_typed (by (with_reducible repeat (first | apply Kd.R_alloc | apply Kd.R_drewN | apply Kd.R_drew)); exact HO699.out)) (by decide) hg); have n2_ := Aside0.mk (hb); have n3_ := Aside0.mk (ho); clear HO692; clear HO696; clear HB; clear HO699; have HO692 := n0_; have HO696 := n1_; have HB := n2_; have HO702 := n3_; clear n0_ n1_ n2_ n3_; clear ho hb hg hat) | ((with_reducible refine gate_builtin (b := .append) (xs := #[.tmp 62, .tmp 63]) rfl ?_); (try (refine gate_guard (by rfl) ?_; dsimp only)); at_builtin; refine Kd.R_append_rows k33 (w0 := w) w.heap.size rfl (.tmp 62) (.tmp 63) 22 33 (.agg #[(.int .i64 0), (.int .i64 0), (.int .i64 0)]) 24 rfl Try.underlying22 info33 rfl (by decide) (by omega) v701 y700 l2 _ _ _ (fun _ => True) (fun _ => False) rfl rfl ?aO ?aR (fun _ _ h => h) (fun _ h => h.elim) ?aF ?aB ?aS ?aL ?_; (case aR => repeat (first | exact (Kd.C_below HR2.out HB.out) | (with_reducible refine Kd.C_alloc ?_ _) | (with_reducible refine Kd.C_drewN ?_ _) | (with_reducible refine Kd.C_drew ?_))); (case aB => exact (by repeat (first | (with_reducible first | exact HB.out | apply below_alloc | apply pw_below_drewN | apply below_drew1) | exact HB.out))); (case aF => exact (fun _ _ => trivial)); (case aO => exact (by (with_reducible repeat (first | apply Kd.R_alloc | apply Kd.R_drewN | apply Kd.R_drew)); exact HO702.out)); (case aS => exact (below_size (by repeat (first | (with_reducible first | exact HB.out | apply below_alloc | apply pw_below_drewN | apply below_drew1) | exact HB.out)))); (case aL => have := LMc16.out; omega); intro v704 w24 ho hb hg hat; rw [← Ny703.out] at ho; have n0_ := Aside0.mk (Kd.R_over' (by (with_reducible repeat (first | apply Kd.R_alloc | apply Kd.R_drewN | apply Kd.R_drew)); exact HO692.out) (Kd.R_typed (by (with_reducible repeat (first | apply Kd.R_alloc | apply Kd.R_drewN | apply Kd.R_drew)); exact HO702.out)) (by decide) hg); have n1_ := Aside0.mk (Kd.R_over' (by (with_reducible repeat (first | apply Kd.R_alloc | apply Kd.R_drewN | apply Kd.R_drew)); exact HO696.out) (Kd.R_typed (by (with_reducible repeat (first | apply Kd.R_alloc | apply Kd.R_drewN | apply Kd.R_drew)); exact HO702.out)) (by decide) hg); have n2_ := Aside0.mk (hb); have n3_ := Aside0.mk (ho); clear HO692; clear HO696; clear HB; clear HO702; have HO692 := n0_; have HO696 := n1_; have HB := n2_; have HO705 := n3_; clear n0_ n1_ n2_ n3_; clear ho hb hg hat; obtain ⟨Ao25, co25, eo25⟩ := Kd.R_slice HO705.out; subst eo25) | ((with_reducible refine gate_callee (f := 18) rfl ?_); refine goesL_ (some 68) rfl rfl Try.func18 (by kernel_rfl) rfl #[.slice A0 l0.length c0, .slice Ao25 y703.length co25] rfl (by (try simp only [List.map_toArray, List.map_cons, List.map_nil]); first | done | rfl | (simp only [List.length_drop, List.length_take]; rfl)) ?_; (with_reducible refine (sky_See.calls kj4 _ _ l0 _ _ y703 t706 t707 _ ?side1 ?side2 ?side3 ?side4 A17.out).mono ?_); (case side1 => repeat (first | exact (Kd.C_below HR0.out HB.out) | (with_reducible refine Kd.C_alloc ?_ _) | (with_reducible refine Kd.C_drewN ?_ _) | (with_reducible refine Kd.C_drew ?_))); (case side2 => exact HC0.out); (case side3 => repeat (first | exact (Kd.R_reads' HO705.out).2.2 | (with_reducible refine Kd.C_alloc ?_ _) | (with_reducible refine Kd.C_drewN ?_ _) | (with_reducible refine Kd.C_drew ?_))); (case side4 => exact (Kd.R_reads' HO705.out).2.1); rintro e w26 ⟨v708, rfl, ho0, hb⟩; refine ⟨_, rfl, ?_⟩; have n0_ := Aside0.mk (Kd.R_elder' (by (with_reducible repeat (first | apply Kd.R_alloc | apply Kd.R_drewN | apply Kd.R_drew)); exact HO692.out) (Kd.R_base ho0) hb); have n1_ := Aside0.mk (Kd.R_elder' (by (with_reducible repeat (first | apply Kd.R_alloc | apply Kd.R_drewN | apply Kd.R_drew)); exact HO696.out) (Kd.R_base ho0) hb); have n2_ := Aside0.mk (Kd.R_below (by (with_reducible repeat (first | apply Kd.R_alloc | apply Kd.R_drewN | apply Kd.R_drew)); exact HO705.out) hb); have n3_ := Aside0.mk (Kd.R_lower (Kd.R_new' (Kd.R_new' ho0 (Kd.R_lt (by (with_reducible repeat (first | apply Kd.R_alloc | apply Kd.R_drewN | apply Kd.R_drew)); exact HO692.out))) (Kd.R_lt (by (with_reducible repeat (first | apply Kd.R_alloc | apply Kd.R_drewN | apply Kd.R_drew)); exact HO696.out))) (below_size (by repeat (first | (with_reducible first | exact HB.out | apply below_alloc | apply pw_below_drewN | apply below_drew1) | exact HB.out)))); have n4_ := Aside0.mk (below_step (by repeat (first | (with_reducible first | exact HB.out | apply below_alloc | apply pw_below_drewN | apply below_drew1) | exact HB.out)) hb); clear HO692; clear HO696; clear HO705; clear HB; have HO692 := n0_; have HO696 := n1_; have HO705 := n2_; have HO709 := n3_; have HB := n4_; clear n0_ n1_ n2_ n3_ n4_; (try clear hb); (try clear hb2); (try clear hk); (try clear hi); (try clear ho0)))
      (try simp only [Act.put, List.setIfInBounds_toArray, List.set_cons_zero, List.set_cons_succ])
      go_cut [106] (fun v106 wc => ∃ (kq : Nat) (x106_17 : Bool), v106 = .bool x106_17 ∧ Aside0 (fringelaw41_SkyAdds.j1 kq l0 t686 t689 t693 y703 t706 x106_17 = some true) ∧ Aside0 (kq ≤ kj4) ∧ Aside0 (Kd.R k47 47 wc w.heap.size (fun k_ => some k_ ≠ (v695 : Value).ownBlock ∧ some k_ ≠ (v708 : Value).ownBlock) v691 t689) ∧ Aside0 (Kd.R k47 47 wc w.heap.size (fun k_ => some k_ ≠ (v691 : Value).ownBlock ∧ some k_ ≠ (v708 : Value).ownBlock) v695 t693) ∧ Aside0 (Kd.R k33 33 wc w.heap.size (fun _ => True) (.slice Ao25 y703.length co25) y703) ∧ Aside0 (Kd.R k47 47 wc w.heap.size (fun k_ => some k_ ≠ (v691 : Value).ownBlock ∧ some k_ ≠ (v695 : Value).ownBlock) v708 t706) ∧ Aside0 (Below w.heap.size w wc))
      case first =>
       as_aux_lemma =>
       have H := HC18.out
       clear HC18
       by_cases c27 : t690 = 0
       ·as_aux_lemma =>
        rw [if_pos c27] at H
        have c27b0 : (t690 == 0) = true := beq_iff_eq.mpr c27
        have c27b1 : (t690 != 0) = false := bne_eq_false_iff_eq.mpr c27
        clear c27
        (first | rw [c27b0] | (simp only [i64_w, i32_w]; rw [c27b0]) | skip)
        by_cases c28 : t694 = 0
        ·as_aux_lemma =>
         rw [if_pos c28] at H
         have c28b0 : (t694 == 0) = true := beq_iff_eq.mpr c28
         have c28b1 : (t694 != 0) = false := bne_eq_false_iff_eq.mpr c28
         clear c28
         by_cases c29 : t707 = 0
         ·as_aux_lemma =>
          rw [if_pos c29] at H
          have c29b0 : (t707 == 0) = true := beq_iff_eq.mpr c29
          have c29b1 : (t707 != 0) = false := bne_eq_false_iff_eq.mpr c29
          clear c29
          by_cases c30 : (t689.length : Int) = (wrap64 (Int.tdiv (wrap64 ((l0.length : Int) * (wrap64 ((l0.length : Int) - 1)))) 2))
          ·as_aux_lemma =>
           rw [if_pos c30] at H
           have c30b0 : ((t689.length : Int) == (wrap64 (Int.tdiv (wrap64 ((l0.length : Int) * (wrap64 ((l0.length : Int) - 1)))) 2))) = true := beq_iff_eq.mpr c30
           have c30b1 : ((t689.length : Int) != (wrap64 (Int.tdiv (wrap64 ((l0.length : Int) * (wrap64 ((l0.length : Int) - 1)))) 2))) = false := bne_eq_false_iff_eq.mpr c30
           clear c30
           by_cases c31 : (t693.length : Int) = (t689.length : Int)
           ·as_aux_lemma =>
            rw [if_pos c31] at H
            have c31b0 : ((t693.length : Int) == (t689.length : Int)) = true := beq_iff_eq.mpr c31
            have c31b1 : ((t693.length : Int) != (t689.length : Int)) = false := bne_eq_false_iff_eq.mpr c31
            have c31b2 : (t693.length == t689.length) = true := by first | simpa using c31 | (simp at c31 ⊢; omega)
            clear c31
            have H' := Aside0.mk H
            clear H
            obtain ⟨Ao32, co32, eo32⟩ := Kd.R_slice HO692.out
            subst eo32
            obtain ⟨Ao33, co33, eo33⟩ := Kd.R_slice HO696.out
            subst eo33
            obtain ⟨Ao34, co34, eo34⟩ := Kd.R_slice HO709.out
            subst eo34
            go_wp2
            go_meet
            case rel => exact ⟨_, (((t706.length : Int) != (t689.length : Int))), (by first | rfl | (simp; done) | (simp [*]; done)), H', ⟨by have := HJ4.out; first | omega | exact Nat.le_refl _⟩, ⟨by (with_reducible repeat (first | apply Kd.R_alloc | apply Kd.R_drewN | apply Kd.R_drew)); exact Kd.R_mono HO692.out (fun _ hk => ⟨hk.1.2, hk.2⟩)⟩, ⟨by (with_reducible repeat (first | apply Kd.R_alloc | apply Kd.R_drewN | apply Kd.R_drew)); exact Kd.R_mono HO696.out (fun _ hk => ⟨hk.1.2, hk.2⟩)⟩, ⟨by (with_reducible repeat (first | apply Kd.R_alloc | apply Kd.R_drewN | apply Kd.R_drew)); exact HO705.out⟩, ⟨by (with_reducible repeat (first | apply Kd.R_alloc | apply Kd.R_drewN | apply Kd.R_drew)); exact Kd.R_mono HO709.out (fun _ hk => ⟨hk.1.2, hk.2⟩)⟩, ⟨by repeat (first | (with_reducible first | exact HB.out | apply below_alloc | apply pw_below_drewN | apply below_drew1) | exact HB.out)⟩⟩
           ·as_aux_lemma =>
            rw [if_neg c31] at H
            have c31b0 : ((t693.length : Int) == (t689.length : Int)) = false := beq_eq_false_iff_ne.mpr c31
            have c31b1 : ((t693.length : Int) != (t689.length : Int)) = true := bne_iff_ne.mpr c31
            have c31b2 : (t693.length == t689.length) = false := by first | simpa using c31 | (simp at c31 ⊢; omega)
            have H' := Aside0.mk H
            clear H
            obtain ⟨Ao35, co35, eo35⟩ := Kd.R_slice HO692.out
            subst eo35
            obtain ⟨Ao36, co36, eo36⟩ := Kd.R_slice HO696.out
            subst eo36
            go_wp2
            go_meet
            case rel => exact ⟨_, (true), (by first | rfl | (simp; done) | (simp [*]; done)), H', ⟨by have := HJ4.out; first | omega | exact Nat.le_refl _⟩, ⟨by (with_reducible repeat (first | apply Kd.R_alloc | apply Kd.R_drewN | apply Kd.R_drew)); exact Kd.R_mono HO692.out (fun _ hk => ⟨hk.1.2, hk.2⟩)⟩, ⟨by (with_reducible repeat (first | apply Kd.R_alloc | apply Kd.R_drewN | apply Kd.R_drew)); exact Kd.R_mono HO696.out (fun _ hk => ⟨hk.1.2, hk.2⟩)⟩, ⟨by (with_reducible repeat (first | apply Kd.R_alloc | apply Kd.R_drewN | apply Kd.R_drew)); exact HO705.out⟩, ⟨by (with_reducible repeat (first | apply Kd.R_alloc | apply Kd.R_drewN | apply Kd.R_drew)); exact Kd.R_mono HO709.out (fun _ hk => ⟨hk.1.2, hk.2⟩)⟩, ⟨by repeat (first | (with_reducible first | exact HB.out | apply below_alloc | apply pw_below_drewN | apply below_drew1) | exact HB.out)⟩⟩
          ·as_aux_lemma =>
           rw [if_neg c30] at H
           have c30b0 : ((t689.length : Int) == (wrap64 (Int.tdiv (wrap64 ((l0.length : Int) * (wrap64 ((l0.length : Int) - 1)))) 2))) = false := beq_eq_false_iff_ne.mpr c30
           have c30b1 : ((t689.length : Int) != (wrap64 (Int.tdiv (wrap64 ((l0.length : Int) * (wrap64 ((l0.length : Int) - 1)))) 2))) = true := bne_iff_ne.mpr c30
           have H' := Aside0.mk H
           clear H
           obtain ⟨Ao37, co37, eo37⟩ := Kd.R_slice HO692.out
           subst eo37
           go_wp2
           go_meet
           case rel => exact ⟨_, (true), (by first | rfl | (simp; done) | (simp [*]; done)), H', ⟨by have := HJ4.out; first | omega | exact Nat.le_refl _⟩, ⟨by (with_reducible repeat (first | apply Kd.R_alloc | apply Kd.R_drewN | apply Kd.R_drew)); exact Kd.R_mono HO692.out (fun _ hk => ⟨hk.1.2, hk.2⟩)⟩, ⟨by (with_reducible repeat (first | apply Kd.R_alloc | apply Kd.R_drewN | apply Kd.R_drew)); exact Kd.R_mono HO696.out (fun _ hk => ⟨hk.1.2, hk.2⟩)⟩, ⟨by (with_reducible repeat (first | apply Kd.R_alloc | apply Kd.R_drewN | apply Kd.R_drew)); exact HO705.out⟩, ⟨by (with_reducible repeat (first | apply Kd.R_alloc | apply Kd.R_drewN | apply Kd.R_drew)); exact Kd.R_mono HO709.out (fun _ hk => ⟨hk.1.2, hk.2⟩)⟩, ⟨by repeat (first | (with_reducible first | exact HB.out | apply below_alloc | apply pw_below_drewN | apply below_drew1) | exact HB.out)⟩⟩
         ·as_aux_lemma =>
          rw [if_neg c29] at H
          have c29b0 : (t707 == 0) = false := beq_eq_false_iff_ne.mpr c29
          have c29b1 : (t707 != 0) = true := bne_iff_ne.mpr c29
          have H' := Aside0.mk H
          clear H
          go_wp2
          go_meet
          case rel => exact ⟨_, (true), (by first | rfl | (simp; done) | (simp [*]; done)), H', ⟨by have := HJ4.out; first | omega | exact Nat.le_refl _⟩, ⟨by (with_reducible repeat (first | apply Kd.R_alloc | apply Kd.R_drewN | apply Kd.R_drew)); exact Kd.R_mono HO692.out (fun _ hk => ⟨hk.1.2, hk.2⟩)⟩, ⟨by (with_reducible repeat (first | apply Kd.R_alloc | apply Kd.R_drewN | apply Kd.R_drew)); exact Kd.R_mono HO696.out (fun _ hk => ⟨hk.1.2, hk.2⟩)⟩, ⟨by (with_reducible repeat (first | apply Kd.R_alloc | apply Kd.R_drewN | apply Kd.R_drew)); exact HO705.out⟩, ⟨by (with_reducible repeat (first | apply Kd.R_alloc | apply Kd.R_drewN | apply Kd.R_drew)); exact Kd.R_mono HO709.out (fun _ hk => ⟨hk.1.2, hk.2⟩)⟩, ⟨by repeat (first | (with_reducible first | exact HB.out | apply below_alloc | apply pw_below_drewN | apply below_drew1) | exact HB.out)⟩⟩
        ·as_aux_lemma =>
         rw [if_neg c28] at H
         have c28b0 : (t694 == 0) = false := beq_eq_false_iff_ne.mpr c28
         have c28b1 : (t694 != 0) = true := bne_iff_ne.mpr c28
         have H' := Aside0.mk H
         clear H
         go_wp2
         go_meet
         case rel => exact ⟨_, (true), (by first | rfl | (simp; done) | (simp [*]; done)), H', ⟨by have := HJ4.out; first | omega | exact Nat.le_refl _⟩, ⟨by (with_reducible repeat (first | apply Kd.R_alloc | apply Kd.R_drewN | apply Kd.R_drew)); exact Kd.R_mono HO692.out (fun _ hk => ⟨hk.1.2, hk.2⟩)⟩, ⟨by (with_reducible repeat (first | apply Kd.R_alloc | apply Kd.R_drewN | apply Kd.R_drew)); exact Kd.R_mono HO696.out (fun _ hk => ⟨hk.1.2, hk.2⟩)⟩, ⟨by (with_reducible repeat (first | apply Kd.R_alloc | apply Kd.R_drewN | apply Kd.R_drew)); exact HO705.out⟩, ⟨by (with_reducible repeat (first | apply Kd.R_alloc | apply Kd.R_drewN | apply Kd.R_drew)); exact Kd.R_mono HO709.out (fun _ hk => ⟨hk.1.2, hk.2⟩)⟩, ⟨by repeat (first | (with_reducible first | exact HB.out | apply below_alloc | apply pw_below_drewN | apply below_drew1) | exact HB.out)⟩⟩
       ·as_aux_lemma =>
        rw [if_neg c27] at H
        have c27b0 : (t690 == 0) = false := beq_eq_false_iff_ne.mpr c27
        have c27b1 : (t690 != 0) = true := bne_iff_ne.mpr c27
        (first | rw [c27b0] | (simp only [i64_w, i32_w]; rw [c27b0]) | skip)
        have H' := Aside0.mk H
        clear H
        go_wp2
        go_meet
        case rel => exact ⟨_, (true), (by first | rfl | (simp; done) | (simp [*]; done)), H', ⟨by have := HJ4.out; first | omega | exact Nat.le_refl _⟩, ⟨by (with_reducible repeat (first | apply Kd.R_alloc | apply Kd.R_drewN | apply Kd.R_drew)); exact Kd.R_mono HO692.out (fun _ hk => ⟨hk.1.2, hk.2⟩)⟩, ⟨by (with_reducible repeat (first | apply Kd.R_alloc | apply Kd.R_drewN | apply Kd.R_drew)); exact Kd.R_mono HO696.out (fun _ hk => ⟨hk.1.2, hk.2⟩)⟩, ⟨by (with_reducible repeat (first | apply Kd.R_alloc | apply Kd.R_drewN | apply Kd.R_drew)); exact HO705.out⟩, ⟨by (with_reducible repeat (first | apply Kd.R_alloc | apply Kd.R_drewN | apply Kd.R_drew)); exact Kd.R_mono HO709.out (fun _ hk => ⟨hk.1.2, hk.2⟩)⟩, ⟨by repeat (first | (with_reducible first | exact HB.out | apply below_alloc | apply pw_below_drewN | apply below_drew1) | exact HB.out)⟩⟩
      case rest =>
       as_aux_lemma =>
       clear HC18
       try clear c1
       try clear c2
       try clear p2
       try clear c3
       try clear p6
       try clear c8
       try clear c10
       try clear c11
       try clear c11b0
       try clear c12
       try clear c15
       try clear c16
       try clear c17
       try clear c18
       try clear c27
       try clear c27b0
       try clear c27b1
       try clear c28
       try clear c28b0
       try clear c28b1
       try clear c29
       try clear c29b0
       try clear c29b1
       try clear c30
       try clear c30b0
       try clear c30b1
       try clear c31
       try clear c31b0
       try clear c31b1
       try clear c31b2
       try clear p2
       try clear p6
       obtain ⟨kq, x106_17, rfl, HA, HJ17, HO_8, HO_10, HO_12, HO_13, HB⟩ := hcut
       cases kq with
       | zero => exact absurd HA.out (by simp [fringelaw41_SkyAdds.j1])
       | succ kj17 =>
        have H := HA.out
        clear HA
        simp only [fringelaw41_SkyAdds.j1] at H
        by_cases c38 : x106_17 = true
        ·as_aux_lemma =>
         subst c38
         rw [if_pos rfl] at H
         exact absurd H (by simp)
        ·as_aux_lemma =>
         replace c38 := Bool.eq_false_iff.mpr c38
         subst c38
         rw [if_neg (show ¬ (false = true) by decide)] at H
         have H' := Aside0.mk H
         clear H
         go_wp2
         go_loopg [15] kj17 (fun kq v15 w' => ∃ (x15_3 : Int), v15 = .int .i64 x15_3 ∧ Aside0 (fringelaw41_SkyAdds.l0 kq l0 t686 t689 t693 y703 t706 x15_3 = some true) ∧ Aside0 (kq ≤ kj17) ∧ Aside0 (Kd.R k47 47 w' w.heap.size (fun k_ => some k_ ≠ (v695 : Value).ownBlock ∧ some k_ ≠ (v708 : Value).ownBlock) v691 t689) ∧ Aside0 (Kd.R k47 47 w' w.heap.size (fun k_ => some k_ ≠ (v691 : Value).ownBlock ∧ some k_ ≠ (v708 : Value).ownBlock) v695 t693) ∧ Aside0 (Kd.R k33 33 w' w.heap.size (fun _ => True) (.slice Ao25 y703.length co25) y703) ∧ Aside0 (Kd.R k47 47 w' w.heap.size (fun k_ => some k_ ≠ (v691 : Value).ownBlock ∧ some k_ ≠ (v695 : Value).ownBlock) v708 t706) ∧ Aside0 (Below w.heap.size w w'))
         case atStart => exact ⟨(0), (by first | rfl | (simp; done) | (simp [*]; done)), H', ⟨Nat.le_refl _⟩, ⟨by (with_reducible repeat (first | apply Kd.R_alloc | apply Kd.R_drewN | apply Kd.R_drew)); exact HO_8.out⟩, ⟨by (with_reducible repeat (first | apply Kd.R_alloc | apply Kd.R_drewN | apply Kd.R_drew)); exact HO_10.out⟩, ⟨by (with_reducible repeat (first | apply Kd.R_alloc | apply Kd.R_drewN | apply Kd.R_drew)); exact HO_12.out⟩, ⟨by (with_reducible repeat (first | apply Kd.R_alloc | apply Kd.R_drewN | apply Kd.R_drew)); exact HO_13.out⟩, ⟨by repeat (first | (with_reducible first | exact HB.out | apply below_alloc | apply pw_below_drewN | apply below_drew1) | exact HB.out)⟩⟩
         case round =>
          as_aux_lemma =>
          clear H'
          try clear c1
          try clear c2
          try clear p2
          try clear c3
          try clear p6
          try clear c8
          try clear c10
          try clear c11
          try clear c11b0
          try clear c12
          try clear c15
          try clear c16
          try clear c17
          try clear c18
          try clear c27
          try clear c27b0
          try clear c27b1
          try clear c28
          try clear c28b0
          try clear c28b1
          try clear c29
          try clear c29b0
          try clear c29b1
          try clear c30
          try clear c30b0
          try clear c30b1
          try clear c31
          try clear c31b0
          try clear c31b1
          try clear c31b2
          try clear c38
          try clear p2
          try clear p6
          obtain ⟨x15_3, rfl, HA, HK3, HO_8, HO_10, HO_12, HO_13, HB⟩ := hrel
          cases gk with
          | zero => exact absurd HA.out (by simp [fringelaw41_SkyAdds.l0])
          | succ k3 =>
           have H := HA.out
           clear HA
           simp only [fringelaw41_SkyAdds.l0] at H
           by_cases c39 : x15_3 < (t689.length : Int)
           ·as_aux_lemma =>
            rw [if_pos c39] at H
            have c39b0 : decide (x15_3 < (t689.length : Int)) = true := decide_eq_true c39
            clear c39
            by_cases c40 : 0 ≤ x15_3
            ·as_aux_lemma =>
             rw [if_pos c40] at H
             have c40b0 : decide (0 ≤ x15_3) = true := decide_eq_true c40
             clear c40
             by_cases c41 : x15_3 < (t693.length : Int)
             ·as_aux_lemma =>
              rw [if_pos c41] at H
              have c41b0 : decide (x15_3 < (t693.length : Int)) = true := decide_eq_true c41
              clear c41
              replace H := Option.bind_eq_some_iff.mp H
              obtain ⟨⟨t712, t713, t714, t715⟩, A420, H⟩ := H
              (try dsimp only at H)
              have A42 := Aside0.mk A420
              clear A420
              by_cases c43 : t715 = 0
              ·as_aux_lemma =>
               rw [if_pos c43] at H
               have c43b0 : (t715 == 0) = true := beq_iff_eq.mpr c43
               have c43b1 : (t715 != 0) = false := bne_eq_false_iff_eq.mpr c43
               clear c43
               by_cases c44 : x15_3 < (t706.length : Int)
               ·as_aux_lemma =>
                rw [if_pos c44] at H
                have c44b0 : decide (x15_3 < (t706.length : Int)) = true := decide_eq_true c44
                clear c44
                by_cases c45 : (!(t712 == ((rd_T47 t706 x15_3).f2.f0)) || (!(t713 == ((rd_T47 t706 x15_3).f2.f1)) || (!(t714 == ((rd_T47 t706 x15_3).f2.f2))))) = true
                ·as_aux_lemma =>
                 rw [if_pos c45] at H
                 have c45b0 : (!(t712 == ((rd_T47 t706 x15_3).f2.f0)) || (!(t713 == ((rd_T47 t706 x15_3).f2.f1)) || (!(t714 == ((rd_T47 t706 x15_3).f2.f2))))) = true := c45
                 clear c45
                 exact absurd H (by simp)
                ·as_aux_lemma =>
                 rw [if_neg c45] at H
                 have c45b0 : (!(t712 == ((rd_T47 t706 x15_3).f2.f0)) || (!(t713 == ((rd_T47 t706 x15_3).f2.f1)) || (!(t714 == ((rd_T47 t706 x15_3).f2.f2))))) = false := by simpa using c45
                 clear c45
                 by_cases c46 : ((rd_T47 t689 x15_3).f0) = ((rd_T47 t693 x15_3).f0)
                 ·as_aux_lemma =>
                  rw [if_pos c46] at H
                  have c46b0 : (((rd_T47 t689 x15_3).f0) == ((rd_T47 t693 x15_3).f0)) = true := beq_iff_eq.mpr c46
                  have c46b1 : (((rd_T47 t689 x15_3).f0) != ((rd_T47 t693 x15_3).f0)) = false := bne_eq_false_iff_eq.mpr c46
                  clear c46
                  by_cases c47 : ((rd_T47 t689 x15_3).f0) = ((rd_T47 t706 x15_3).f0)
                  ·as_aux_lemma =>
                   rw [if_pos c47] at H
                   have c47b0 : (((rd_T47 t689 x15_3).f0) == ((rd_T47 t706 x15_3).f0)) = true := beq_iff_eq.mpr c47
                   have c47b1 : (((rd_T47 t689 x15_3).f0) != ((rd_T47 t706 x15_3).f0)) = false := bne_eq_false_iff_eq.mpr c47
                   clear c47
                   by_cases c48 : ((rd_T47 t689 x15_3).f1) = ((rd_T47 t693 x15_3).f1)
                   ·as_aux_lemma =>
                    rw [if_pos c48] at H
                    have c48b0 : (((rd_T47 t689 x15_3).f1) == ((rd_T47 t693 x15_3).f1)) = true := beq_iff_eq.mpr c48
                    have c48b1 : (((rd_T47 t689 x15_3).f1) != ((rd_T47 t693 x15_3).f1)) = false := bne_eq_false_iff_eq.mpr c48
                    clear c48
                    by_cases c49 : ((rd_T47 t689 x15_3).f1) = ((rd_T47 t706 x15_3).f1)
                    ·as_aux_lemma =>
                     rw [if_pos c49] at H
                     have c49b0 : (((rd_T47 t689 x15_3).f1) == ((rd_T47 t706 x15_3).f1)) = true := beq_iff_eq.mpr c49
                     have c49b1 : (((rd_T47 t689 x15_3).f1) != ((rd_T47 t706 x15_3).f1)) = false := bne_eq_false_iff_eq.mpr c49
                     clear c49
                     by_cases c50 : ((rd_T47 t689 x15_3).f0) ≥ ((rd_T47 t689 x15_3).f1)
                     ·as_aux_lemma =>
                      rw [if_pos c50] at H
                      have c50b0 : decide (((rd_T47 t689 x15_3).f1) ≤ ((rd_T47 t689 x15_3).f0)) = true := decide_eq_true c50
                      clear c50
                      exact absurd H (by simp)
                     ·as_aux_lemma =>
                      rw [if_neg c50] at H
                      have c50b0 : decide (((rd_T47 t689 x15_3).f1) ≤ ((rd_T47 t689 x15_3).f0)) = false := decide_eq_false c50
                      clear c50
                      by_cases c51 : ((rd_T47 t689 x15_3).f3) = 1
                      ·as_aux_lemma =>
                       rw [if_pos c51] at H
                       have c51b0 : (((rd_T47 t689 x15_3).f3) == 1) = true := beq_iff_eq.mpr c51
                       have c51b1 : (((rd_T47 t689 x15_3).f3) != 1) = false := bne_eq_false_iff_eq.mpr c51
                       clear c51
                       have H' := Aside0.mk H
                       clear H
                       obtain ⟨Ao52, co52, eo52⟩ := Kd.R_slice HO_8.out
                       subst eo52
                       try go_wp2
                       have n0_ := Aside0.mk (Kd.R_drew HO_8.out)
                       have n1_ := Aside0.mk (Kd.R_drew HO_10.out)
                       have n2_ := Aside0.mk (Kd.R_drew HO_12.out)
                       have n3_ := Aside0.mk (Kd.R_drew HO_13.out)
                       have n4_ := Aside0.mk (below_drew1 HB.out)
                       clear HO_8
                       clear HO_10
                       clear HO_12
                       clear HO_13
                       clear HB
                       have HO_8 := n0_
                       have HO_10 := n1_
                       have HO_12 := n2_
                       have HO_13 := n3_
                       have HB := n4_
                       clear n0_ n1_ n2_ n3_ n4_
                       have p710 : 0 ≤ (x15_3 : Int) := of_decide_eq_true (by first | (with_reducible assumption) | assumption)
                       have q710 : x15_3 < (t689.length : Int) := of_decide_eq_true (by first | (with_reducible assumption) | assumption)
                       obtain ⟨ad710, e710, hx710_0, hx710_1, hx710_2, hx710_3, hx710_4, hx710_5⟩ := at_T47 (Kd.R_reads' HO_8.out).2.2 x15_3 p710 q710
                       cases e710
                       replace p710 := eq_true p710
                       replace q710 := eq_true q710
                       obtain ⟨Ao54, co54, eo54⟩ := Kd.R_slice HO_10.out
                       (first | subst eo54 | (injection eo54 with f1_ f2_ f3_; have f4_ := f1_.symm; have f5_ := f3_.symm; clear f1_ f2_ f3_; subst f4_; subst f5_))
                       have p711 : 0 ≤ (x15_3 : Int) := of_decide_eq_true (by first | (with_reducible assumption) | assumption)
                       have q711 : x15_3 < (t693.length : Int) := of_decide_eq_true (by first | (with_reducible assumption) | assumption)
                       obtain ⟨ad711, e711, hx711_0, hx711_1, hx711_2, hx711_3, hx711_4, hx711_5⟩ := at_T47 (Kd.R_reads' HO_10.out).2.2 x15_3 p711 q711
                       cases e711
                       replace p711 := eq_true p711
                       replace q711 := eq_true q711
                       refine start_ (n := 17) (S := fun w' => w'.cell? (ad710.add ((x15_3).toNat * 6)) = some (.int .i64 ((rd_T47 t689 x15_3).f0)) ∧ w'.cell? ⟨(ad710.add ((x15_3).toNat * 6)).block, (ad710.add ((x15_3).toNat * 6)).off + 1, none⟩ = some (.int .i64 ((rd_T47 t689 x15_3).f1)) ∧ w'.cell? ⟨(ad710.add ((x15_3).toNat * 6)).block, (ad710.add ((x15_3).toNat * 6)).off + 2, none⟩ = some (.int .i64 ((rd_T47 t689 x15_3).f2.f0)) ∧ w'.cell? ⟨(ad710.add ((x15_3).toNat * 6)).block, (ad710.add ((x15_3).toNat * 6)).off + 3, none⟩ = some (.int .i64 ((rd_T47 t689 x15_3).f2.f1)) ∧ w'.cell? ⟨(ad710.add ((x15_3).toNat * 6)).block, (ad710.add ((x15_3).toNat * 6)).off + 4, none⟩ = some (.int .i64 ((rd_T47 t689 x15_3).f2.f2)) ∧ w'.cell? ⟨(ad710.add ((x15_3).toNat * 6)).block, (ad710.add ((x15_3).toNat * 6)).off + 5, none⟩ = some (.int .i64 ((rd_T47 t689 x15_3).f3)) ∧ w'.cell? (ad711.add ((x15_3).toNat * 6)) = some (.int .i64 ((rd_T47 t693 x15_3).f0)) ∧ w'.cell? ⟨(ad711.add ((x15_3).toNat * 6)).block, (ad711.add ((x15_3).toNat * 6)).off + 1, none⟩ = some (.int .i64 ((rd_T47 t693 x15_3).f1)) ∧ w'.cell? ⟨(ad711.add ((x15_3).toNat * 6)).block, (ad711.add ((x15_3).toNat * 6)).off + 2, none⟩ = some (.int .i64 ((rd_T47 t693 x15_3).f2.f0)) ∧ w'.cell? ⟨(ad711.add ((x15_3).toNat * 6)).block, (ad711.add ((x15_3).toNat * 6)).off + 3, none⟩ = some (.int .i64 ((rd_T47 t693 x15_3).f2.f1)) ∧ w'.cell? ⟨(ad711.add ((x15_3).toNat * 6)).block, (ad711.add ((x15_3).toNat * 6)).off + 4, none⟩ = some (.int .i64 ((rd_T47 t693 x15_3).f2.f2)) ∧ w'.cell? ⟨(ad711.add ((x15_3).toNat * 6)).block, (ad711.add ((x15_3).toNat * 6)).off + 5, none⟩ = some (.int .i64 ((rd_T47 t693 x15_3).f3))) (ds := []) #[false, false, false, false, false, false, false, false, false, false, false, false, false, false, false, false, false] (by kernel_rfl) rfl rfl ⟨hx710_0, hx710_1, hx710_2, hx710_3, hx710_4, hx710_5, hx711_0, hx711_1, hx711_2, hx711_3, hx711_4, hx711_5⟩ (fun hHeld => ?_); refine with_tabW fringelaw41_SkyAdds.tab13 fringelaw41_SkyAdds.bits13 (fun HT_ HW_ => ?_)
                       generalize wr.drew = w53 at HO_8 HO_10 HO_12 HO_13 HB hx710_0 hx710_1 hx710_2 hx710_3 hx710_4 hx710_5 hx711_0 hx711_1 hx711_2 hx711_3 hx711_4 hx711_5 hHeld ⊢
                       refine pure_ (i := 0) (N := some 114) (v := ?_) (a' := ?_) #[true, false, false, false, false, false, false, false, false, false, false, false, false, false, false, false, false] rfl rfl (any_of HT_.out (by kernel_rfl)) (fun _ _ _ h => h) (Or.inl ⟨by rfl, ?_⟩) ?_ ?_
                       rotate_left
                       ·as_aux_lemma =>
                        intro w'
                        go_simp
                        with_reducible rfl
                       rotate_left
                       ·as_aux_lemma =>
                        simp only [Act.put, List.setIfInBounds_toArray, List.set_cons_zero, List.set_cons_succ, i64_w, i32_w]
                        rfl
                       refine pure_ (i := 1) (N := some 115) (v := ?_) (a' := ?_) #[true, true, false, false, false, false, false, false, false, false, false, false, false, false, false, false, false] rfl rfl (any_of HT_.out (by kernel_rfl)) (fun _ _ _ h => h) (Or.inl ⟨by rfl, ?_⟩) ?_ ?_
                       rotate_left
                       ·as_aux_lemma =>
                        intro w'
                        go_simp
                        with_reducible rfl
                       rotate_left
                       ·as_aux_lemma =>
                        simp only [Act.put, List.setIfInBounds_toArray, List.set_cons_zero, List.set_cons_succ, i64_w, i32_w]
                        rfl
                       refine pure_ (i := 2) (N := some 116) (v := ?_) (a' := ?_) #[true, true, true, false, false, false, false, false, false, false, false, false, false, false, false, false, false] rfl rfl (any_of HT_.out (by kernel_rfl)) (fun _ _ _ h => h) (Or.inl ⟨by rfl, ?_⟩) ?_ ?_
                       rotate_left
                       ·as_aux_lemma =>
                        intro w'
                        go_simp
                        with_reducible rfl
                       rotate_left
                       ·as_aux_lemma =>
                        simp only [Act.put, List.setIfInBounds_toArray, List.set_cons_zero, List.set_cons_succ, i64_w, i32_w]
                        rfl
                       refine pure_ (i := 3) (N := some 117) (v := ?_) (a' := ?_) #[true, true, true, true, false, false, false, false, false, false, false, false, false, false, false, false, false] rfl rfl (any_of HT_.out (by kernel_rfl)) (fun _ _ _ h => h) (Or.inl ⟨by rfl, ?_⟩) ?_ ?_
                       rotate_left
                       ·as_aux_lemma =>
                        intro w'
                        go_simp
                        with_reducible rfl
                       rotate_left
                       ·as_aux_lemma =>
                        simp only [Act.put, List.setIfInBounds_toArray, List.set_cons_zero, List.set_cons_succ, i64_w, i32_w]
                        rfl
                       refine pure_ (i := 5) (N := some 119) (v := ?_) (a' := ?_) #[true, true, true, true, false, true, false, false, false, false, false, false, false, false, false, false, false] rfl rfl (any_of HT_.out (by kernel_rfl)) (fun _ _ _ h => h) (Or.inl ⟨by rfl, ?_⟩) ?_ ?_
                       rotate_left
                       ·as_aux_lemma =>
                        intro w'
                        go_simp
                        with_reducible rfl
                       rotate_left
                       ·as_aux_lemma =>
                        simp only [Act.put, List.setIfInBounds_toArray, List.set_cons_zero, List.set_cons_succ, i64_w, i32_w]
                        rfl
                       refine pure_ (i := 6) (N := some 120) (v := ?_) (a' := ?_) #[true, true, true, true, false, true, true, false, false, false, false, false, false, false, false, false, false] rfl rfl (any_of HT_.out (by kernel_rfl)) (fun _ _ _ h => h) (Or.inl ⟨by rfl, ?_⟩) ?_ ?_
                       rotate_left
                       ·as_aux_lemma =>
                        intro w'
                        go_simp
                        with_reducible rfl
                       rotate_left
                       ·as_aux_lemma =>
                        simp only [Act.put, List.setIfInBounds_toArray, List.set_cons_zero, List.set_cons_succ, i64_w, i32_w]
                        rfl
                       refine pure_ (i := 7) (N := some 121) (v := ?_) (a' := ?_) #[true, true, true, true, false, true, true, true, false, false, false, false, false, false, false, false, false] rfl rfl (any_of HT_.out (by kernel_rfl)) (fun _ _ _ h => h) (Or.inl ⟨by rfl, ?_⟩) ?_ ?_
                       rotate_left
                       ·as_aux_lemma =>
                        intro w'
                        go_simp
                        with_reducible rfl
                       rotate_left
                       ·as_aux_lemma =>
                        simp only [Act.put, List.setIfInBounds_toArray, List.set_cons_zero, List.set_cons_succ, i64_w, i32_w]
                        rfl
                       refine pure_ (i := 8) (N := some 122) (v := ?_) (a' := ?_) #[true, true, true, true, false, true, true, true, true, false, false, false, false, false, false, false, false] rfl rfl (any_of HT_.out (by kernel_rfl)) (fun _ _ _ h => h) (Or.inl ⟨by rfl, ?_⟩) ?_ ?_
                       rotate_left
                       ·as_aux_lemma =>
                        intro w'
                        go_simp
                        with_reducible rfl
                       rotate_left
                       ·as_aux_lemma =>
                        simp only [Act.put, List.setIfInBounds_toArray, List.set_cons_zero, List.set_cons_succ, i64_w, i32_w]
                        rfl
                       refine take_ (i := 4) (N := some 118) (v := ?_) (a' := ?_) #[true, true, true, true, true, true, true, true, true, false, false, false, false, false, false, false, false] rfl rfl (take_ofW HT_.out HW_.out (by kernel_rfl)) (fun _ _ _ h => h) (Or.inl ⟨by rfl, ?_⟩) hHeld ?_ ?_
                       rotate_left
                       ·as_aux_lemma =>
                        rintro w' ⟨s0, s1, s2, s3, s4, s5, s6, s7, s8, s9, s10, s11⟩
                        go_simp
                        with_reducible rfl
                       rotate_left
                       ·as_aux_lemma =>
                        simp only [Act.put, List.setIfInBounds_toArray, List.set_cons_zero, List.set_cons_succ, i64_w, i32_w]
                        rfl
                       refine take_ (i := 9) (N := some 123) (v := ?_) (a' := ?_) #[true, true, true, true, true, true, true, true, true, true, false, false, false, false, false, false, false] rfl rfl (take_ofW HT_.out HW_.out (by kernel_rfl)) (fun _ _ _ h => h) (Or.inl ⟨by rfl, ?_⟩) hHeld ?_ ?_
                       rotate_left
                       ·as_aux_lemma =>
                        rintro w' ⟨s0, s1, s2, s3, s4, s5, s6, s7, s8, s9, s10, s11⟩
                        go_simp
                        with_reducible rfl
                       rotate_left
                       ·as_aux_lemma =>
                        simp only [Act.put, List.setIfInBounds_toArray, List.set_cons_zero, List.set_cons_succ, i64_w, i32_w]
                        rfl
                       refine join_ (σ := Nat) 2 #[true, true, true, true, true, true, true, true, true, true, true, true, true, true, true, false, false] (fun s_ => [(124, .tuple #[.agg #[.int .i64 t712, .int .i64 t713, .int .i64 t714], .int .i64 t715]), (16, .pointer (some ⟨s_, 0, none⟩)), (113, .tuple #[.agg #[.int .i64 t712, .int .i64 t713, .int .i64 t714], .int .i64 t715]), (125, .agg #[.int .i64 t712, .int .i64 t713, .int .i64 t714]), (126, .int .i64 t715)]) (fun s_ w' => (w'.cell? (ad710.add ((x15_3).toNat * 6)) = some (.int .i64 ((rd_T47 t689 x15_3).f0)) ∧ w'.cell? ⟨(ad710.add ((x15_3).toNat * 6)).block, (ad710.add ((x15_3).toNat * 6)).off + 1, none⟩ = some (.int .i64 ((rd_T47 t689 x15_3).f1)) ∧ w'.cell? ⟨(ad710.add ((x15_3).toNat * 6)).block, (ad710.add ((x15_3).toNat * 6)).off + 2, none⟩ = some (.int .i64 ((rd_T47 t689 x15_3).f2.f0)) ∧ w'.cell? ⟨(ad710.add ((x15_3).toNat * 6)).block, (ad710.add ((x15_3).toNat * 6)).off + 3, none⟩ = some (.int .i64 ((rd_T47 t689 x15_3).f2.f1)) ∧ w'.cell? ⟨(ad710.add ((x15_3).toNat * 6)).block, (ad710.add ((x15_3).toNat * 6)).off + 4, none⟩ = some (.int .i64 ((rd_T47 t689 x15_3).f2.f2)) ∧ w'.cell? ⟨(ad710.add ((x15_3).toNat * 6)).block, (ad710.add ((x15_3).toNat * 6)).off + 5, none⟩ = some (.int .i64 ((rd_T47 t689 x15_3).f3)) ∧ w'.cell? (ad711.add ((x15_3).toNat * 6)) = some (.int .i64 ((rd_T47 t693 x15_3).f0)) ∧ w'.cell? ⟨(ad711.add ((x15_3).toNat * 6)).block, (ad711.add ((x15_3).toNat * 6)).off + 1, none⟩ = some (.int .i64 ((rd_T47 t693 x15_3).f1)) ∧ w'.cell? ⟨(ad711.add ((x15_3).toNat * 6)).block, (ad711.add ((x15_3).toNat * 6)).off + 2, none⟩ = some (.int .i64 ((rd_T47 t693 x15_3).f2.f0)) ∧ w'.cell? ⟨(ad711.add ((x15_3).toNat * 6)).block, (ad711.add ((x15_3).toNat * 6)).off + 3, none⟩ = some (.int .i64 ((rd_T47 t693 x15_3).f2.f1)) ∧ w'.cell? ⟨(ad711.add ((x15_3).toNat * 6)).block, (ad711.add ((x15_3).toNat * 6)).off + 4, none⟩ = some (.int .i64 ((rd_T47 t693 x15_3).f2.f2)) ∧ w'.cell? ⟨(ad711.add ((x15_3).toNat * 6)).block, (ad711.add ((x15_3).toNat * 6)).off + 5, none⟩ = some (.int .i64 ((rd_T47 t693 x15_3).f3))) ∧ (Kd.R k47 47 w' w.heap.size (fun k_ => some k_ ≠ (v708 : Value).ownBlock ∧ some k_ ≠ (.slice (some ad710) t689.length co52 : Value).ownBlock) (.slice (some ad711) t693.length co54) t693) ∧ (Kd.R k33 33 w' w.heap.size (fun _ => True) (.slice Ao25 y703.length co25) y703) ∧ (Kd.R k47 47 w' w.heap.size (fun k_ => some k_ ≠ (.slice (some ad711) t693.length co54 : Value).ownBlock ∧ some k_ ≠ (.slice (some ad710) t689.length co52 : Value).ownBlock) v708 t706) ∧ (Kd.R k47 47 w' w.heap.size (fun k_ => some k_ ≠ (.slice (some ad711) t693.length co54 : Value).ownBlock ∧ some k_ ≠ (v708 : Value).ownBlock) (.slice (some ad710) t689.length co52) t689) ∧ (w'.heap[s_]? = some (.cells #[.int .i64 0, .int .i64 0, .int .i64 0] 45 (0, 0))) ∧ (w.heap.size ≤ s_) ∧ (w.heap.size ≤ s_) ∧ (Below w.heap.size w w')) ?_ ?_
                       rotate_left
                       ·as_aux_lemma =>
                        intro hCont
                        refine two_ (i := 10) (j := 14) (Ni := some 124) (Nj := some 16) #[true, true, true, true, true, true, true, true, true, true, true, false, false, false, false, false, false] #[true, true, true, true, true, true, true, true, true, true, false, false, false, false, true, false, false] rfl rfl rfl rfl (two_of HT_.out (by kernel_rfl)) (by decide) (by decide) (fun K hK => ?_) (fun K hK => ?_)
                        ·as_aux_lemma =>
                         skip
                         refine goes_ Try.func33 (by kernel_rfl) rfl #[.agg #[.int .i64 ((rd_T47 t689 x15_3).f2.f0), .int .i64 ((rd_T47 t689 x15_3).f2.f1), .int .i64 ((rd_T47 t689 x15_3).f2.f2)], .agg #[.int .i64 ((rd_T47 t693 x15_3).f2.f0), .int .i64 ((rd_T47 t693 x15_3).f2.f1), .int .i64 ((rd_T47 t693 x15_3).f2.f2)]] (by rfl) rfl rfl (by (try simp only [List.map_toArray, List.map_cons, List.map_nil]); first | done | rfl | (simp only [List.length_drop, List.length_take]; rfl)) ?_
                         with_reducible refine (cx_Add.calls k3 ((rd_T47 t689 x15_3).f2.f0) ((rd_T47 t689 x15_3).f2.f1) ((rd_T47 t689 x15_3).f2.f2) ((rd_T47 t693 x15_3).f2.f0) ((rd_T47 t693 x15_3).f2.f1) ((rd_T47 t693 x15_3).f2.f2) t712 t713 t714 t715 _ A42.out).mono ?_
                         rintro e w55 ⟨rfl, hb⟩
                         have HS0_ := (hb.cell (World.block_lt_of_cell? _ _ (hHeld.1))).trans (hHeld.1)
                         have HS1_ := (hb.cell (World.block_lt_of_cell? _ _ (hHeld.2.1))).trans (hHeld.2.1)
                         have HS2_ := (hb.cell (World.block_lt_of_cell? _ _ (hHeld.2.2.1))).trans (hHeld.2.2.1)
                         have HS3_ := (hb.cell (World.block_lt_of_cell? _ _ (hHeld.2.2.2.1))).trans (hHeld.2.2.2.1)
                         have HS4_ := (hb.cell (World.block_lt_of_cell? _ _ (hHeld.2.2.2.2.1))).trans (hHeld.2.2.2.2.1)
                         have HS5_ := (hb.cell (World.block_lt_of_cell? _ _ (hHeld.2.2.2.2.2.1))).trans (hHeld.2.2.2.2.2.1)
                         have HS6_ := (hb.cell (World.block_lt_of_cell? _ _ (hHeld.2.2.2.2.2.2.1))).trans (hHeld.2.2.2.2.2.2.1)
                         have HS7_ := (hb.cell (World.block_lt_of_cell? _ _ (hHeld.2.2.2.2.2.2.2.1))).trans (hHeld.2.2.2.2.2.2.2.1)
                         have HS8_ := (hb.cell (World.block_lt_of_cell? _ _ (hHeld.2.2.2.2.2.2.2.2.1))).trans (hHeld.2.2.2.2.2.2.2.2.1)
                         have HS9_ := (hb.cell (World.block_lt_of_cell? _ _ (hHeld.2.2.2.2.2.2.2.2.2.1))).trans (hHeld.2.2.2.2.2.2.2.2.2.1)
                         have HS10_ := (hb.cell (World.block_lt_of_cell? _ _ (hHeld.2.2.2.2.2.2.2.2.2.2.1))).trans (hHeld.2.2.2.2.2.2.2.2.2.2.1)
                         have HS11_ := (hb.cell (World.block_lt_of_cell? _ _ (hHeld.2.2.2.2.2.2.2.2.2.2.2))).trans (hHeld.2.2.2.2.2.2.2.2.2.2.2)
                         refine ⟨_, rfl, ?_⟩
                         have n0_ := Aside0.mk (Kd.R_below (by (with_reducible repeat (first | apply Kd.R_alloc | apply Kd.R_drewN | apply Kd.R_drew)); exact HO_8.out) hb)
                         have n1_ := Aside0.mk (Kd.R_below (by (with_reducible repeat (first | apply Kd.R_alloc | apply Kd.R_drewN | apply Kd.R_drew)); exact HO_10.out) hb)
                         have n2_ := Aside0.mk (Kd.R_below (by (with_reducible repeat (first | apply Kd.R_alloc | apply Kd.R_drewN | apply Kd.R_drew)); exact HO_12.out) hb)
                         have n3_ := Aside0.mk (Kd.R_below (by (with_reducible repeat (first | apply Kd.R_alloc | apply Kd.R_drewN | apply Kd.R_drew)); exact HO_13.out) hb)
                         have n4_ := Aside0.mk (below_step (by repeat (first | (with_reducible first | exact HB.out | apply below_alloc | apply pw_below_drewN | apply below_drew1) | exact HB.out)) hb)
                         clear HO_8
                         clear HO_10
                         clear HO_12
                         clear HO_13
                         clear HB
                         have HO_8 := n0_
                         have HO_10 := n1_
                         have HO_12 := n2_
                         have HO_13 := n3_
                         have HB := n4_
                         clear n0_ n1_ n2_ n3_ n4_
                         (try clear hb)
                         (try clear hb2)
                         (try clear hk)
                         (try clear hi)
                         refine hK.out _ _ ⟨HS0_, HS1_, HS2_, HS3_, HS4_, HS5_, HS6_, HS7_, HS8_, HS9_, HS10_, HS11_⟩ (fun hHeld => ?_)
                         clear hK K
                         refine norm_ (a' := ?_) ?_ ?_
                         rotate_left
                         ·as_aux_lemma =>
                          show Act.put _ (some 124) _ = _
                          simp only [Act.put, List.setIfInBounds_toArray, List.set_cons_zero, List.set_cons_succ, i64_w, i32_w]
                          rfl
                         refine pure_ (i := 11) (N := some 113) (v := ?_) (a' := ?_) #[true, true, true, true, true, true, true, true, true, true, true, true, false, false, false, false, false] rfl rfl (any_of HT_.out (by kernel_rfl)) (fun _ _ _ h => h) (Or.inl ⟨by rfl, ?_⟩) ?_ ?_
                         rotate_left
                         ·as_aux_lemma =>
                          intro w'
                          go_simp
                          with_reducible rfl
                         rotate_left
                         ·as_aux_lemma =>
                          simp only [Act.put, List.setIfInBounds_toArray, List.set_cons_zero, List.set_cons_succ, i64_w, i32_w]
                          rfl
                         refine pure_ (i := 12) (N := some 125) (v := ?_) (a' := ?_) #[true, true, true, true, true, true, true, true, true, true, true, true, true, false, false, false, false] rfl rfl (any_of HT_.out (by kernel_rfl)) (fun _ _ _ h => h) (Or.inl ⟨by rfl, ?_⟩) ?_ ?_
                         rotate_left
                         ·as_aux_lemma =>
                          intro w'
                          go_simp
                          with_reducible rfl
                         rotate_left
                         ·as_aux_lemma =>
                          simp only [Act.put, List.setIfInBounds_toArray, List.set_cons_zero, List.set_cons_succ, i64_w, i32_w]
                          rfl
                         refine pure_ (i := 13) (N := some 126) (v := ?_) (a' := ?_) #[true, true, true, true, true, true, true, true, true, true, true, true, true, true, false, false, false] rfl rfl (any_of HT_.out (by kernel_rfl)) (fun _ _ _ h => h) (Or.inl ⟨by rfl, ?_⟩) ?_ ?_
                         rotate_left
                         ·as_aux_lemma =>
                          intro w'
                          go_simp
                          with_reducible rfl
                         rotate_left
                         ·as_aux_lemma =>
                          simp only [Act.put, List.setIfInBounds_toArray, List.set_cons_zero, List.set_cons_succ, i64_w, i32_w]
                          rfl
                         refine one_ (i := 14) (N := some 16) #[true, true, true, true, true, true, true, true, true, true, true, true, true, true, true, false, false] rfl rfl (one_of HT_.out (by kernel_rfl)) (by decide) (fun K hK => ?_)
                         refine box_step ?hg (N := 16) ?hd (cs := #[.int .i64 0, .int .i64 0, .int .i64 0]) (t := 45) ?hr ?_; (case hd => rfl); (case hg => rfl); (case hr => first | (go_simp; done) | (go_simp; rfl))
                         intro gb716 hg w56 hbox hb
                         have HS0_ := (hb.cell (World.block_lt_of_cell? _ _ (hHeld.1))).trans (hHeld.1)
                         have HS1_ := (hb.cell (World.block_lt_of_cell? _ _ (hHeld.2.1))).trans (hHeld.2.1)
                         have HS2_ := (hb.cell (World.block_lt_of_cell? _ _ (hHeld.2.2.1))).trans (hHeld.2.2.1)
                         have HS3_ := (hb.cell (World.block_lt_of_cell? _ _ (hHeld.2.2.2.1))).trans (hHeld.2.2.2.1)
                         have HS4_ := (hb.cell (World.block_lt_of_cell? _ _ (hHeld.2.2.2.2.1))).trans (hHeld.2.2.2.2.1)
                         have HS5_ := (hb.cell (World.block_lt_of_cell? _ _ (hHeld.2.2.2.2.2.1))).trans (hHeld.2.2.2.2.2.1)
                         have HS6_ := (hb.cell (World.block_lt_of_cell? _ _ (hHeld.2.2.2.2.2.2.1))).trans (hHeld.2.2.2.2.2.2.1)
                         have HS7_ := (hb.cell (World.block_lt_of_cell? _ _ (hHeld.2.2.2.2.2.2.2.1))).trans (hHeld.2.2.2.2.2.2.2.1)
                         have HS8_ := (hb.cell (World.block_lt_of_cell? _ _ (hHeld.2.2.2.2.2.2.2.2.1))).trans (hHeld.2.2.2.2.2.2.2.2.1)
                         have HS9_ := (hb.cell (World.block_lt_of_cell? _ _ (hHeld.2.2.2.2.2.2.2.2.2.1))).trans (hHeld.2.2.2.2.2.2.2.2.2.1)
                         have HS10_ := (hb.cell (World.block_lt_of_cell? _ _ (hHeld.2.2.2.2.2.2.2.2.2.2.1))).trans (hHeld.2.2.2.2.2.2.2.2.2.2.1)
                         have HS11_ := (hb.cell (World.block_lt_of_cell? _ _ (hHeld.2.2.2.2.2.2.2.2.2.2.2))).trans (hHeld.2.2.2.2.2.2.2.2.2.2.2)
                         have n0_ := Aside0.mk (Kd.R_below (by (with_reducible repeat (first | apply Kd.R_alloc | apply Kd.R_drewN | apply Kd.R_drew)); exact HO_8.out) hb)
                         have n1_ := Aside0.mk (Kd.R_below (by (with_reducible repeat (first | apply Kd.R_alloc | apply Kd.R_drewN | apply Kd.R_drew)); exact HO_10.out) hb)
                         have n2_ := Aside0.mk (Kd.R_below (by (with_reducible repeat (first | apply Kd.R_alloc | apply Kd.R_drewN | apply Kd.R_drew)); exact HO_12.out) hb)
                         have n3_ := Aside0.mk (Kd.R_below (by (with_reducible repeat (first | apply Kd.R_alloc | apply Kd.R_drewN | apply Kd.R_drew)); exact HO_13.out) hb)
                         have n4_ := Aside0.mk (below_step (by repeat (first | (with_reducible first | exact HB.out | apply below_alloc | apply pw_below_drewN | apply below_drew1) | exact HB.out)) hb)
                         have n5_ := Aside0.mk (hbox)
                         have n6_ := Aside0.mk ((by rw [hg]; exact (below_size (by repeat (first | (with_reducible first | exact HB.out | apply below_alloc | apply pw_below_drewN | apply below_drew1) | exact HB.out))) : w.heap.size ≤ gb716))
                         have n7_ := Aside0.mk ((by rw [hg]; exact (below_size (by repeat (first | (with_reducible first | exact HB.out | apply below_alloc | apply pw_below_drewN | apply below_drew1) | exact HB.out))) : w.heap.size ≤ gb716))
                         clear HO_8
                         clear HO_10
                         clear HO_12
                         clear HO_13
                         clear HB
                         have HO_8 := n0_
                         have HO_10 := n1_
                         have HO_12 := n2_
                         have HO_13 := n3_
                         have HB := n4_
                         have BK716 := n5_
                         have GW716 := n6_
                         have GE716 := n7_
                         clear n0_ n1_ n2_ n3_ n4_ n5_ n6_ n7_
                         clear hb hbox hg
                         refine hK.out _ _ ⟨HS0_, HS1_, HS2_, HS3_, HS4_, HS5_, HS6_, HS7_, HS8_, HS9_, HS10_, HS11_⟩ (fun hHeld => ?_)
                         clear hK K
                         refine norm_ (a' := ?_) ?_ ?_
                         rotate_left
                         ·as_aux_lemma =>
                          show Act.put _ (some 16) _ = _
                          simp only [Act.put, List.setIfInBounds_toArray, List.set_cons_zero, List.set_cons_succ, i64_w, i32_w]
                          rfl
                         exact norm_ (by simp only [putAll, Act.put, List.setIfInBounds_toArray, List.set_cons_zero, List.set_cons_succ]) (hCont (gb716) _ ⟨hHeld, (by (with_reducible repeat (first | apply Kd.R_alloc | apply Kd.R_drewN | apply Kd.R_drew)); exact Kd.R_mono HO_10.out (fun _ hk => ⟨hk.2, hk.1⟩)), (by (with_reducible repeat (first | apply Kd.R_alloc | apply Kd.R_drewN | apply Kd.R_drew)); exact HO_12.out), (by (with_reducible repeat (first | apply Kd.R_alloc | apply Kd.R_drewN | apply Kd.R_drew)); exact Kd.R_mono HO_13.out (fun _ hk => ⟨hk.2, hk.1⟩)), (by (with_reducible repeat (first | apply Kd.R_alloc | apply Kd.R_drewN | apply Kd.R_drew)); exact HO_8.out), (by (with_reducible repeat (first | refine blk_drewN ?_ _ | refine blk_drew ?_ | refine blk_alloc ?_ _)); exact BK716.out), GW716.out, GE716.out, (by repeat (first | (with_reducible first | exact HB.out | apply below_alloc | apply pw_below_drewN | apply below_drew1 | refine below_set ?_ GE716.out) | exact HB.out))⟩)
                        ·as_aux_lemma =>
                         skip
                         refine box_step ?hg (N := 16) ?hd (cs := #[.int .i64 0, .int .i64 0, .int .i64 0]) (t := 45) ?hr ?_; (case hd => rfl); (case hg => rfl); (case hr => first | (go_simp; done) | (go_simp; rfl))
                         intro gb716 hg w55 hbox hb
                         have HS0_ := (hb.cell (World.block_lt_of_cell? _ _ (hHeld.1))).trans (hHeld.1)
                         have HS1_ := (hb.cell (World.block_lt_of_cell? _ _ (hHeld.2.1))).trans (hHeld.2.1)
                         have HS2_ := (hb.cell (World.block_lt_of_cell? _ _ (hHeld.2.2.1))).trans (hHeld.2.2.1)
                         have HS3_ := (hb.cell (World.block_lt_of_cell? _ _ (hHeld.2.2.2.1))).trans (hHeld.2.2.2.1)
                         have HS4_ := (hb.cell (World.block_lt_of_cell? _ _ (hHeld.2.2.2.2.1))).trans (hHeld.2.2.2.2.1)
                         have HS5_ := (hb.cell (World.block_lt_of_cell? _ _ (hHeld.2.2.2.2.2.1))).trans (hHeld.2.2.2.2.2.1)
                         have HS6_ := (hb.cell (World.block_lt_of_cell? _ _ (hHeld.2.2.2.2.2.2.1))).trans (hHeld.2.2.2.2.2.2.1)
                         have HS7_ := (hb.cell (World.block_lt_of_cell? _ _ (hHeld.2.2.2.2.2.2.2.1))).trans (hHeld.2.2.2.2.2.2.2.1)
                         have HS8_ := (hb.cell (World.block_lt_of_cell? _ _ (hHeld.2.2.2.2.2.2.2.2.1))).trans (hHeld.2.2.2.2.2.2.2.2.1)
                         have HS9_ := (hb.cell (World.block_lt_of_cell? _ _ (hHeld.2.2.2.2.2.2.2.2.2.1))).trans (hHeld.2.2.2.2.2.2.2.2.2.1)
                         have HS10_ := (hb.cell (World.block_lt_of_cell? _ _ (hHeld.2.2.2.2.2.2.2.2.2.2.1))).trans (hHeld.2.2.2.2.2.2.2.2.2.2.1)
                         have HS11_ := (hb.cell (World.block_lt_of_cell? _ _ (hHeld.2.2.2.2.2.2.2.2.2.2.2))).trans (hHeld.2.2.2.2.2.2.2.2.2.2.2)
                         have n0_ := Aside0.mk (Kd.R_below (by (with_reducible repeat (first | apply Kd.R_alloc | apply Kd.R_drewN | apply Kd.R_drew)); exact HO_8.out) hb)
                         have n1_ := Aside0.mk (Kd.R_below (by (with_reducible repeat (first | apply Kd.R_alloc | apply Kd.R_drewN | apply Kd.R_drew)); exact HO_10.out) hb)
                         have n2_ := Aside0.mk (Kd.R_below (by (with_reducible repeat (first | apply Kd.R_alloc | apply Kd.R_drewN | apply Kd.R_drew)); exact HO_12.out) hb)
                         have n3_ := Aside0.mk (Kd.R_below (by (with_reducible repeat (first | apply Kd.R_alloc | apply Kd.R_drewN | apply Kd.R_drew)); exact HO_13.out) hb)
                         have n4_ := Aside0.mk (below_step (by repeat (first | (with_reducible first | exact HB.out | apply below_alloc | apply pw_below_drewN | apply below_drew1) | exact HB.out)) hb)
                         have n5_ := Aside0.mk (hbox)
                         have n6_ := Aside0.mk ((by rw [hg]; exact (below_size (by repeat (first | (with_reducible first | exact HB.out | apply below_alloc | apply pw_below_drewN | apply below_drew1) | exact HB.out))) : w.heap.size ≤ gb716))
                         have n7_ := Aside0.mk ((by rw [hg]; exact (below_size (by repeat (first | (with_reducible first | exact HB.out | apply below_alloc | apply pw_below_drewN | apply below_drew1) | exact HB.out))) : w.heap.size ≤ gb716))
                         clear HO_8
                         clear HO_10
                         clear HO_12
                         clear HO_13
                         clear HB
                         have HO_8 := n0_
                         have HO_10 := n1_
                         have HO_12 := n2_
                         have HO_13 := n3_
                         have HB := n4_
                         have BK716 := n5_
                         have GW716 := n6_
                         have GE716 := n7_
                         clear n0_ n1_ n2_ n3_ n4_ n5_ n6_ n7_
                         clear hb hbox hg
                         refine hK.out _ _ ⟨HS0_, HS1_, HS2_, HS3_, HS4_, HS5_, HS6_, HS7_, HS8_, HS9_, HS10_, HS11_⟩ (fun hHeld => ?_)
                         clear hK K
                         refine norm_ (a' := ?_) ?_ ?_
                         rotate_left
                         ·as_aux_lemma =>
                          show Act.put _ (some 16) _ = _
                          simp only [Act.put, List.setIfInBounds_toArray, List.set_cons_zero, List.set_cons_succ, i64_w, i32_w]
                          rfl
                         refine one_ (i := 10) (N := some 124) #[true, true, true, true, true, true, true, true, true, true, true, false, false, false, true, false, false] rfl rfl (one_of HT_.out (by kernel_rfl)) (by decide) (fun K hK => ?_)
                         refine goes_ Try.func33 (by kernel_rfl) rfl #[.agg #[.int .i64 ((rd_T47 t689 x15_3).f2.f0), .int .i64 ((rd_T47 t689 x15_3).f2.f1), .int .i64 ((rd_T47 t689 x15_3).f2.f2)], .agg #[.int .i64 ((rd_T47 t693 x15_3).f2.f0), .int .i64 ((rd_T47 t693 x15_3).f2.f1), .int .i64 ((rd_T47 t693 x15_3).f2.f2)]] (by rfl) rfl rfl (by (try simp only [List.map_toArray, List.map_cons, List.map_nil]); first | done | rfl | (simp only [List.length_drop, List.length_take]; rfl)) ?_
                         with_reducible refine (cx_Add.calls k3 ((rd_T47 t689 x15_3).f2.f0) ((rd_T47 t689 x15_3).f2.f1) ((rd_T47 t689 x15_3).f2.f2) ((rd_T47 t693 x15_3).f2.f0) ((rd_T47 t693 x15_3).f2.f1) ((rd_T47 t693 x15_3).f2.f2) t712 t713 t714 t715 _ A42.out).mono ?_
                         rintro e w56 ⟨rfl, hb⟩
                         have HS0_ := (hb.cell (World.block_lt_of_cell? _ _ (hHeld.1))).trans (hHeld.1)
                         have HS1_ := (hb.cell (World.block_lt_of_cell? _ _ (hHeld.2.1))).trans (hHeld.2.1)
                         have HS2_ := (hb.cell (World.block_lt_of_cell? _ _ (hHeld.2.2.1))).trans (hHeld.2.2.1)
                         have HS3_ := (hb.cell (World.block_lt_of_cell? _ _ (hHeld.2.2.2.1))).trans (hHeld.2.2.2.1)
                         have HS4_ := (hb.cell (World.block_lt_of_cell? _ _ (hHeld.2.2.2.2.1))).trans (hHeld.2.2.2.2.1)
                         have HS5_ := (hb.cell (World.block_lt_of_cell? _ _ (hHeld.2.2.2.2.2.1))).trans (hHeld.2.2.2.2.2.1)
                         have HS6_ := (hb.cell (World.block_lt_of_cell? _ _ (hHeld.2.2.2.2.2.2.1))).trans (hHeld.2.2.2.2.2.2.1)
                         have HS7_ := (hb.cell (World.block_lt_of_cell? _ _ (hHeld.2.2.2.2.2.2.2.1))).trans (hHeld.2.2.2.2.2.2.2.1)
                         have HS8_ := (hb.cell (World.block_lt_of_cell? _ _ (hHeld.2.2.2.2.2.2.2.2.1))).trans (hHeld.2.2.2.2.2.2.2.2.1)
                         have HS9_ := (hb.cell (World.block_lt_of_cell? _ _ (hHeld.2.2.2.2.2.2.2.2.2.1))).trans (hHeld.2.2.2.2.2.2.2.2.2.1)
                         have HS10_ := (hb.cell (World.block_lt_of_cell? _ _ (hHeld.2.2.2.2.2.2.2.2.2.2.1))).trans (hHeld.2.2.2.2.2.2.2.2.2.2.1)
                         have HS11_ := (hb.cell (World.block_lt_of_cell? _ _ (hHeld.2.2.2.2.2.2.2.2.2.2.2))).trans (hHeld.2.2.2.2.2.2.2.2.2.2.2)
                         refine ⟨_, rfl, ?_⟩
                         have n0_ := Aside0.mk (Kd.R_below (by (with_reducible repeat (first | apply Kd.R_alloc | apply Kd.R_drewN | apply Kd.R_drew)); exact HO_8.out) hb)
                         have n1_ := Aside0.mk (Kd.R_below (by (with_reducible repeat (first | apply Kd.R_alloc | apply Kd.R_drewN | apply Kd.R_drew)); exact HO_10.out) hb)
                         have n2_ := Aside0.mk (Kd.R_below (by (with_reducible repeat (first | apply Kd.R_alloc | apply Kd.R_drewN | apply Kd.R_drew)); exact HO_12.out) hb)
                         have n3_ := Aside0.mk (Kd.R_below (by (with_reducible repeat (first | apply Kd.R_alloc | apply Kd.R_drewN | apply Kd.R_drew)); exact HO_13.out) hb)
                         have n4_ := Aside0.mk (blk_below (g := gb716) (o := .cells #[.int .i64 0, .int .i64 0, .int .i64 0] 45 (0, 0)) (by (with_reducible repeat (first | refine blk_drewN ?_ _ | refine blk_drew ?_ | refine blk_alloc ?_ _)); exact BK716.out) hb)
                         have n5_ := Aside0.mk (below_step (by repeat (first | (with_reducible first | exact HB.out | apply below_alloc | apply pw_below_drewN | apply below_drew1 | refine below_set ?_ GE716.out) | exact HB.out)) hb)
                         clear HO_8
                         clear HO_10
                         clear HO_12
                         clear HO_13
                         clear BK716
                         clear HB
                         have HO_8 := n0_
                         have HO_10 := n1_
                         have HO_12 := n2_
                         have HO_13 := n3_
                         have BK716 := n4_
                         have HB := n5_
                         clear n0_ n1_ n2_ n3_ n4_ n5_
                         (try clear hb)
                         (try clear hb2)
                         (try clear hk)
                         (try clear hi)
                         refine hK.out _ _ ⟨HS0_, HS1_, HS2_, HS3_, HS4_, HS5_, HS6_, HS7_, HS8_, HS9_, HS10_, HS11_⟩ (fun hHeld => ?_)
                         clear hK K
                         refine norm_ (a' := ?_) ?_ ?_
                         rotate_left
                         ·as_aux_lemma =>
                          show Act.put _ (some 124) _ = _
                          simp only [Act.put, List.setIfInBounds_toArray, List.set_cons_zero, List.set_cons_succ, i64_w, i32_w]
                          rfl
                         refine pure_ (i := 11) (N := some 113) (v := ?_) (a' := ?_) #[true, true, true, true, true, true, true, true, true, true, true, true, false, false, true, false, false] rfl rfl (any_of HT_.out (by kernel_rfl)) (fun _ _ _ h => h) (Or.inl ⟨by rfl, ?_⟩) ?_ ?_
                         rotate_left
                         ·as_aux_lemma =>
                          intro w'
                          go_simp
                          with_reducible rfl
                         rotate_left
                         ·as_aux_lemma =>
                          simp only [Act.put, List.setIfInBounds_toArray, List.set_cons_zero, List.set_cons_succ, i64_w, i32_w]
                          rfl
                         refine pure_ (i := 12) (N := some 125) (v := ?_) (a' := ?_) #[true, true, true, true, true, true, true, true, true, true, true, true, true, false, true, false, false] rfl rfl (any_of HT_.out (by kernel_rfl)) (fun _ _ _ h => h) (Or.inl ⟨by rfl, ?_⟩) ?_ ?_
                         rotate_left
                         ·as_aux_lemma =>
                          intro w'
                          go_simp
                          with_reducible rfl
                         rotate_left
                         ·as_aux_lemma =>
                          simp only [Act.put, List.setIfInBounds_toArray, List.set_cons_zero, List.set_cons_succ, i64_w, i32_w]
                          rfl
                         refine pure_ (i := 13) (N := some 126) (v := ?_) (a' := ?_) #[true, true, true, true, true, true, true, true, true, true, true, true, true, true, true, false, false] rfl rfl (any_of HT_.out (by kernel_rfl)) (fun _ _ _ h => h) (Or.inl ⟨by rfl, ?_⟩) ?_ ?_
                         rotate_left
                         ·as_aux_lemma =>
                          intro w'
                          go_simp
                          with_reducible rfl
                         rotate_left
                         ·as_aux_lemma =>
                          simp only [Act.put, List.setIfInBounds_toArray, List.set_cons_zero, List.set_cons_succ, i64_w, i32_w]
                          rfl
                         exact norm_ (by simp only [putAll, Act.put, List.setIfInBounds_toArray, List.set_cons_zero, List.set_cons_succ]) (hCont (gb716) _ ⟨hHeld, (by (with_reducible repeat (first | apply Kd.R_alloc | apply Kd.R_drewN | apply Kd.R_drew)); exact Kd.R_mono HO_10.out (fun _ hk => ⟨hk.2, hk.1⟩)), (by (with_reducible repeat (first | apply Kd.R_alloc | apply Kd.R_drewN | apply Kd.R_drew)); exact HO_12.out), (by (with_reducible repeat (first | apply Kd.R_alloc | apply Kd.R_drewN | apply Kd.R_drew)); exact Kd.R_mono HO_13.out (fun _ hk => ⟨hk.2, hk.1⟩)), (by (with_reducible repeat (first | apply Kd.R_alloc | apply Kd.R_drewN | apply Kd.R_drew)); exact HO_8.out), (by (with_reducible repeat (first | refine blk_drewN ?_ _ | refine blk_drew ?_ | refine blk_alloc ?_ _)); exact BK716.out), GW716.out, GE716.out, (by repeat (first | (with_reducible first | exact HB.out | apply below_alloc | apply pw_below_drewN | apply below_drew1 | refine below_set ?_ GE716.out) | exact HB.out))⟩)
                       rintro gb716 w57 ⟨hS_, h0_, h1_, h2_, h3_, h4_, h5_, h6_, h7_⟩
                       have n0_ : Aside0 (Kd.R k47 47 w57 w.heap.size (fun k_ => some k_ ≠ (v708 : Value).ownBlock ∧ some k_ ≠ (.slice (some ad710) t689.length co52 : Value).ownBlock) (.slice (some ad711) t693.length co54) t693) := ⟨h0_⟩
                       have n1_ : Aside0 (Kd.R k33 33 w57 w.heap.size (fun _ => True) (.slice Ao25 y703.length co25) y703) := ⟨h1_⟩
                       have n2_ : Aside0 (Kd.R k47 47 w57 w.heap.size (fun k_ => some k_ ≠ (.slice (some ad711) t693.length co54 : Value).ownBlock ∧ some k_ ≠ (.slice (some ad710) t689.length co52 : Value).ownBlock) v708 t706) := ⟨h2_⟩
                       have n3_ : Aside0 (Kd.R k47 47 w57 w.heap.size (fun k_ => some k_ ≠ (.slice (some ad711) t693.length co54 : Value).ownBlock ∧ some k_ ≠ (v708 : Value).ownBlock) (.slice (some ad710) t689.length co52) t689) := ⟨h3_⟩
                       have n4_ : Aside0 (w57.heap[gb716]? = some (.cells #[.int .i64 0, .int .i64 0, .int .i64 0] 45 (0, 0))) := ⟨h4_⟩
                       have n5_ : Aside0 (w.heap.size ≤ gb716) := ⟨h5_⟩
                       have n6_ : Aside0 (w.heap.size ≤ gb716) := ⟨h6_⟩
                       have n7_ : Aside0 (Below w.heap.size w w57) := ⟨h7_⟩
                       clear HO_8
                       clear HO_10
                       clear HO_12
                       clear HO_13
                       clear HB
                       clear h0_ h1_ h2_ h3_ h4_ h5_ h6_ h7_
                       have HO_10 := n0_
                       have HO_12 := n1_
                       have HO_13 := n2_
                       have HO_8 := n3_
                       have BK716 := n4_
                       have GW716 := n5_
                       have GE716 := n6_
                       have HB := n7_
                       clear n0_ n1_ n2_ n3_ n4_ n5_ n6_ n7_
                       have hHeld : w57.cell? (ad710.add ((x15_3).toNat * 6)) = some (.int .i64 ((rd_T47 t689 x15_3).f0)) ∧ w57.cell? ⟨(ad710.add ((x15_3).toNat * 6)).block, (ad710.add ((x15_3).toNat * 6)).off + 1, none⟩ = some (.int .i64 ((rd_T47 t689 x15_3).f1)) ∧ w57.cell? ⟨(ad710.add ((x15_3).toNat * 6)).block, (ad710.add ((x15_3).toNat * 6)).off + 2, none⟩ = some (.int .i64 ((rd_T47 t689 x15_3).f2.f0)) ∧ w57.cell? ⟨(ad710.add ((x15_3).toNat * 6)).block, (ad710.add ((x15_3).toNat * 6)).off + 3, none⟩ = some (.int .i64 ((rd_T47 t689 x15_3).f2.f1)) ∧ w57.cell? ⟨(ad710.add ((x15_3).toNat * 6)).block, (ad710.add ((x15_3).toNat * 6)).off + 4, none⟩ = some (.int .i64 ((rd_T47 t689 x15_3).f2.f2)) ∧ w57.cell? ⟨(ad710.add ((x15_3).toNat * 6)).block, (ad710.add ((x15_3).toNat * 6)).off + 5, none⟩ = some (.int .i64 ((rd_T47 t689 x15_3).f3)) ∧ w57.cell? (ad711.add ((x15_3).toNat * 6)) = some (.int .i64 ((rd_T47 t693 x15_3).f0)) ∧ w57.cell? ⟨(ad711.add ((x15_3).toNat * 6)).block, (ad711.add ((x15_3).toNat * 6)).off + 1, none⟩ = some (.int .i64 ((rd_T47 t693 x15_3).f1)) ∧ w57.cell? ⟨(ad711.add ((x15_3).toNat * 6)).block, (ad711.add ((x15_3).toNat * 6)).off + 2, none⟩ = some (.int .i64 ((rd_T47 t693 x15_3).f2.f0)) ∧ w57.cell? ⟨(ad711.add ((x15_3).toNat * 6)).block, (ad711.add ((x15_3).toNat * 6)).off + 3, none⟩ = some (.int .i64 ((rd_T47 t693 x15_3).f2.f1)) ∧ w57.cell? ⟨(ad711.add ((x15_3).toNat * 6)).block, (ad711.add ((x15_3).toNat * 6)).off + 4, none⟩ = some (.int .i64 ((rd_T47 t693 x15_3).f2.f2)) ∧ w57.cell? ⟨(ad711.add ((x15_3).toNat * 6)).block, (ad711.add ((x15_3).toNat * 6)).off + 5, none⟩ = some (.int .i64 ((rd_T47 t693 x15_3).f3)) := hS_
                       refine norm_ (a' := ?_) ?_ ?_
                       rotate_left
                       ·as_aux_lemma =>
                        simp only [putAll, Act.put, List.setIfInBounds_toArray, List.set_cons_zero, List.set_cons_succ]
                        rfl
                       refine one_ (i := 15) (N := none) #[true, true, true, true, true, true, true, true, true, true, true, true, true, true, true, true, false] rfl rfl (one_of HT_.out (by kernel_rfl)) (by decide) (fun K hK => ?_)
                       have hs58 : w57.cell? ⟨gb716, 0, none⟩ = some (.int .i64 0) := (blk_cell BK716.out 0).trans rfl
                       have hfs58 := blk_frozen BK716.out 0
                       have hs59 : w57.cell? ⟨gb716, 1, none⟩ = some (.int .i64 0) := (blk_cell BK716.out 1).trans rfl
                       have hfs59 := blk_frozen BK716.out 1
                       have hs60 : w57.cell? ⟨gb716, 2, none⟩ = some (.int .i64 0) := (blk_cell BK716.out 2).trans rfl
                       have hfs60 := blk_frozen BK716.out 2
                       refine skip_ (w1 := ?_) (by rfl) rfl ?_ ?_
                       rotate_left
                       ·as_aux_lemma =>
                        go_simp
                        rfl
                       refine hK.out _ _ ⟨((cell_far (p := ⟨gb716, _, none⟩) (by first | exact Kd.own_blk (Kd.R_ne HO_8.out BK716.out (by decide)) | (rw [add_block]; exact Kd.own_blk (Kd.R_ne HO_8.out BK716.out (by decide))) | (show (Addr.add _ _).block ≠ _; rw [add_block]; exact Kd.own_blk (Kd.R_ne HO_8.out BK716.out (by decide))) | (dsimp only; exact Kd.own_blk (Kd.R_ne HO_8.out BK716.out (by decide)))) _).trans (((cell_far (p := ⟨gb716, _, none⟩) (by first | exact Kd.own_blk (Kd.R_ne HO_8.out BK716.out (by decide)) | (rw [add_block]; exact Kd.own_blk (Kd.R_ne HO_8.out BK716.out (by decide))) | (show (Addr.add _ _).block ≠ _; rw [add_block]; exact Kd.own_blk (Kd.R_ne HO_8.out BK716.out (by decide))) | (dsimp only; exact Kd.own_blk (Kd.R_ne HO_8.out BK716.out (by decide)))) _).trans (((cell_far (p := ⟨gb716, _, none⟩) (by first | exact Kd.own_blk (Kd.R_ne HO_8.out BK716.out (by decide)) | (rw [add_block]; exact Kd.own_blk (Kd.R_ne HO_8.out BK716.out (by decide))) | (show (Addr.add _ _).block ≠ _; rw [add_block]; exact Kd.own_blk (Kd.R_ne HO_8.out BK716.out (by decide))) | (dsimp only; exact Kd.own_blk (Kd.R_ne HO_8.out BK716.out (by decide)))) _).trans (hHeld.1)))))), ((cell_far (p := ⟨gb716, _, none⟩) (by first | exact Kd.own_blk (Kd.R_ne HO_8.out BK716.out (by decide)) | (rw [add_block]; exact Kd.own_blk (Kd.R_ne HO_8.out BK716.out (by decide))) | (show (Addr.add _ _).block ≠ _; rw [add_block]; exact Kd.own_blk (Kd.R_ne HO_8.out BK716.out (by decide))) | (dsimp only; exact Kd.own_blk (Kd.R_ne HO_8.out BK716.out (by decide)))) _).trans (((cell_far (p := ⟨gb716, _, none⟩) (by first | exact Kd.own_blk (Kd.R_ne HO_8.out BK716.out (by decide)) | (rw [add_block]; exact Kd.own_blk (Kd.R_ne HO_8.out BK716.out (by decide))) | (show (Addr.add _ _).block ≠ _; rw [add_block]; exact Kd.own_blk (Kd.R_ne HO_8.out BK716.out (by decide))) | (dsimp only; exact Kd.own_blk (Kd.R_ne HO_8.out BK716.out (by decide)))) _).trans (((cell_far (p := ⟨gb716, _, none⟩) (by first | exact Kd.own_blk (Kd.R_ne HO_8.out BK716.out (by decide)) | (rw [add_block]; exact Kd.own_blk (Kd.R_ne HO_8.out BK716.out (by decide))) | (show (Addr.add _ _).block ≠ _; rw [add_block]; exact Kd.own_blk (Kd.R_ne HO_8.out BK716.out (by decide))) | (dsimp only; exact Kd.own_blk (Kd.R_ne HO_8.out BK716.out (by decide)))) _).trans (hHeld.2.1)))))), ((cell_far (p := ⟨gb716, _, none⟩) (by first | exact Kd.own_blk (Kd.R_ne HO_8.out BK716.out (by decide)) | (rw [add_block]; exact Kd.own_blk (Kd.R_ne HO_8.out BK716.out (by decide))) | (show (Addr.add _ _).block ≠ _; rw [add_block]; exact Kd.own_blk (Kd.R_ne HO_8.out BK716.out (by decide))) | (dsimp only; exact Kd.own_blk (Kd.R_ne HO_8.out BK716.out (by decide)))) _).trans (((cell_far (p := ⟨gb716, _, none⟩) (by first | exact Kd.own_blk (Kd.R_ne HO_8.out BK716.out (by decide)) | (rw [add_block]; exact Kd.own_blk (Kd.R_ne HO_8.out BK716.out (by decide))) | (show (Addr.add _ _).block ≠ _; rw [add_block]; exact Kd.own_blk (Kd.R_ne HO_8.out BK716.out (by decide))) | (dsimp only; exact Kd.own_blk (Kd.R_ne HO_8.out BK716.out (by decide)))) _).trans (((cell_far (p := ⟨gb716, _, none⟩) (by first | exact Kd.own_blk (Kd.R_ne HO_8.out BK716.out (by decide)) | (rw [add_block]; exact Kd.own_blk (Kd.R_ne HO_8.out BK716.out (by decide))) | (show (Addr.add _ _).block ≠ _; rw [add_block]; exact Kd.own_blk (Kd.R_ne HO_8.out BK716.out (by decide))) | (dsimp only; exact Kd.own_blk (Kd.R_ne HO_8.out BK716.out (by decide)))) _).trans (hHeld.2.2.1)))))), ((cell_far (p := ⟨gb716, _, none⟩) (by first | exact Kd.own_blk (Kd.R_ne HO_8.out BK716.out (by decide)) | (rw [add_block]; exact Kd.own_blk (Kd.R_ne HO_8.out BK716.out (by decide))) | (show (Addr.add _ _).block ≠ _; rw [add_block]; exact Kd.own_blk (Kd.R_ne HO_8.out BK716.out (by decide))) | (dsimp only; exact Kd.own_blk (Kd.R_ne HO_8.out BK716.out (by decide)))) _).trans (((cell_far (p := ⟨gb716, _, none⟩) (by first | exact Kd.own_blk (Kd.R_ne HO_8.out BK716.out (by decide)) | (rw [add_block]; exact Kd.own_blk (Kd.R_ne HO_8.out BK716.out (by decide))) | (show (Addr.add _ _).block ≠ _; rw [add_block]; exact Kd.own_blk (Kd.R_ne HO_8.out BK716.out (by decide))) | (dsimp only; exact Kd.own_blk (Kd.R_ne HO_8.out BK716.out (by decide)))) _).trans (((cell_far (p := ⟨gb716, _, none⟩) (by first | exact Kd.own_blk (Kd.R_ne HO_8.out BK716.out (by decide)) | (rw [add_block]; exact Kd.own_blk (Kd.R_ne HO_8.out BK716.out (by decide))) | (show (Addr.add _ _).block ≠ _; rw [add_block]; exact Kd.own_blk (Kd.R_ne HO_8.out BK716.out (by decide))) | (dsimp only; exact Kd.own_blk (Kd.R_ne HO_8.out BK716.out (by decide)))) _).trans (hHeld.2.2.2.1)))))), ((cell_far (p := ⟨gb716, _, none⟩) (by first | exact Kd.own_blk (Kd.R_ne HO_8.out BK716.out (by decide)) | (rw [add_block]; exact Kd.own_blk (Kd.R_ne HO_8.out BK716.out (by decide))) | (show (Addr.add _ _).block ≠ _; rw [add_block]; exact Kd.own_blk (Kd.R_ne HO_8.out BK716.out (by decide))) | (dsimp only; exact Kd.own_blk (Kd.R_ne HO_8.out BK716.out (by decide)))) _).trans (((cell_far (p := ⟨gb716, _, none⟩) (by first | exact Kd.own_blk (Kd.R_ne HO_8.out BK716.out (by decide)) | (rw [add_block]; exact Kd.own_blk (Kd.R_ne HO_8.out BK716.out (by decide))) | (show (Addr.add _ _).block ≠ _; rw [add_block]; exact Kd.own_blk (Kd.R_ne HO_8.out BK716.out (by decide))) | (dsimp only; exact Kd.own_blk (Kd.R_ne HO_8.out BK716.out (by decide)))) _).trans (((cell_far (p := ⟨gb716, _, none⟩) (by first | exact Kd.own_blk (Kd.R_ne HO_8.out BK716.out (by decide)) | (rw [add_block]; exact Kd.own_blk (Kd.R_ne HO_8.out BK716.out (by decide))) | (show (Addr.add _ _).block ≠ _; rw [add_block]; exact Kd.own_blk (Kd.R_ne HO_8.out BK716.out (by decide))) | (dsimp only; exact Kd.own_blk (Kd.R_ne HO_8.out BK716.out (by decide)))) _).trans (hHeld.2.2.2.2.1)))))), ((cell_far (p := ⟨gb716, _, none⟩) (by first | exact Kd.own_blk (Kd.R_ne HO_8.out BK716.out (by decide)) | (rw [add_block]; exact Kd.own_blk (Kd.R_ne HO_8.out BK716.out (by decide))) | (show (Addr.add _ _).block ≠ _; rw [add_block]; exact Kd.own_blk (Kd.R_ne HO_8.out BK716.out (by decide))) | (dsimp only; exact Kd.own_blk (Kd.R_ne HO_8.out BK716.out (by decide)))) _).trans (((cell_far (p := ⟨gb716, _, none⟩) (by first | exact Kd.own_blk (Kd.R_ne HO_8.out BK716.out (by decide)) | (rw [add_block]; exact Kd.own_blk (Kd.R_ne HO_8.out BK716.out (by decide))) | (show (Addr.add _ _).block ≠ _; rw [add_block]; exact Kd.own_blk (Kd.R_ne HO_8.out BK716.out (by decide))) | (dsimp only; exact Kd.own_blk (Kd.R_ne HO_8.out BK716.out (by decide)))) _).trans (((cell_far (p := ⟨gb716, _, none⟩) (by first | exact Kd.own_blk (Kd.R_ne HO_8.out BK716.out (by decide)) | (rw [add_block]; exact Kd.own_blk (Kd.R_ne HO_8.out BK716.out (by decide))) | (show (Addr.add _ _).block ≠ _; rw [add_block]; exact Kd.own_blk (Kd.R_ne HO_8.out BK716.out (by decide))) | (dsimp only; exact Kd.own_blk (Kd.R_ne HO_8.out BK716.out (by decide)))) _).trans (hHeld.2.2.2.2.2.1)))))), ((cell_far (p := ⟨gb716, _, none⟩) (by first | exact Kd.own_blk (Kd.R_ne HO_10.out BK716.out (by decide)) | (rw [add_block]; exact Kd.own_blk (Kd.R_ne HO_10.out BK716.out (by decide))) | (show (Addr.add _ _).block ≠ _; rw [add_block]; exact Kd.own_blk (Kd.R_ne HO_10.out BK716.out (by decide))) | (dsimp only; exact Kd.own_blk (Kd.R_ne HO_10.out BK716.out (by decide)))) _).trans (((cell_far (p := ⟨gb716, _, none⟩) (by first | exact Kd.own_blk (Kd.R_ne HO_10.out BK716.out (by decide)) | (rw [add_block]; exact Kd.own_blk (Kd.R_ne HO_10.out BK716.out (by decide))) | (show (Addr.add _ _).block ≠ _; rw [add_block]; exact Kd.own_blk (Kd.R_ne HO_10.out BK716.out (by decide))) | (dsimp only; exact Kd.own_blk (Kd.R_ne HO_10.out BK716.out (by decide)))) _).trans (((cell_far (p := ⟨gb716, _, none⟩) (by first | exact Kd.own_blk (Kd.R_ne HO_10.out BK716.out (by decide)) | (rw [add_block]; exact Kd.own_blk (Kd.R_ne HO_10.out BK716.out (by decide))) | (show (Addr.add _ _).block ≠ _; rw [add_block]; exact Kd.own_blk (Kd.R_ne HO_10.out BK716.out (by decide))) | (dsimp only; exact Kd.own_blk (Kd.R_ne HO_10.out BK716.out (by decide)))) _).trans (hHeld.2.2.2.2.2.2.1)))))), ((cell_far (p := ⟨gb716, _, none⟩) (by first | exact Kd.own_blk (Kd.R_ne HO_10.out BK716.out (by decide)) | (rw [add_block]; exact Kd.own_blk (Kd.R_ne HO_10.out BK716.out (by decide))) | (show (Addr.add _ _).block ≠ _; rw [add_block]; exact Kd.own_blk (Kd.R_ne HO_10.out BK716.out (by decide))) | (dsimp only; exact Kd.own_blk (Kd.R_ne HO_10.out BK716.out (by decide)))) _).trans (((cell_far (p := ⟨gb716, _, none⟩) (by first | exact Kd.own_blk (Kd.R_ne HO_10.out BK716.out (by decide)) | (rw [add_block]; exact Kd.own_blk (Kd.R_ne HO_10.out BK716.out (by decide))) | (show (Addr.add _ _).block ≠ _; rw [add_block]; exact Kd.own_blk (Kd.R_ne HO_10.out BK716.out (by decide))) | (dsimp only; exact Kd.own_blk (Kd.R_ne HO_10.out BK716.out (by decide)))) _).trans (((cell_far (p := ⟨gb716, _, none⟩) (by first | exact Kd.own_blk (Kd.R_ne HO_10.out BK716.out (by decide)) | (rw [add_block]; exact Kd.own_blk (Kd.R_ne HO_10.out BK716.out (by decide))) | (show (Addr.add _ _).block ≠ _; rw [add_block]; exact Kd.own_blk (Kd.R_ne HO_10.out BK716.out (by decide))) | (dsimp only; exact Kd.own_blk (Kd.R_ne HO_10.out BK716.out (by decide)))) _).trans (hHeld.2.2.2.2.2.2.2.1)))))), ((cell_far (p := ⟨gb716, _, none⟩) (by first | exact Kd.own_blk (Kd.R_ne HO_10.out BK716.out (by decide)) | (rw [add_block]; exact Kd.own_blk (Kd.R_ne HO_10.out BK716.out (by decide))) | (show (Addr.add _ _).block ≠ _; rw [add_block]; exact Kd.own_blk (Kd.R_ne HO_10.out BK716.out (by decide))) | (dsimp only; exact Kd.own_blk (Kd.R_ne HO_10.out BK716.out (by decide)))) _).trans (((cell_far (p := ⟨gb716, _, none⟩) (by first | exact Kd.own_blk (Kd.R_ne HO_10.out BK716.out (by decide)) | (rw [add_block]; exact Kd.own_blk (Kd.R_ne HO_10.out BK716.out (by decide))) | (show (Addr.add _ _).block ≠ _; rw [add_block]; exact Kd.own_blk (Kd.R_ne HO_10.out BK716.out (by decide))) | (dsimp only; exact Kd.own_blk (Kd.R_ne HO_10.out BK716.out (by decide)))) _).trans (((cell_far (p := ⟨gb716, _, none⟩) (by first | exact Kd.own_blk (Kd.R_ne HO_10.out BK716.out (by decide)) | (rw [add_block]; exact Kd.own_blk (Kd.R_ne HO_10.out BK716.out (by decide))) | (show (Addr.add _ _).block ≠ _; rw [add_block]; exact Kd.own_blk (Kd.R_ne HO_10.out BK716.out (by decide))) | (dsimp only; exact Kd.own_blk (Kd.R_ne HO_10.out BK716.out (by decide)))) _).trans (hHeld.2.2.2.2.2.2.2.2.1)))))), ((cell_far (p := ⟨gb716, _, none⟩) (by first | exact Kd.own_blk (Kd.R_ne HO_10.out BK716.out (by decide)) | (rw [add_block]; exact Kd.own_blk (Kd.R_ne HO_10.out BK716.out (by decide))) | (show (Addr.add _ _).block ≠ _; rw [add_block]; exact Kd.own_blk (Kd.R_ne HO_10.out BK716.out (by decide))) | (dsimp only; exact Kd.own_blk (Kd.R_ne HO_10.out BK716.out (by decide)))) _).trans (((cell_far (p := ⟨gb716, _, none⟩) (by first | exact Kd.own_blk (Kd.R_ne HO_10.out BK716.out (by decide)) | (rw [add_block]; exact Kd.own_blk (Kd.R_ne HO_10.out BK716.out (by decide))) | (show (Addr.add _ _).block ≠ _; rw [add_block]; exact Kd.own_blk (Kd.R_ne HO_10.out BK716.out (by decide))) | (dsimp only; exact Kd.own_blk (Kd.R_ne HO_10.out BK716.out (by decide)))) _).trans (((cell_far (p := ⟨gb716, _, none⟩) (by first | exact Kd.own_blk (Kd.R_ne HO_10.out BK716.out (by decide)) | (rw [add_block]; exact Kd.own_blk (Kd.R_ne HO_10.out BK716.out (by decide))) | (show (Addr.add _ _).block ≠ _; rw [add_block]; exact Kd.own_blk (Kd.R_ne HO_10.out BK716.out (by decide))) | (dsimp only; exact Kd.own_blk (Kd.R_ne HO_10.out BK716.out (by decide)))) _).trans (hHeld.2.2.2.2.2.2.2.2.2.1)))))), ((cell_far (p := ⟨gb716, _, none⟩) (by first | exact Kd.own_blk (Kd.R_ne HO_10.out BK716.out (by decide)) | (rw [add_block]; exact Kd.own_blk (Kd.R_ne HO_10.out BK716.out (by decide))) | (show (Addr.add _ _).block ≠ _; rw [add_block]; exact Kd.own_blk (Kd.R_ne HO_10.out BK716.out (by decide))) | (dsimp only; exact Kd.own_blk (Kd.R_ne HO_10.out BK716.out (by decide)))) _).trans (((cell_far (p := ⟨gb716, _, none⟩) (by first | exact Kd.own_blk (Kd.R_ne HO_10.out BK716.out (by decide)) | (rw [add_block]; exact Kd.own_blk (Kd.R_ne HO_10.out BK716.out (by decide))) | (show (Addr.add _ _).block ≠ _; rw [add_block]; exact Kd.own_blk (Kd.R_ne HO_10.out BK716.out (by decide))) | (dsimp only; exact Kd.own_blk (Kd.R_ne HO_10.out BK716.out (by decide)))) _).trans (((cell_far (p := ⟨gb716, _, none⟩) (by first | exact Kd.own_blk (Kd.R_ne HO_10.out BK716.out (by decide)) | (rw [add_block]; exact Kd.own_blk (Kd.R_ne HO_10.out BK716.out (by decide))) | (show (Addr.add _ _).block ≠ _; rw [add_block]; exact Kd.own_blk (Kd.R_ne HO_10.out BK716.out (by decide))) | (dsimp only; exact Kd.own_blk (Kd.R_ne HO_10.out BK716.out (by decide)))) _).trans (hHeld.2.2.2.2.2.2.2.2.2.2.1)))))), ((cell_far (p := ⟨gb716, _, none⟩) (by first | exact Kd.own_blk (Kd.R_ne HO_10.out BK716.out (by decide)) | (rw [add_block]; exact Kd.own_blk (Kd.R_ne HO_10.out BK716.out (by decide))) | (show (Addr.add _ _).block ≠ _; rw [add_block]; exact Kd.own_blk (Kd.R_ne HO_10.out BK716.out (by decide))) | (dsimp only; exact Kd.own_blk (Kd.R_ne HO_10.out BK716.out (by decide)))) _).trans (((cell_far (p := ⟨gb716, _, none⟩) (by first | exact Kd.own_blk (Kd.R_ne HO_10.out BK716.out (by decide)) | (rw [add_block]; exact Kd.own_blk (Kd.R_ne HO_10.out BK716.out (by decide))) | (show (Addr.add _ _).block ≠ _; rw [add_block]; exact Kd.own_blk (Kd.R_ne HO_10.out BK716.out (by decide))) | (dsimp only; exact Kd.own_blk (Kd.R_ne HO_10.out BK716.out (by decide)))) _).trans (((cell_far (p := ⟨gb716, _, none⟩) (by first | exact Kd.own_blk (Kd.R_ne HO_10.out BK716.out (by decide)) | (rw [add_block]; exact Kd.own_blk (Kd.R_ne HO_10.out BK716.out (by decide))) | (show (Addr.add _ _).block ≠ _; rw [add_block]; exact Kd.own_blk (Kd.R_ne HO_10.out BK716.out (by decide))) | (dsimp only; exact Kd.own_blk (Kd.R_ne HO_10.out BK716.out (by decide)))) _).trans (hHeld.2.2.2.2.2.2.2.2.2.2.2))))))⟩ (fun hHeld => ?_)
                       clear hK K
                       refine pure_ (i := 16) (N := some 17) (v := ?_) (a' := ?_) #[true, true, true, true, true, true, true, true, true, true, true, true, true, true, true, true, true] rfl rfl (any_of HT_.out (by kernel_rfl)) (fun _ _ _ h => h) (Or.inl ⟨by rfl, ?_⟩) ?_ ?_
                       rotate_left
                       ·as_aux_lemma =>
                        intro w'
                        go_simp
                        with_reducible rfl
                       rotate_left
                       ·as_aux_lemma =>
                        simp only [Act.put, List.setIfInBounds_toArray, List.set_cons_zero, List.set_cons_succ, i64_w, i32_w]
                        rfl
                       refine done_ (done_of HT_.out (by kernel_rfl)) ?_
                       try go_wp2
                       have n0_ : Aside0 (Kd.R k47 47 (((w57.setCell ⟨gb716, 0, none⟩ (.int .i64 t712)).setCell ⟨gb716, 1, none⟩ (.int .i64 t713)).setCell ⟨gb716, 2, none⟩ (.int .i64 t714)) w.heap.size (fun k_ => some k_ ≠ (.slice (some ad711) t693.length co54 : Value).ownBlock ∧ some k_ ≠ (v708 : Value).ownBlock) (.slice (some ad710) t689.length co52) t689) := ⟨by (with_reducible repeat (first | apply Kd.R_alloc | apply Kd.R_drewN | apply Kd.R_drew)); exact Kd.R_mono (Kd.R_far (p := ⟨gb716, 2, none⟩) (Kd.R_far (p := ⟨gb716, 1, none⟩) (Kd.R_far (p := ⟨gb716, 0, none⟩) (Kd.R_types HO_8.out BK716.out (by decide)) (fun _ hk => hk.2) (.int .i64 t712)) (fun _ hk => hk.2) (.int .i64 t713)) (fun _ hk => hk.2) (.int .i64 t714)) (fun _ hk => ⟨hk.1.1, hk.1.2⟩)⟩
                       have n1_ : Aside0 (Kd.R k47 47 (((w57.setCell ⟨gb716, 0, none⟩ (.int .i64 t712)).setCell ⟨gb716, 1, none⟩ (.int .i64 t713)).setCell ⟨gb716, 2, none⟩ (.int .i64 t714)) w.heap.size (fun k_ => some k_ ≠ (.slice (some ad710) t689.length co52 : Value).ownBlock ∧ some k_ ≠ (v708 : Value).ownBlock) (.slice (some ad711) t693.length co54) t693) := ⟨by (with_reducible repeat (first | apply Kd.R_alloc | apply Kd.R_drewN | apply Kd.R_drew)); exact Kd.R_mono (Kd.R_far (p := ⟨gb716, 2, none⟩) (Kd.R_far (p := ⟨gb716, 1, none⟩) (Kd.R_far (p := ⟨gb716, 0, none⟩) (Kd.R_types HO_10.out BK716.out (by decide)) (fun _ hk => hk.2) (.int .i64 t712)) (fun _ hk => hk.2) (.int .i64 t713)) (fun _ hk => hk.2) (.int .i64 t714)) (fun _ hk => ⟨hk.1.2, hk.1.1⟩)⟩
                       have n2_ : Aside0 (Kd.R k33 33 (((w57.setCell ⟨gb716, 0, none⟩ (.int .i64 t712)).setCell ⟨gb716, 1, none⟩ (.int .i64 t713)).setCell ⟨gb716, 2, none⟩ (.int .i64 t714)) w.heap.size (fun _ => True) (.slice Ao25 y703.length co25) y703) := ⟨by (with_reducible repeat (first | apply Kd.R_alloc | apply Kd.R_drewN | apply Kd.R_drew)); exact Kd.R_mono (Kd.R_far (p := ⟨gb716, 2, none⟩) (Kd.R_far (p := ⟨gb716, 1, none⟩) (Kd.R_far (p := ⟨gb716, 0, none⟩) (Kd.R_types HO_12.out BK716.out (by decide)) (fun _ hk => hk.2) (.int .i64 t712)) (fun _ hk => hk.2) (.int .i64 t713)) (fun _ hk => hk.2) (.int .i64 t714)) (fun _ hk => trivial)⟩
                       have n3_ : Aside0 (Kd.R k47 47 (((w57.setCell ⟨gb716, 0, none⟩ (.int .i64 t712)).setCell ⟨gb716, 1, none⟩ (.int .i64 t713)).setCell ⟨gb716, 2, none⟩ (.int .i64 t714)) w.heap.size (fun k_ => some k_ ≠ (.slice (some ad710) t689.length co52 : Value).ownBlock ∧ some k_ ≠ (.slice (some ad711) t693.length co54 : Value).ownBlock) v708 t706) := ⟨by (with_reducible repeat (first | apply Kd.R_alloc | apply Kd.R_drewN | apply Kd.R_drew)); exact Kd.R_mono (Kd.R_far (p := ⟨gb716, 2, none⟩) (Kd.R_far (p := ⟨gb716, 1, none⟩) (Kd.R_far (p := ⟨gb716, 0, none⟩) (Kd.R_types HO_13.out BK716.out (by decide)) (fun _ hk => hk.2) (.int .i64 t712)) (fun _ hk => hk.2) (.int .i64 t713)) (fun _ hk => hk.2) (.int .i64 t714)) (fun _ hk => ⟨hk.1.2, hk.1.1⟩)⟩
                       have n4_ : Aside0 ((((w57.setCell ⟨gb716, 0, none⟩ (.int .i64 t712)).setCell ⟨gb716, 1, none⟩ (.int .i64 t713)).setCell ⟨gb716, 2, none⟩ (.int .i64 t714)).heap[gb716]? = some (.cells #[.int .i64 t712, .int .i64 t713, .int .i64 t714] 45 (0, 0))) := ⟨by (with_reducible repeat (first | refine blk_drewN ?_ _ | refine blk_drew ?_ | refine blk_alloc ?_ _)); refine blk_put (cs := #[.int .i64 t712, .int .i64 t713, .int .i64 0]) ?_ 2 _ rfl; (with_reducible repeat (first | refine blk_drewN ?_ _ | refine blk_drew ?_ | refine blk_alloc ?_ _)); refine blk_put (cs := #[.int .i64 t712, .int .i64 0, .int .i64 0]) ?_ 1 _ rfl; (with_reducible repeat (first | refine blk_drewN ?_ _ | refine blk_drew ?_ | refine blk_alloc ?_ _)); refine blk_put (cs := #[.int .i64 0, .int .i64 0, .int .i64 0]) ?_ 0 _ rfl; (with_reducible repeat (first | refine blk_drewN ?_ _ | refine blk_drew ?_ | refine blk_alloc ?_ _)); exact BK716.out⟩
                       have n5_ : Aside0 (Below w.heap.size w (((w57.setCell ⟨gb716, 0, none⟩ (.int .i64 t712)).setCell ⟨gb716, 1, none⟩ (.int .i64 t713)).setCell ⟨gb716, 2, none⟩ (.int .i64 t714))) := ⟨by repeat (first | (with_reducible first | exact HB.out | apply below_alloc | apply pw_below_drewN | apply below_drew1 | refine below_set ?_ GE716.out) | exact HB.out)⟩
                       (try clear HO_8)
                       (try clear HO_10)
                       (try clear HO_12)
                       (try clear HO_13)
                       (try clear BK716)
                       (try clear HB)
                       generalize (((w57.setCell ⟨gb716, 0, none⟩ (.int .i64 t712)).setCell ⟨gb716, 1, none⟩ (.int .i64 t713)).setCell ⟨gb716, 2, none⟩ (.int .i64 t714)) = w61 at n0_ n1_ n2_ n3_ n4_ n5_ ⊢
                       have HO_8 := n0_
                       have HO_10 := n1_
                       have HO_12 := n2_
                       have HO_13 := n3_
                       have BK716 := n4_
                       have HB := n5_
                       clear n0_ n1_ n2_ n3_ n4_ n5_
                       have n0_ := Aside0.mk (Kd.R_drew HO_8.out)
                       have n1_ := Aside0.mk (Kd.R_drew HO_10.out)
                       have n2_ := Aside0.mk (Kd.R_drew HO_12.out)
                       have n3_ := Aside0.mk (Kd.R_drew HO_13.out)
                       have n4_ := Aside0.mk (blk_drew BK716.out)
                       have n5_ := Aside0.mk (below_drew1 HB.out)
                       clear HO_8
                       clear HO_10
                       clear HO_12
                       clear HO_13
                       clear BK716
                       clear HB
                       have HO_8 := n0_
                       have HO_10 := n1_
                       have HO_12 := n2_
                       have HO_13 := n3_
                       have BK716 := n4_
                       have HB := n5_
                       clear n0_ n1_ n2_ n3_ n4_ n5_
                       obtain ⟨Ao63, co63, eo63⟩ := Kd.R_slice HO_13.out
                       (first | subst eo63 | (injection eo63 with f1_ f2_ f3_; have f4_ := f1_.symm; have f5_ := f3_.symm; clear f1_ f2_ f3_; subst f4_; subst f5_))
                       have p717 : 0 ≤ (x15_3 : Int) := of_decide_eq_true (by first | (with_reducible assumption) | assumption)
                       have q717 : x15_3 < (t706.length : Int) := of_decide_eq_true (by first | (with_reducible assumption) | assumption)
                       obtain ⟨ad717, e717, hx717_0, hx717_1, hx717_2, hx717_3, hx717_4, hx717_5⟩ := at_T47 (Kd.R_reads' HO_13.out).2.2 x15_3 p717 q717
                       cases e717
                       replace p717 := eq_true p717
                       replace q717 := eq_true q717
                       have p718 : 0 ≤ (x15_3 : Int) := of_decide_eq_true (by first | (with_reducible assumption) | assumption)
                       have q718 : x15_3 < (t689.length : Int) := of_decide_eq_true (by first | (with_reducible assumption) | assumption)
                       obtain ⟨ad718, e718, hx718_0, hx718_1, hx718_2, hx718_3, hx718_4, hx718_5⟩ := at_T47 (Kd.R_reads' HO_8.out).2.2 x15_3 p718 q718
                       obtain rfl : ad710 = ad718 := (by injection e718)
                       replace p718 := eq_true p718
                       replace q718 := eq_true q718
                       have p719 : 0 ≤ (x15_3 : Int) := of_decide_eq_true (by first | (with_reducible assumption) | assumption)
                       have q719 : x15_3 < (t693.length : Int) := of_decide_eq_true (by first | (with_reducible assumption) | assumption)
                       obtain ⟨ad719, e719, hx719_0, hx719_1, hx719_2, hx719_3, hx719_4, hx719_5⟩ := at_T47 (Kd.R_reads' HO_10.out).2.2 x15_3 p719 q719
                       obtain rfl : ad711 = ad719 := (by injection e719)
                       replace p719 := eq_true p719
                       replace q719 := eq_true q719
                       have p720 : 0 ≤ (x15_3 : Int) := of_decide_eq_true (by first | (with_reducible assumption) | assumption)
                       have q720 : x15_3 < (t689.length : Int) := of_decide_eq_true (by first | (with_reducible assumption) | assumption)
                       obtain ⟨ad720, e720, hx720_0, hx720_1, hx720_2, hx720_3, hx720_4, hx720_5⟩ := at_T47 (Kd.R_reads' HO_8.out).2.2 x15_3 p720 q720
                       obtain rfl : ad710 = ad720 := (by injection e720)
                       replace p720 := eq_true p720
                       replace q720 := eq_true q720
                       have p721 : 0 ≤ (x15_3 : Int) := of_decide_eq_true (by first | (with_reducible assumption) | assumption)
                       have q721 : x15_3 < (t706.length : Int) := of_decide_eq_true (by first | (with_reducible assumption) | assumption)
                       obtain ⟨ad721, e721, hx721_0, hx721_1, hx721_2, hx721_3, hx721_4, hx721_5⟩ := at_T47 (Kd.R_reads' HO_13.out).2.2 x15_3 p721 q721
                       obtain rfl : ad717 = ad721 := (by injection e721)
                       replace p721 := eq_true p721
                       replace q721 := eq_true q721
                       have p722 : 0 ≤ (x15_3 : Int) := of_decide_eq_true (by first | (with_reducible assumption) | assumption)
                       have q722 : x15_3 < (t689.length : Int) := of_decide_eq_true (by first | (with_reducible assumption) | assumption)
                       obtain ⟨ad722, e722, hx722_0, hx722_1, hx722_2, hx722_3, hx722_4, hx722_5⟩ := at_T47 (Kd.R_reads' HO_8.out).2.2 x15_3 p722 q722
                       obtain rfl : ad710 = ad722 := (by injection e722)
                       replace p722 := eq_true p722
                       replace q722 := eq_true q722
                       have p723 : 0 ≤ (x15_3 : Int) := of_decide_eq_true (by first | (with_reducible assumption) | assumption)
                       have q723 : x15_3 < (t693.length : Int) := of_decide_eq_true (by first | (with_reducible assumption) | assumption)
                       obtain ⟨ad723, e723, hx723_0, hx723_1, hx723_2, hx723_3, hx723_4, hx723_5⟩ := at_T47 (Kd.R_reads' HO_10.out).2.2 x15_3 p723 q723
                       obtain rfl : ad711 = ad723 := (by injection e723)
                       replace p723 := eq_true p723
                       replace q723 := eq_true q723
                       have p724 : 0 ≤ (x15_3 : Int) := of_decide_eq_true (by first | (with_reducible assumption) | assumption)
                       have q724 : x15_3 < (t689.length : Int) := of_decide_eq_true (by first | (with_reducible assumption) | assumption)
                       obtain ⟨ad724, e724, hx724_0, hx724_1, hx724_2, hx724_3, hx724_4, hx724_5⟩ := at_T47 (Kd.R_reads' HO_8.out).2.2 x15_3 p724 q724
                       obtain rfl : ad710 = ad724 := (by injection e724)
                       replace p724 := eq_true p724
                       replace q724 := eq_true q724
                       have p725 : 0 ≤ (x15_3 : Int) := of_decide_eq_true (by first | (with_reducible assumption) | assumption)
                       have q725 : x15_3 < (t706.length : Int) := of_decide_eq_true (by first | (with_reducible assumption) | assumption)
                       obtain ⟨ad725, e725, hx725_0, hx725_1, hx725_2, hx725_3, hx725_4, hx725_5⟩ := at_T47 (Kd.R_reads' HO_13.out).2.2 x15_3 p725 q725
                       obtain rfl : ad717 = ad725 := (by injection e725)
                       replace p725 := eq_true p725
                       replace q725 := eq_true q725
                       have p726 : 0 ≤ (x15_3 : Int) := of_decide_eq_true (by first | (with_reducible assumption) | assumption)
                       have q726 : x15_3 < (t689.length : Int) := of_decide_eq_true (by first | (with_reducible assumption) | assumption)
                       obtain ⟨ad726, e726, hx726_0, hx726_1, hx726_2, hx726_3, hx726_4, hx726_5⟩ := at_T47 (Kd.R_reads' HO_8.out).2.2 x15_3 p726 q726
                       obtain rfl : ad710 = ad726 := (by injection e726)
                       replace p726 := eq_true p726
                       replace q726 := eq_true q726
                       have p727 : 0 ≤ (x15_3 : Int) := of_decide_eq_true (by first | (with_reducible assumption) | assumption)
                       have q727 : x15_3 < (t689.length : Int) := of_decide_eq_true (by first | (with_reducible assumption) | assumption)
                       obtain ⟨ad727, e727, hx727_0, hx727_1, hx727_2, hx727_3, hx727_4, hx727_5⟩ := at_T47 (Kd.R_reads' HO_8.out).2.2 x15_3 p727 q727
                       obtain rfl : ad710 = ad727 := (by injection e727)
                       replace p727 := eq_true p727
                       replace q727 := eq_true q727
                       have p728 : 0 ≤ (x15_3 : Int) := of_decide_eq_true (by first | (with_reducible assumption) | assumption)
                       have q728 : x15_3 < (t689.length : Int) := of_decide_eq_true (by first | (with_reducible assumption) | assumption)
                       obtain ⟨ad728, e728, hx728_0, hx728_1, hx728_2, hx728_3, hx728_4, hx728_5⟩ := at_T47 (Kd.R_reads' HO_8.out).2.2 x15_3 p728 q728
                       obtain rfl : ad710 = ad728 := (by injection e728)
                       replace p728 := eq_true p728
                       replace q728 := eq_true q728
                       refine start_ (n := 84) (S := fun w' => w'.cell? ⟨gb716, 0, none⟩ = some (.int .i64 t712) ∧ w'.cell? ⟨gb716, 1, none⟩ = some (.int .i64 t713) ∧ w'.cell? ⟨gb716, 2, none⟩ = some (.int .i64 t714) ∧ w'.cell? (ad717.add ((x15_3).toNat * 6)) = some (.int .i64 ((rd_T47 t706 x15_3).f0)) ∧ w'.cell? ⟨(ad717.add ((x15_3).toNat * 6)).block, (ad717.add ((x15_3).toNat * 6)).off + 1, none⟩ = some (.int .i64 ((rd_T47 t706 x15_3).f1)) ∧ w'.cell? ⟨(ad717.add ((x15_3).toNat * 6)).block, (ad717.add ((x15_3).toNat * 6)).off + 2, none⟩ = some (.int .i64 ((rd_T47 t706 x15_3).f2.f0)) ∧ w'.cell? ⟨(ad717.add ((x15_3).toNat * 6)).block, (ad717.add ((x15_3).toNat * 6)).off + 3, none⟩ = some (.int .i64 ((rd_T47 t706 x15_3).f2.f1)) ∧ w'.cell? ⟨(ad717.add ((x15_3).toNat * 6)).block, (ad717.add ((x15_3).toNat * 6)).off + 4, none⟩ = some (.int .i64 ((rd_T47 t706 x15_3).f2.f2)) ∧ w'.cell? ⟨(ad717.add ((x15_3).toNat * 6)).block, (ad717.add ((x15_3).toNat * 6)).off + 5, none⟩ = some (.int .i64 ((rd_T47 t706 x15_3).f3)) ∧ w'.cell? (ad710.add ((x15_3).toNat * 6)) = some (.int .i64 ((rd_T47 t689 x15_3).f0)) ∧ w'.cell? ⟨(ad710.add ((x15_3).toNat * 6)).block, (ad710.add ((x15_3).toNat * 6)).off + 1, none⟩ = some (.int .i64 ((rd_T47 t689 x15_3).f1)) ∧ w'.cell? ⟨(ad710.add ((x15_3).toNat * 6)).block, (ad710.add ((x15_3).toNat * 6)).off + 2, none⟩ = some (.int .i64 ((rd_T47 t689 x15_3).f2.f0)) ∧ w'.cell? ⟨(ad710.add ((x15_3).toNat * 6)).block, (ad710.add ((x15_3).toNat * 6)).off + 3, none⟩ = some (.int .i64 ((rd_T47 t689 x15_3).f2.f1)) ∧ w'.cell? ⟨(ad710.add ((x15_3).toNat * 6)).block, (ad710.add ((x15_3).toNat * 6)).off + 4, none⟩ = some (.int .i64 ((rd_T47 t689 x15_3).f2.f2)) ∧ w'.cell? ⟨(ad710.add ((x15_3).toNat * 6)).block, (ad710.add ((x15_3).toNat * 6)).off + 5, none⟩ = some (.int .i64 ((rd_T47 t689 x15_3).f3)) ∧ w'.cell? (ad711.add ((x15_3).toNat * 6)) = some (.int .i64 ((rd_T47 t693 x15_3).f0)) ∧ w'.cell? ⟨(ad711.add ((x15_3).toNat * 6)).block, (ad711.add ((x15_3).toNat * 6)).off + 1, none⟩ = some (.int .i64 ((rd_T47 t693 x15_3).f1)) ∧ w'.cell? ⟨(ad711.add ((x15_3).toNat * 6)).block, (ad711.add ((x15_3).toNat * 6)).off + 2, none⟩ = some (.int .i64 ((rd_T47 t693 x15_3).f2.f0)) ∧ w'.cell? ⟨(ad711.add ((x15_3).toNat * 6)).block, (ad711.add ((x15_3).toNat * 6)).off + 3, none⟩ = some (.int .i64 ((rd_T47 t693 x15_3).f2.f1)) ∧ w'.cell? ⟨(ad711.add ((x15_3).toNat * 6)).block, (ad711.add ((x15_3).toNat * 6)).off + 4, none⟩ = some (.int .i64 ((rd_T47 t693 x15_3).f2.f2)) ∧ w'.cell? ⟨(ad711.add ((x15_3).toNat * 6)).block, (ad711.add ((x15_3).toNat * 6)).off + 5, none⟩ = some (.int .i64 ((rd_T47 t693 x15_3).f3)) ∧ w'.cell? (ad710.add ((x15_3).toNat * 6)) = some (.int .i64 ((rd_T47 t689 x15_3).f0)) ∧ w'.cell? ⟨(ad710.add ((x15_3).toNat * 6)).block, (ad710.add ((x15_3).toNat * 6)).off + 1, none⟩ = some (.int .i64 ((rd_T47 t689 x15_3).f1)) ∧ w'.cell? ⟨(ad710.add ((x15_3).toNat * 6)).block, (ad710.add ((x15_3).toNat * 6)).off + 2, none⟩ = some (.int .i64 ((rd_T47 t689 x15_3).f2.f0)) ∧ w'.cell? ⟨(ad710.add ((x15_3).toNat * 6)).block, (ad710.add ((x15_3).toNat * 6)).off + 3, none⟩ = some (.int .i64 ((rd_T47 t689 x15_3).f2.f1)) ∧ w'.cell? ⟨(ad710.add ((x15_3).toNat * 6)).block, (ad710.add ((x15_3).toNat * 6)).off + 4, none⟩ = some (.int .i64 ((rd_T47 t689 x15_3).f2.f2)) ∧ w'.cell? ⟨(ad710.add ((x15_3).toNat * 6)).block, (ad710.add ((x15_3).toNat * 6)).off + 5, none⟩ = some (.int .i64 ((rd_T47 t689 x15_3).f3)) ∧ w'.cell? (ad717.add ((x15_3).toNat * 6)) = some (.int .i64 ((rd_T47 t706 x15_3).f0)) ∧ w'.cell? ⟨(ad717.add ((x15_3).toNat * 6)).block, (ad717.add ((x15_3).toNat * 6)).off + 1, none⟩ = some (.int .i64 ((rd_T47 t706 x15_3).f1)) ∧ w'.cell? ⟨(ad717.add ((x15_3).toNat * 6)).block, (ad717.add ((x15_3).toNat * 6)).off + 2, none⟩ = some (.int .i64 ((rd_T47 t706 x15_3).f2.f0)) ∧ w'.cell? ⟨(ad717.add ((x15_3).toNat * 6)).block, (ad717.add ((x15_3).toNat * 6)).off + 3, none⟩ = some (.int .i64 ((rd_T47 t706 x15_3).f2.f1)) ∧ w'.cell? ⟨(ad717.add ((x15_3).toNat * 6)).block, (ad717.add ((x15_3).toNat * 6)).off + 4, none⟩ = some (.int .i64 ((rd_T47 t706 x15_3).f2.f2)) ∧ w'.cell? ⟨(ad717.add ((x15_3).toNat * 6)).block, (ad717.add ((x15_3).toNat * 6)).off + 5, none⟩ = some (.int .i64 ((rd_T47 t706 x15_3).f3)) ∧ w'.cell? (ad710.add ((x15_3).toNat * 6)) = some (.int .i64 ((rd_T47 t689 x15_3).f0)) ∧ w'.cell? ⟨(ad710.add ((x15_3).toNat * 6)).block, (ad710.add ((x15_3).toNat * 6)).off + 1, none⟩ = some (.int .i64 ((rd_T47 t689 x15_3).f1)) ∧ w'.cell? ⟨(ad710.add ((x15_3).toNat * 6)).block, (ad710.add ((x15_3).toNat * 6)).off + 2, none⟩ = some (.int .i64 ((rd_T47 t689 x15_3).f2.f0)) ∧ w'.cell? ⟨(ad710.add ((x15_3).toNat * 6)).block, (ad710.add ((x15_3).toNat * 6)).off + 3, none⟩ = some (.int .i64 ((rd_T47 t689 x15_3).f2.f1)) ∧ w'.cell? ⟨(ad710.add ((x15_3).toNat * 6)).block, (ad710.add ((x15_3).toNat * 6)).off + 4, none⟩ = some (.int .i64 ((rd_T47 t689 x15_3).f2.f2)) ∧ w'.cell? ⟨(ad710.add ((x15_3).toNat * 6)).block, (ad710.add ((x15_3).toNat * 6)).off + 5, none⟩ = some (.int .i64 ((rd_T47 t689 x15_3).f3)) ∧ w'.cell? (ad711.add ((x15_3).toNat * 6)) = some (.int .i64 ((rd_T47 t693 x15_3).f0)) ∧ w'.cell? ⟨(ad711.add ((x15_3).toNat * 6)).block, (ad711.add ((x15_3).toNat * 6)).off + 1, none⟩ = some (.int .i64 ((rd_T47 t693 x15_3).f1)) ∧ w'.cell? ⟨(ad711.add ((x15_3).toNat * 6)).block, (ad711.add ((x15_3).toNat * 6)).off + 2, none⟩ = some (.int .i64 ((rd_T47 t693 x15_3).f2.f0)) ∧ w'.cell? ⟨(ad711.add ((x15_3).toNat * 6)).block, (ad711.add ((x15_3).toNat * 6)).off + 3, none⟩ = some (.int .i64 ((rd_T47 t693 x15_3).f2.f1)) ∧ w'.cell? ⟨(ad711.add ((x15_3).toNat * 6)).block, (ad711.add ((x15_3).toNat * 6)).off + 4, none⟩ = some (.int .i64 ((rd_T47 t693 x15_3).f2.f2)) ∧ w'.cell? ⟨(ad711.add ((x15_3).toNat * 6)).block, (ad711.add ((x15_3).toNat * 6)).off + 5, none⟩ = some (.int .i64 ((rd_T47 t693 x15_3).f3)) ∧ w'.cell? (ad710.add ((x15_3).toNat * 6)) = some (.int .i64 ((rd_T47 t689 x15_3).f0)) ∧ w'.cell? ⟨(ad710.add ((x15_3).toNat * 6)).block, (ad710.add ((x15_3).toNat * 6)).off + 1, none⟩ = some (.int .i64 ((rd_T47 t689 x15_3).f1)) ∧ w'.cell? ⟨(ad710.add ((x15_3).toNat * 6)).block, (ad710.add ((x15_3).toNat * 6)).off + 2, none⟩ = some (.int .i64 ((rd_T47 t689 x15_3).f2.f0)) ∧ w'.cell? ⟨(ad710.add ((x15_3).toNat * 6)).block, (ad710.add ((x15_3).toNat * 6)).off + 3, none⟩ = some (.int .i64 ((rd_T47 t689 x15_3).f2.f1)) ∧ w'.cell? ⟨(ad710.add ((x15_3).toNat * 6)).block, (ad710.add ((x15_3).toNat * 6)).off + 4, none⟩ = some (.int .i64 ((rd_T47 t689 x15_3).f2.f2)) ∧ w'.cell? ⟨(ad710.add ((x15_3).toNat * 6)).block, (ad710.add ((x15_3).toNat * 6)).off + 5, none⟩ = some (.int .i64 ((rd_T47 t689 x15_3).f3)) ∧ w'.cell? (ad717.add ((x15_3).toNat * 6)) = some (.int .i64 ((rd_T47 t706 x15_3).f0)) ∧ w'.cell? ⟨(ad717.add ((x15_3).toNat * 6)).block, (ad717.add ((x15_3).toNat * 6)).off + 1, none⟩ = some (.int .i64 ((rd_T47 t706 x15_3).f1)) ∧ w'.cell? ⟨(ad717.add ((x15_3).toNat * 6)).block, (ad717.add ((x15_3).toNat * 6)).off + 2, none⟩ = some (.int .i64 ((rd_T47 t706 x15_3).f2.f0)) ∧ w'.cell? ⟨(ad717.add ((x15_3).toNat * 6)).block, (ad717.add ((x15_3).toNat * 6)).off + 3, none⟩ = some (.int .i64 ((rd_T47 t706 x15_3).f2.f1)) ∧ w'.cell? ⟨(ad717.add ((x15_3).toNat * 6)).block, (ad717.add ((x15_3).toNat * 6)).off + 4, none⟩ = some (.int .i64 ((rd_T47 t706 x15_3).f2.f2)) ∧ w'.cell? ⟨(ad717.add ((x15_3).toNat * 6)).block, (ad717.add ((x15_3).toNat * 6)).off + 5, none⟩ = some (.int .i64 ((rd_T47 t706 x15_3).f3)) ∧ w'.cell? (ad710.add ((x15_3).toNat * 6)) = some (.int .i64 ((rd_T47 t689 x15_3).f0)) ∧ w'.cell? ⟨(ad710.add ((x15_3).toNat * 6)).block, (ad710.add ((x15_3).toNat * 6)).off + 1, none⟩ = some (.int .i64 ((rd_T47 t689 x15_3).f1)) ∧ w'.cell? ⟨(ad710.add ((x15_3).toNat * 6)).block, (ad710.add ((x15_3).toNat * 6)).off + 2, none⟩ = some (.int .i64 ((rd_T47 t689 x15_3).f2.f0)) ∧ w'.cell? ⟨(ad710.add ((x15_3).toNat * 6)).block, (ad710.add ((x15_3).toNat * 6)).off + 3, none⟩ = some (.int .i64 ((rd_T47 t689 x15_3).f2.f1)) ∧ w'.cell? ⟨(ad710.add ((x15_3).toNat * 6)).block, (ad710.add ((x15_3).toNat * 6)).off + 4, none⟩ = some (.int .i64 ((rd_T47 t689 x15_3).f2.f2)) ∧ w'.cell? ⟨(ad710.add ((x15_3).toNat * 6)).block, (ad710.add ((x15_3).toNat * 6)).off + 5, none⟩ = some (.int .i64 ((rd_T47 t689 x15_3).f3)) ∧ w'.cell? (ad710.add ((x15_3).toNat * 6)) = some (.int .i64 ((rd_T47 t689 x15_3).f0)) ∧ w'.cell? ⟨(ad710.add ((x15_3).toNat * 6)).block, (ad710.add ((x15_3).toNat * 6)).off + 1, none⟩ = some (.int .i64 ((rd_T47 t689 x15_3).f1)) ∧ w'.cell? ⟨(ad710.add ((x15_3).toNat * 6)).block, (ad710.add ((x15_3).toNat * 6)).off + 2, none⟩ = some (.int .i64 ((rd_T47 t689 x15_3).f2.f0)) ∧ w'.cell? ⟨(ad710.add ((x15_3).toNat * 6)).block, (ad710.add ((x15_3).toNat * 6)).off + 3, none⟩ = some (.int .i64 ((rd_T47 t689 x15_3).f2.f1)) ∧ w'.cell? ⟨(ad710.add ((x15_3).toNat * 6)).block, (ad710.add ((x15_3).toNat * 6)).off + 4, none⟩ = some (.int .i64 ((rd_T47 t689 x15_3).f2.f2)) ∧ w'.cell? ⟨(ad710.add ((x15_3).toNat * 6)).block, (ad710.add ((x15_3).toNat * 6)).off + 5, none⟩ = some (.int .i64 ((rd_T47 t689 x15_3).f3)) ∧ w'.cell? (ad710.add ((x15_3).toNat * 6)) = some (.int .i64 ((rd_T47 t689 x15_3).f0)) ∧ w'.cell? ⟨(ad710.add ((x15_3).toNat * 6)).block, (ad710.add ((x15_3).toNat * 6)).off + 1, none⟩ = some (.int .i64 ((rd_T47 t689 x15_3).f1)) ∧ w'.cell? ⟨(ad710.add ((x15_3).toNat * 6)).block, (ad710.add ((x15_3).toNat * 6)).off + 2, none⟩ = some (.int .i64 ((rd_T47 t689 x15_3).f2.f0)) ∧ w'.cell? ⟨(ad710.add ((x15_3).toNat * 6)).block, (ad710.add ((x15_3).toNat * 6)).off + 3, none⟩ = some (.int .i64 ((rd_T47 t689 x15_3).f2.f1)) ∧ w'.cell? ⟨(ad710.add ((x15_3).toNat * 6)).block, (ad710.add ((x15_3).toNat * 6)).off + 4, none⟩ = some (.int .i64 ((rd_T47 t689 x15_3).f2.f2)) ∧ w'.cell? ⟨(ad710.add ((x15_3).toNat * 6)).block, (ad710.add ((x15_3).toNat * 6)).off + 5, none⟩ = some (.int .i64 ((rd_T47 t689 x15_3).f3))) (ds := []) #[false, false, false, false, false, false, false, false, false, false, false, false, false, false, false, false, false, false, false, false, false, false, false, false, false, false, false, false, false, false, false, false, false, false, false, false, false, false, false, false, false, false, false, false, false, false, false, false, false, false, false, false, false, false, false, false, false, false, false, false, false, false, false, false, false, false, false, false, false, false, false, false, false, false, false, false, false, false, false, false, false, false, false, false] (by kernel_rfl) rfl rfl ⟨(blk_cell BK716.out 0).trans rfl, (blk_cell BK716.out 1).trans rfl, (blk_cell BK716.out 2).trans rfl, hx717_0, hx717_1, hx717_2, hx717_3, hx717_4, hx717_5, hx718_0, hx718_1, hx718_2, hx718_3, hx718_4, hx718_5, hx719_0, hx719_1, hx719_2, hx719_3, hx719_4, hx719_5, hx720_0, hx720_1, hx720_2, hx720_3, hx720_4, hx720_5, hx721_0, hx721_1, hx721_2, hx721_3, hx721_4, hx721_5, hx722_0, hx722_1, hx722_2, hx722_3, hx722_4, hx722_5, hx723_0, hx723_1, hx723_2, hx723_3, hx723_4, hx723_5, hx724_0, hx724_1, hx724_2, hx724_3, hx724_4, hx724_5, hx725_0, hx725_1, hx725_2, hx725_3, hx725_4, hx725_5, hx726_0, hx726_1, hx726_2, hx726_3, hx726_4, hx726_5, hx727_0, hx727_1, hx727_2, hx727_3, hx727_4, hx727_5, hx728_0, hx728_1, hx728_2, hx728_3, hx728_4, hx728_5⟩ (fun hHeld => ?_); refine with_tabW fringelaw41_SkyAdds.tab14 fringelaw41_SkyAdds.bits14 (fun HT_ HW_ => ?_)
                       generalize w61.drew = w62 at HO_8 HO_10 HO_12 HO_13 BK716 HB hx717_0 hx717_1 hx717_2 hx717_3 hx717_4 hx717_5 hx718_0 hx718_1 hx718_2 hx718_3 hx718_4 hx718_5 hx719_0 hx719_1 hx719_2 hx719_3 hx719_4 hx719_5 hx720_0 hx720_1 hx720_2 hx720_3 hx720_4 hx720_5 hx721_0 hx721_1 hx721_2 hx721_3 hx721_4 hx721_5 hx722_0 hx722_1 hx722_2 hx722_3 hx722_4 hx722_5 hx723_0 hx723_1 hx723_2 hx723_3 hx723_4 hx723_5 hx724_0 hx724_1 hx724_2 hx724_3 hx724_4 hx724_5 hx725_0 hx725_1 hx725_2 hx725_3 hx725_4 hx725_5 hx726_0 hx726_1 hx726_2 hx726_3 hx726_4 hx726_5 hx727_0 hx727_1 hx727_2 hx727_3 hx727_4 hx727_5 hx728_0 hx728_1 hx728_2 hx728_3 hx728_4 hx728_5 hHeld ⊢
                       refine pure_ (i := 0) (N := some 127) (v := ?_) (a' := ?_) #[true, false, false, false, false, false, false, false, false, false, false, false, false, false, false, false, false, false, false, false, false, false, false, false, false, false, false, false, false, false, false, false, false, false, false, false, false, false, false, false, false, false, false, false, false, false, false, false, false, false, false, false, false, false, false, false, false, false, false, false, false, false, false, false, false, false, false, false, false, false, false, false, false, false, false, false, false, false, false, false, false, false, false, false] rfl rfl (any_of HT_.out (by kernel_rfl)) (fun _ _ _ h => h) (Or.inl ⟨by rfl, ?_⟩) ?_ ?_
                       rotate_left
                       ·as_aux_lemma =>
                        intro w'
                        go_simp
                        with_reducible rfl
                       rotate_left
                       ·as_aux_lemma =>
                        simp only [Act.put, List.setIfInBounds_toArray, List.set_cons_zero, List.set_cons_succ, i64_w, i32_w]
                        rfl
                       refine pure_ (i := 1) (N := some 128) (v := ?_) (a' := ?_) #[true, true, false, false, false, false, false, false, false, false, false, false, false, false, false, false, false, false, false, false, false, false, false, false, false, false, false, false, false, false, false, false, false, false, false, false, false, false, false, false, false, false, false, false, false, false, false, false, false, false, false, false, false, false, false, false, false, false, false, false, false, false, false, false, false, false, false, false, false, false, false, false, false, false, false, false, false, false, false, false, false, false, false, false] rfl rfl (any_of HT_.out (by kernel_rfl)) (fun _ _ _ h => h) (Or.inl ⟨by rfl, ?_⟩) ?_ ?_
                       rotate_left
                       ·as_aux_lemma =>
                        intro w'
                        go_simp
                        with_reducible rfl
                       rotate_left
                       ·as_aux_lemma =>
                        simp only [Act.put, List.setIfInBounds_toArray, List.set_cons_zero, List.set_cons_succ, i64_w, i32_w]
                        rfl
                       refine pure_ (i := 2) (N := some 129) (v := ?_) (a' := ?_) #[true, true, true, false, false, false, false, false, false, false, false, false, false, false, false, false, false, false, false, false, false, false, false, false, false, false, false, false, false, false, false, false, false, false, false, false, false, false, false, false, false, false, false, false, false, false, false, false, false, false, false, false, false, false, false, false, false, false, false, false, false, false, false, false, false, false, false, false, false, false, false, false, false, false, false, false, false, false, false, false, false, false, false, false] rfl rfl (any_of HT_.out (by kernel_rfl)) (fun _ _ _ h => h) (Or.inl ⟨by rfl, ?_⟩) ?_ ?_
                       rotate_left
                       ·as_aux_lemma =>
                        intro w'
                        go_simp
                        with_reducible rfl
                       rotate_left
                       ·as_aux_lemma =>
                        simp only [Act.put, List.setIfInBounds_toArray, List.set_cons_zero, List.set_cons_succ, i64_w, i32_w]
                        rfl
                       refine pure_ (i := 4) (N := some 131) (v := ?_) (a' := ?_) #[true, true, true, false, true, false, false, false, false, false, false, false, false, false, false, false, false, false, false, false, false, false, false, false, false, false, false, false, false, false, false, false, false, false, false, false, false, false, false, false, false, false, false, false, false, false, false, false, false, false, false, false, false, false, false, false, false, false, false, false, false, false, false, false, false, false, false, false, false, false, false, false, false, false, false, false, false, false, false, false, false, false, false, false] rfl rfl (any_of HT_.out (by kernel_rfl)) (fun _ _ _ h => h) (Or.inl ⟨by rfl, ?_⟩) ?_ ?_
                       rotate_left
                       ·as_aux_lemma =>
                        intro w'
                        go_simp
                        with_reducible rfl
                       rotate_left
                       ·as_aux_lemma =>
                        simp only [Act.put, List.setIfInBounds_toArray, List.set_cons_zero, List.set_cons_succ, i64_w, i32_w]
                        rfl
                       refine pure_ (i := 5) (N := some 132) (v := ?_) (a' := ?_) #[true, true, true, false, true, true, false, false, false, false, false, false, false, false, false, false, false, false, false, false, false, false, false, false, false, false, false, false, false, false, false, false, false, false, false, false, false, false, false, false, false, false, false, false, false, false, false, false, false, false, false, false, false, false, false, false, false, false, false, false, false, false, false, false, false, false, false, false, false, false, false, false, false, false, false, false, false, false, false, false, false, false, false, false] rfl rfl (any_of HT_.out (by kernel_rfl)) (fun _ _ _ h => h) (Or.inl ⟨by rfl, ?_⟩) ?_ ?_
                       rotate_left
                       ·as_aux_lemma =>
                        intro w'
                        go_simp
                        with_reducible rfl
                       rotate_left
                       ·as_aux_lemma =>
                        simp only [Act.put, List.setIfInBounds_toArray, List.set_cons_zero, List.set_cons_succ, i64_w, i32_w]
                        rfl
                       refine pure_ (i := 6) (N := some 133) (v := ?_) (a' := ?_) #[true, true, true, false, true, true, true, false, false, false, false, false, false, false, false, false, false, false, false, false, false, false, false, false, false, false, false, false, false, false, false, false, false, false, false, false, false, false, false, false, false, false, false, false, false, false, false, false, false, false, false, false, false, false, false, false, false, false, false, false, false, false, false, false, false, false, false, false, false, false, false, false, false, false, false, false, false, false, false, false, false, false, false, false] rfl rfl (any_of HT_.out (by kernel_rfl)) (fun _ _ _ h => h) (Or.inl ⟨by rfl, ?_⟩) ?_ ?_
                       rotate_left
                       ·as_aux_lemma =>
                        intro w'
                        go_simp
                        with_reducible rfl
                       rotate_left
                       ·as_aux_lemma =>
                        simp only [Act.put, List.setIfInBounds_toArray, List.set_cons_zero, List.set_cons_succ, i64_w, i32_w]
                        rfl
                       refine pure_ (i := 7) (N := some 134) (v := ?_) (a' := ?_) #[true, true, true, false, true, true, true, true, false, false, false, false, false, false, false, false, false, false, false, false, false, false, false, false, false, false, false, false, false, false, false, false, false, false, false, false, false, false, false, false, false, false, false, false, false, false, false, false, false, false, false, false, false, false, false, false, false, false, false, false, false, false, false, false, false, false, false, false, false, false, false, false, false, false, false, false, false, false, false, false, false, false, false, false] rfl rfl (any_of HT_.out (by kernel_rfl)) (fun _ _ _ h => h) (Or.inl ⟨by rfl, ?_⟩) ?_ ?_
                       rotate_left
                       ·as_aux_lemma =>
                        intro w'
                        go_simp
                        with_reducible rfl
                       rotate_left
                       ·as_aux_lemma =>
                        simp only [Act.put, List.setIfInBounds_toArray, List.set_cons_zero, List.set_cons_succ, i64_w, i32_w]
                        rfl
                       refine take_ (i := 3) (N := some 130) (v := ?_) (a' := ?_) #[true, true, true, true, true, true, true, true, false, false, false, false, false, false, false, false, false, false, false, false, false, false, false, false, false, false, false, false, false, false, false, false, false, false, false, false, false, false, false, false, false, false, false, false, false, false, false, false, false, false, false, false, false, false, false, false, false, false, false, false, false, false, false, false, false, false, false, false, false, false, false, false, false, false, false, false, false, false, false, false, false, false, false, false] rfl rfl (take_ofW HT_.out HW_.out (by kernel_rfl)) (fun _ _ _ h => h) (Or.inl ⟨by rfl, ?_⟩) hHeld ?_ ?_
                       rotate_left
                       ·as_aux_lemma =>
                        rintro w' ⟨s0, s1, s2, s3, s4, s5, s6, s7, s8, s9, s10, s11, s12, s13, s14, s15, s16, s17, s18, s19, s20, s21, s22, s23, s24, s25, s26, s27, s28, s29, s30, s31, s32, s33, s34, s35, s36, s37, s38, s39, s40, s41, s42, s43, s44, s45, s46, s47, s48, s49, s50, s51, s52, s53, s54, s55, s56, s57, s58, s59, s60, s61, s62, s63, s64, s65, s66, s67, s68, s69, s70, s71, s72, s73, s74⟩
                        go_simp
                        with_reducible rfl
                       rotate_left
                       ·as_aux_lemma =>
                        simp only [Act.put, List.setIfInBounds_toArray, List.set_cons_zero, List.set_cons_succ, i64_w, i32_w]
                        rfl
                       refine take_ (i := 8) (N := some 135) (v := ?_) (a' := ?_) #[true, true, true, true, true, true, true, true, true, false, false, false, false, false, false, false, false, false, false, false, false, false, false, false, false, false, false, false, false, false, false, false, false, false, false, false, false, false, false, false, false, false, false, false, false, false, false, false, false, false, false, false, false, false, false, false, false, false, false, false, false, false, false, false, false, false, false, false, false, false, false, false, false, false, false, false, false, false, false, false, false, false, false, false] rfl rfl (take_ofW HT_.out HW_.out (by kernel_rfl)) (fun _ _ _ h => h) (Or.inl ⟨by rfl, ?_⟩) hHeld ?_ ?_
                       rotate_left
                       ·as_aux_lemma =>
                        rintro w' ⟨s0, s1, s2, s3, s4, s5, s6, s7, s8, s9, s10, s11, s12, s13, s14, s15, s16, s17, s18, s19, s20, s21, s22, s23, s24, s25, s26, s27, s28, s29, s30, s31, s32, s33, s34, s35, s36, s37, s38, s39, s40, s41, s42, s43, s44, s45, s46, s47, s48, s49, s50, s51, s52, s53, s54, s55, s56, s57, s58, s59, s60, s61, s62, s63, s64, s65, s66, s67, s68, s69, s70, s71, s72, s73, s74⟩
                        go_simp
                        with_reducible rfl
                       rotate_left
                       ·as_aux_lemma =>
                        simp only [Act.put, List.setIfInBounds_toArray, List.set_cons_zero, List.set_cons_succ, i64_w, i32_w]
                        rfl
                       refine pure_ (i := 9) (N := some 136) (v := ?_) (a' := ?_) #[true, true, true, true, true, true, true, true, true, true, false, false, false, false, false, false, false, false, false, false, false, false, false, false, false, false, false, false, false, false, false, false, false, false, false, false, false, false, false, false, false, false, false, false, false, false, false, false, false, false, false, false, false, false, false, false, false, false, false, false, false, false, false, false, false, false, false, false, false, false, false, false, false, false, false, false, false, false, false, false, false, false, false, false] rfl rfl (any_of HT_.out (by kernel_rfl)) (fun _ _ _ h => h) (Or.inl ⟨by rfl, ?_⟩) ?_ ?_
                       rotate_left
                       ·as_aux_lemma =>
                        intro w'
                        go_simp
                        with_reducible rfl
                       rotate_left
                       ·as_aux_lemma =>
                        simp only [Act.put, List.setIfInBounds_toArray, List.set_cons_zero, List.set_cons_succ, i64_w, i32_w]
                        rfl
                       refine pure_ (i := 10) (N := some 137) (v := ?_) (a' := ?_) #[true, true, true, true, true, true, true, true, true, true, true, false, false, false, false, false, false, false, false, false, false, false, false, false, false, false, false, false, false, false, false, false, false, false, false, false, false, false, false, false, false, false, false, false, false, false, false, false, false, false, false, false, false, false, false, false, false, false, false, false, false, false, false, false, false, false, false, false, false, false, false, false, false, false, false, false, false, false, false, false, false, false, false, false] rfl rfl (any_of HT_.out (by kernel_rfl)) (fun _ _ _ h => h) (Or.inl ⟨by rfl, ?_⟩) ?_ ?_
                       rotate_left
                       ·as_aux_lemma =>
                        intro w'
                        go_simp
                        with_reducible rfl
                       rotate_left
                       ·as_aux_lemma =>
                        simp only [Act.put, List.setIfInBounds_toArray, List.set_cons_zero, List.set_cons_succ, i64_w, i32_w]
                        rfl
                       refine pure_ (i := 11) (N := some 138) (v := ?_) (a' := ?_) #[true, true, true, true, true, true, true, true, true, true, true, true, false, false, false, false, false, false, false, false, false, false, false, false, false, false, false, false, false, false, false, false, false, false, false, false, false, false, false, false, false, false, false, false, false, false, false, false, false, false, false, false, false, false, false, false, false, false, false, false, false, false, false, false, false, false, false, false, false, false, false, false, false, false, false, false, false, false, false, false, false, false, false, false] rfl rfl (any_of HT_.out (by kernel_rfl)) (fun _ _ _ h => h) (Or.inl ⟨by rfl, ?_⟩) ?_ ?_
                       rotate_left
                       ·as_aux_lemma =>
                        intro w'
                        go_simp
                        with_reducible rfl
                       rotate_left
                       ·as_aux_lemma =>
                        simp only [Act.put, List.setIfInBounds_toArray, List.set_cons_zero, List.set_cons_succ, i64_w, i32_w]
                        rfl
                       refine pure_ (i := 12) (N := some 139) (v := ?_) (a' := ?_) #[true, true, true, true, true, true, true, true, true, true, true, true, true, false, false, false, false, false, false, false, false, false, false, false, false, false, false, false, false, false, false, false, false, false, false, false, false, false, false, false, false, false, false, false, false, false, false, false, false, false, false, false, false, false, false, false, false, false, false, false, false, false, false, false, false, false, false, false, false, false, false, false, false, false, false, false, false, false, false, false, false, false, false, false] rfl rfl (any_of HT_.out (by kernel_rfl)) (fun _ _ _ h => h) (Or.inl ⟨by rfl, ?_⟩) ?_ ?_
                       rotate_left
                       ·as_aux_lemma =>
                        intro w'
                        go_simp
                        with_reducible rfl
                       rotate_left
                       ·as_aux_lemma =>
                        simp only [Act.put, List.setIfInBounds_toArray, List.set_cons_zero, List.set_cons_succ, i64_w, i32_w]
                        rfl
                       refine pure_ (i := 13) (N := some 140) (v := ?_) (a' := ?_) #[true, true, true, true, true, true, true, true, true, true, true, true, true, true, false, false, false, false, false, false, false, false, false, false, false, false, false, false, false, false, false, false, false, false, false, false, false, false, false, false, false, false, false, false, false, false, false, false, false, false, false, false, false, false, false, false, false, false, false, false, false, false, false, false, false, false, false, false, false, false, false, false, false, false, false, false, false, false, false, false, false, false, false, false] rfl rfl (any_of HT_.out (by kernel_rfl)) (fun _ _ _ h => h) (Or.inl ⟨by rfl, ?_⟩) ?_ ?_
                       rotate_left
                       ·as_aux_lemma =>
                        intro w'
                        go_simp
                        with_reducible rfl
                       rotate_left
                       ·as_aux_lemma =>
                        simp only [Act.put, List.setIfInBounds_toArray, List.set_cons_zero, List.set_cons_succ, i64_w, i32_w]
                        rfl
                       refine pure_ (i := 14) (N := some 141) (v := ?_) (a' := ?_) #[true, true, true, true, true, true, true, true, true, true, true, true, true, true, true, false, false, false, false, false, false, false, false, false, false, false, false, false, false, false, false, false, false, false, false, false, false, false, false, false, false, false, false, false, false, false, false, false, false, false, false, false, false, false, false, false, false, false, false, false, false, false, false, false, false, false, false, false, false, false, false, false, false, false, false, false, false, false, false, false, false, false, false, false] rfl rfl (any_of HT_.out (by kernel_rfl)) (fun _ _ _ h => h) (Or.inl ⟨by rfl, ?_⟩) ?_ ?_
                       rotate_left
                       ·as_aux_lemma =>
                        intro w'
                        go_simp
                        with_reducible rfl
                       rotate_left
                       ·as_aux_lemma =>
                        simp only [Act.put, List.setIfInBounds_toArray, List.set_cons_zero, List.set_cons_succ, i64_w, i32_w]
                        rfl
                       refine pure_ (i := 15) (N := some 142) (v := ?_) (a' := ?_) #[true, true, true, true, true, true, true, true, true, true, true, true, true, true, true, true, false, false, false, false, false, false, false, false, false, false, false, false, false, false, false, false, false, false, false, false, false, false, false, false, false, false, false, false, false, false, false, false, false, false, false, false, false, false, false, false, false, false, false, false, false, false, false, false, false, false, false, false, false, false, false, false, false, false, false, false, false, false, false, false, false, false, false, false] rfl rfl (any_of HT_.out (by kernel_rfl)) (fun _ _ _ h => h) (Or.inl ⟨by rfl, ?_⟩) ?_ ?_
                       rotate_left
                       ·as_aux_lemma =>
                        intro w'
                        go_simp
                        with_reducible rfl
                       rotate_left
                       ·as_aux_lemma =>
                        simp only [Act.put, List.setIfInBounds_toArray, List.set_cons_zero, List.set_cons_succ, i64_w, i32_w]
                        rfl
                       refine pure_ (i := 17) (N := some 144) (v := ?_) (a' := ?_) #[true, true, true, true, true, true, true, true, true, true, true, true, true, true, true, true, false, true, false, false, false, false, false, false, false, false, false, false, false, false, false, false, false, false, false, false, false, false, false, false, false, false, false, false, false, false, false, false, false, false, false, false, false, false, false, false, false, false, false, false, false, false, false, false, false, false, false, false, false, false, false, false, false, false, false, false, false, false, false, false, false, false, false, false] rfl rfl (any_of HT_.out (by kernel_rfl)) (fun _ _ _ h => h) (Or.inl ⟨by rfl, ?_⟩) ?_ ?_
                       rotate_left
                       ·as_aux_lemma =>
                        intro w'
                        go_simp
                        with_reducible rfl
                       rotate_left
                       ·as_aux_lemma =>
                        simp only [Act.put, List.setIfInBounds_toArray, List.set_cons_zero, List.set_cons_succ, i64_w, i32_w]
                        rfl
                       refine pure_ (i := 18) (N := some 145) (v := ?_) (a' := ?_) #[true, true, true, true, true, true, true, true, true, true, true, true, true, true, true, true, false, true, true, false, false, false, false, false, false, false, false, false, false, false, false, false, false, false, false, false, false, false, false, false, false, false, false, false, false, false, false, false, false, false, false, false, false, false, false, false, false, false, false, false, false, false, false, false, false, false, false, false, false, false, false, false, false, false, false, false, false, false, false, false, false, false, false, false] rfl rfl (any_of HT_.out (by kernel_rfl)) (fun _ _ _ h => h) (Or.inl ⟨by rfl, ?_⟩) ?_ ?_
                       rotate_left
                       ·as_aux_lemma =>
                        intro w'
                        go_simp
                        with_reducible rfl
                       rotate_left
                       ·as_aux_lemma =>
                        simp only [Act.put, List.setIfInBounds_toArray, List.set_cons_zero, List.set_cons_succ, i64_w, i32_w]
                        rfl
                       refine pure_ (i := 19) (N := some 146) (v := ?_) (a' := ?_) #[true, true, true, true, true, true, true, true, true, true, true, true, true, true, true, true, false, true, true, true, false, false, false, false, false, false, false, false, false, false, false, false, false, false, false, false, false, false, false, false, false, false, false, false, false, false, false, false, false, false, false, false, false, false, false, false, false, false, false, false, false, false, false, false, false, false, false, false, false, false, false, false, false, false, false, false, false, false, false, false, false, false, false, false] rfl rfl (any_of HT_.out (by kernel_rfl)) (fun _ _ _ h => h) (Or.inl ⟨by rfl, ?_⟩) ?_ ?_
                       rotate_left
                       ·as_aux_lemma =>
                        intro w'
                        go_simp
                        with_reducible rfl
                       rotate_left
                       ·as_aux_lemma =>
                        simp only [Act.put, List.setIfInBounds_toArray, List.set_cons_zero, List.set_cons_succ, i64_w, i32_w]
                        rfl
                       refine pure_ (i := 20) (N := some 147) (v := ?_) (a' := ?_) #[true, true, true, true, true, true, true, true, true, true, true, true, true, true, true, true, false, true, true, true, true, false, false, false, false, false, false, false, false, false, false, false, false, false, false, false, false, false, false, false, false, false, false, false, false, false, false, false, false, false, false, false, false, false, false, false, false, false, false, false, false, false, false, false, false, false, false, false, false, false, false, false, false, false, false, false, false, false, false, false, false, false, false, false] rfl rfl (any_of HT_.out (by kernel_rfl)) (fun _ _ _ h => h) (Or.inl ⟨by rfl, ?_⟩) ?_ ?_
                       rotate_left
                       ·as_aux_lemma =>
                        intro w'
                        go_simp
                        with_reducible rfl
                       rotate_left
                       ·as_aux_lemma =>
                        simp only [Act.put, List.setIfInBounds_toArray, List.set_cons_zero, List.set_cons_succ, i64_w, i32_w]
                        rfl
                       refine take_ (i := 16) (N := some 143) (v := ?_) (a' := ?_) #[true, true, true, true, true, true, true, true, true, true, true, true, true, true, true, true, true, true, true, true, true, false, false, false, false, false, false, false, false, false, false, false, false, false, false, false, false, false, false, false, false, false, false, false, false, false, false, false, false, false, false, false, false, false, false, false, false, false, false, false, false, false, false, false, false, false, false, false, false, false, false, false, false, false, false, false, false, false, false, false, false, false, false, false] rfl rfl (take_ofW HT_.out HW_.out (by kernel_rfl)) (fun _ _ _ h => h) (Or.inl ⟨by rfl, ?_⟩) hHeld ?_ ?_
                       rotate_left
                       ·as_aux_lemma =>
                        rintro w' ⟨s0, s1, s2, s3, s4, s5, s6, s7, s8, s9, s10, s11, s12, s13, s14, s15, s16, s17, s18, s19, s20, s21, s22, s23, s24, s25, s26, s27, s28, s29, s30, s31, s32, s33, s34, s35, s36, s37, s38, s39, s40, s41, s42, s43, s44, s45, s46, s47, s48, s49, s50, s51, s52, s53, s54, s55, s56, s57, s58, s59, s60, s61, s62, s63, s64, s65, s66, s67, s68, s69, s70, s71, s72, s73, s74⟩
                        go_simp
                        with_reducible rfl
                       rotate_left
                       ·as_aux_lemma =>
                        simp only [Act.put, List.setIfInBounds_toArray, List.set_cons_zero, List.set_cons_succ, i64_w, i32_w]
                        rfl
                       refine take_ (i := 21) (N := some 148) (v := ?_) (a' := ?_) #[true, true, true, true, true, true, true, true, true, true, true, true, true, true, true, true, true, true, true, true, true, true, false, false, false, false, false, false, false, false, false, false, false, false, false, false, false, false, false, false, false, false, false, false, false, false, false, false, false, false, false, false, false, false, false, false, false, false, false, false, false, false, false, false, false, false, false, false, false, false, false, false, false, false, false, false, false, false, false, false, false, false, false, false] rfl rfl (take_ofW HT_.out HW_.out (by kernel_rfl)) (fun _ _ _ h => h) (Or.inl ⟨by rfl, ?_⟩) hHeld ?_ ?_
                       rotate_left
                       ·as_aux_lemma =>
                        rintro w' ⟨s0, s1, s2, s3, s4, s5, s6, s7, s8, s9, s10, s11, s12, s13, s14, s15, s16, s17, s18, s19, s20, s21, s22, s23, s24, s25, s26, s27, s28, s29, s30, s31, s32, s33, s34, s35, s36, s37, s38, s39, s40, s41, s42, s43, s44, s45, s46, s47, s48, s49, s50, s51, s52, s53, s54, s55, s56, s57, s58, s59, s60, s61, s62, s63, s64, s65, s66, s67, s68, s69, s70, s71, s72, s73, s74⟩
                        go_simp
                        with_reducible rfl
                       rotate_left
                       ·as_aux_lemma =>
                        simp only [Act.put, List.setIfInBounds_toArray, List.set_cons_zero, List.set_cons_succ, i64_w, i32_w]
                        rfl
                       refine pure_ (i := 22) (N := some 149) (v := ?_) (a' := ?_) #[true, true, true, true, true, true, true, true, true, true, true, true, true, true, true, true, true, true, true, true, true, true, true, false, false, false, false, false, false, false, false, false, false, false, false, false, false, false, false, false, false, false, false, false, false, false, false, false, false, false, false, false, false, false, false, false, false, false, false, false, false, false, false, false, false, false, false, false, false, false, false, false, false, false, false, false, false, false, false, false, false, false, false, false] rfl rfl (any_of HT_.out (by kernel_rfl)) (fun _ _ _ h => h) (Or.inl ⟨by rfl, ?_⟩) ?_ ?_
                       rotate_left
                       ·as_aux_lemma =>
                        intro w'
                        go_simp
                        with_reducible rfl
                       rotate_left
                       ·as_aux_lemma =>
                        simp only [Act.put, List.setIfInBounds_toArray, List.set_cons_zero, List.set_cons_succ, i64_w, i32_w]
                        rfl
                       refine pure_ (i := 23) (N := some 150) (v := ?_) (a' := ?_) #[true, true, true, true, true, true, true, true, true, true, true, true, true, true, true, true, true, true, true, true, true, true, true, true, false, false, false, false, false, false, false, false, false, false, false, false, false, false, false, false, false, false, false, false, false, false, false, false, false, false, false, false, false, false, false, false, false, false, false, false, false, false, false, false, false, false, false, false, false, false, false, false, false, false, false, false, false, false, false, false, false, false, false, false] rfl rfl (any_of HT_.out (by kernel_rfl)) (fun _ _ _ h => h) (Or.inl ⟨by rfl, ?_⟩) ?_ ?_
                       rotate_left
                       ·as_aux_lemma =>
                        intro w'
                        go_simp
                        with_reducible rfl
                       rotate_left
                       ·as_aux_lemma =>
                        simp only [Act.put, List.setIfInBounds_toArray, List.set_cons_zero, List.set_cons_succ, i64_w, i32_w]
                        rfl
                       refine pure_ (i := 24) (N := some 151) (v := ?_) (a' := ?_) #[true, true, true, true, true, true, true, true, true, true, true, true, true, true, true, true, true, true, true, true, true, true, true, true, true, false, false, false, false, false, false, false, false, false, false, false, false, false, false, false, false, false, false, false, false, false, false, false, false, false, false, false, false, false, false, false, false, false, false, false, false, false, false, false, false, false, false, false, false, false, false, false, false, false, false, false, false, false, false, false, false, false, false, false] rfl rfl (any_of HT_.out (by kernel_rfl)) (fun _ _ _ h => h) (Or.inl ⟨by rfl, ?_⟩) ?_ ?_
                       rotate_left
                       ·as_aux_lemma =>
                        intro w'
                        go_simp
                        with_reducible rfl
                       rotate_left
                       ·as_aux_lemma =>
                        simp only [Act.put, List.setIfInBounds_toArray, List.set_cons_zero, List.set_cons_succ, i64_w, i32_w]
                        rfl
                       refine pure_ (i := 25) (N := some 152) (v := ?_) (a' := ?_) #[true, true, true, true, true, true, true, true, true, true, true, true, true, true, true, true, true, true, true, true, true, true, true, true, true, true, false, false, false, false, false, false, false, false, false, false, false, false, false, false, false, false, false, false, false, false, false, false, false, false, false, false, false, false, false, false, false, false, false, false, false, false, false, false, false, false, false, false, false, false, false, false, false, false, false, false, false, false, false, false, false, false, false, false] rfl rfl (any_of HT_.out (by kernel_rfl)) (fun _ _ _ h => h) (Or.inl ⟨by rfl, ?_⟩) ?_ ?_
                       rotate_left
                       ·as_aux_lemma =>
                        intro w'
                        go_simp
                        with_reducible rfl
                       rotate_left
                       ·as_aux_lemma =>
                        simp only [Act.put, List.setIfInBounds_toArray, List.set_cons_zero, List.set_cons_succ, i64_w, i32_w]
                        rfl
                       refine pure_ (i := 26) (N := some 153) (v := ?_) (a' := ?_) #[true, true, true, true, true, true, true, true, true, true, true, true, true, true, true, true, true, true, true, true, true, true, true, true, true, true, true, false, false, false, false, false, false, false, false, false, false, false, false, false, false, false, false, false, false, false, false, false, false, false, false, false, false, false, false, false, false, false, false, false, false, false, false, false, false, false, false, false, false, false, false, false, false, false, false, false, false, false, false, false, false, false, false, false] rfl rfl (any_of HT_.out (by kernel_rfl)) (fun _ _ _ h => h) (Or.inl ⟨by rfl, ?_⟩) ?_ ?_
                       rotate_left
                       ·as_aux_lemma =>
                        intro w'
                        go_simp
                        with_reducible rfl
                       rotate_left
                       ·as_aux_lemma =>
                        simp only [Act.put, List.setIfInBounds_toArray, List.set_cons_zero, List.set_cons_succ, i64_w, i32_w]
                        rfl
                       refine pure_ (i := 27) (N := some 154) (v := ?_) (a' := ?_) #[true, true, true, true, true, true, true, true, true, true, true, true, true, true, true, true, true, true, true, true, true, true, true, true, true, true, true, true, false, false, false, false, false, false, false, false, false, false, false, false, false, false, false, false, false, false, false, false, false, false, false, false, false, false, false, false, false, false, false, false, false, false, false, false, false, false, false, false, false, false, false, false, false, false, false, false, false, false, false, false, false, false, false, false] rfl rfl (any_of HT_.out (by kernel_rfl)) (fun _ _ _ h => h) (Or.inl ⟨by rfl, ?_⟩) ?_ ?_
                       rotate_left
                       ·as_aux_lemma =>
                        intro w'
                        go_simp
                        with_reducible rfl
                       rotate_left
                       ·as_aux_lemma =>
                        simp only [Act.put, List.setIfInBounds_toArray, List.set_cons_zero, List.set_cons_succ, i64_w, i32_w]
                        rfl
                       refine pure_ (i := 28) (N := some 155) (v := ?_) (a' := ?_) #[true, true, true, true, true, true, true, true, true, true, true, true, true, true, true, true, true, true, true, true, true, true, true, true, true, true, true, true, true, false, false, false, false, false, false, false, false, false, false, false, false, false, false, false, false, false, false, false, false, false, false, false, false, false, false, false, false, false, false, false, false, false, false, false, false, false, false, false, false, false, false, false, false, false, false, false, false, false, false, false, false, false, false, false] rfl rfl (any_of HT_.out (by kernel_rfl)) (fun _ _ _ h => h) (Or.inl ⟨by rfl, ?_⟩) ?_ ?_
                       rotate_left
                       ·as_aux_lemma =>
                        intro w'
                        go_simp
                        with_reducible rfl
                       rotate_left
                       ·as_aux_lemma =>
                        simp only [Act.put, List.setIfInBounds_toArray, List.set_cons_zero, List.set_cons_succ, i64_w, i32_w]
                        rfl
                       refine pure_ (i := 30) (N := some 157) (v := ?_) (a' := ?_) #[true, true, true, true, true, true, true, true, true, true, true, true, true, true, true, true, true, true, true, true, true, true, true, true, true, true, true, true, true, false, true, false, false, false, false, false, false, false, false, false, false, false, false, false, false, false, false, false, false, false, false, false, false, false, false, false, false, false, false, false, false, false, false, false, false, false, false, false, false, false, false, false, false, false, false, false, false, false, false, false, false, false, false, false] rfl rfl (any_of HT_.out (by kernel_rfl)) (fun _ _ _ h => h) (Or.inl ⟨by rfl, ?_⟩) ?_ ?_
                       rotate_left
                       ·as_aux_lemma =>
                        intro w'
                        go_simp
                        with_reducible rfl
                       rotate_left
                       ·as_aux_lemma =>
                        simp only [Act.put, List.setIfInBounds_toArray, List.set_cons_zero, List.set_cons_succ, i64_w, i32_w]
                        rfl
                       refine pure_ (i := 31) (N := some 158) (v := ?_) (a' := ?_) #[true, true, true, true, true, true, true, true, true, true, true, true, true, true, true, true, true, true, true, true, true, true, true, true, true, true, true, true, true, false, true, true, false, false, false, false, false, false, false, false, false, false, false, false, false, false, false, false, false, false, false, false, false, false, false, false, false, false, false, false, false, false, false, false, false, false, false, false, false, false, false, false, false, false, false, false, false, false, false, false, false, false, false, false] rfl rfl (any_of HT_.out (by kernel_rfl)) (fun _ _ _ h => h) (Or.inl ⟨by rfl, ?_⟩) ?_ ?_
                       rotate_left
                       ·as_aux_lemma =>
                        intro w'
                        go_simp
                        with_reducible rfl
                       rotate_left
                       ·as_aux_lemma =>
                        simp only [Act.put, List.setIfInBounds_toArray, List.set_cons_zero, List.set_cons_succ, i64_w, i32_w]
                        rfl
                       refine pure_ (i := 32) (N := some 159) (v := ?_) (a' := ?_) #[true, true, true, true, true, true, true, true, true, true, true, true, true, true, true, true, true, true, true, true, true, true, true, true, true, true, true, true, true, false, true, true, true, false, false, false, false, false, false, false, false, false, false, false, false, false, false, false, false, false, false, false, false, false, false, false, false, false, false, false, false, false, false, false, false, false, false, false, false, false, false, false, false, false, false, false, false, false, false, false, false, false, false, false] rfl rfl (any_of HT_.out (by kernel_rfl)) (fun _ _ _ h => h) (Or.inl ⟨by rfl, ?_⟩) ?_ ?_
                       rotate_left
                       ·as_aux_lemma =>
                        intro w'
                        go_simp
                        with_reducible rfl
                       rotate_left
                       ·as_aux_lemma =>
                        simp only [Act.put, List.setIfInBounds_toArray, List.set_cons_zero, List.set_cons_succ, i64_w, i32_w]
                        rfl
                       refine pure_ (i := 33) (N := some 160) (v := ?_) (a' := ?_) #[true, true, true, true, true, true, true, true, true, true, true, true, true, true, true, true, true, true, true, true, true, true, true, true, true, true, true, true, true, false, true, true, true, true, false, false, false, false, false, false, false, false, false, false, false, false, false, false, false, false, false, false, false, false, false, false, false, false, false, false, false, false, false, false, false, false, false, false, false, false, false, false, false, false, false, false, false, false, false, false, false, false, false, false] rfl rfl (any_of HT_.out (by kernel_rfl)) (fun _ _ _ h => h) (Or.inl ⟨by rfl, ?_⟩) ?_ ?_
                       rotate_left
                       ·as_aux_lemma =>
                        intro w'
                        go_simp
                        with_reducible rfl
                       rotate_left
                       ·as_aux_lemma =>
                        simp only [Act.put, List.setIfInBounds_toArray, List.set_cons_zero, List.set_cons_succ, i64_w, i32_w]
                        rfl
                       refine take_ (i := 29) (N := some 156) (v := ?_) (a' := ?_) #[true, true, true, true, true, true, true, true, true, true, true, true, true, true, true, true, true, true, true, true, true, true, true, true, true, true, true, true, true, true, true, true, true, true, false, false, false, false, false, false, false, false, false, false, false, false, false, false, false, false, false, false, false, false, false, false, false, false, false, false, false, false, false, false, false, false, false, false, false, false, false, false, false, false, false, false, false, false, false, false, false, false, false, false] rfl rfl (take_ofW HT_.out HW_.out (by kernel_rfl)) (fun _ _ _ h => h) (Or.inl ⟨by rfl, ?_⟩) hHeld ?_ ?_
                       rotate_left
                       ·as_aux_lemma =>
                        rintro w' ⟨s0, s1, s2, s3, s4, s5, s6, s7, s8, s9, s10, s11, s12, s13, s14, s15, s16, s17, s18, s19, s20, s21, s22, s23, s24, s25, s26, s27, s28, s29, s30, s31, s32, s33, s34, s35, s36, s37, s38, s39, s40, s41, s42, s43, s44, s45, s46, s47, s48, s49, s50, s51, s52, s53, s54, s55, s56, s57, s58, s59, s60, s61, s62, s63, s64, s65, s66, s67, s68, s69, s70, s71, s72, s73, s74⟩
                        go_simp
                        with_reducible rfl
                       rotate_left
                       ·as_aux_lemma =>
                        simp only [Act.put, List.setIfInBounds_toArray, List.set_cons_zero, List.set_cons_succ, i64_w, i32_w]
                        rfl
                       refine take_ (i := 34) (N := some 161) (v := ?_) (a' := ?_) #[true, true, true, true, true, true, true, true, true, true, true, true, true, true, true, true, true, true, true, true, true, true, true, true, true, true, true, true, true, true, true, true, true, true, true, false, false, false, false, false, false, false, false, false, false, false, false, false, false, false, false, false, false, false, false, false, false, false, false, false, false, false, false, false, false, false, false, false, false, false, false, false, false, false, false, false, false, false, false, false, false, false, false, false] rfl rfl (take_ofW HT_.out HW_.out (by kernel_rfl)) (fun _ _ _ h => h) (Or.inl ⟨by rfl, ?_⟩) hHeld ?_ ?_
                       rotate_left
                       ·as_aux_lemma =>
                        rintro w' ⟨s0, s1, s2, s3, s4, s5, s6, s7, s8, s9, s10, s11, s12, s13, s14, s15, s16, s17, s18, s19, s20, s21, s22, s23, s24, s25, s26, s27, s28, s29, s30, s31, s32, s33, s34, s35, s36, s37, s38, s39, s40, s41, s42, s43, s44, s45, s46, s47, s48, s49, s50, s51, s52, s53, s54, s55, s56, s57, s58, s59, s60, s61, s62, s63, s64, s65, s66, s67, s68, s69, s70, s71, s72, s73, s74⟩
                        go_simp
                        with_reducible rfl
                       rotate_left
                       ·as_aux_lemma =>
                        simp only [Act.put, List.setIfInBounds_toArray, List.set_cons_zero, List.set_cons_succ, i64_w, i32_w]
                        rfl
                       refine pure_ (i := 35) (N := some 162) (v := ?_) (a' := ?_) #[true, true, true, true, true, true, true, true, true, true, true, true, true, true, true, true, true, true, true, true, true, true, true, true, true, true, true, true, true, true, true, true, true, true, true, true, false, false, false, false, false, false, false, false, false, false, false, false, false, false, false, false, false, false, false, false, false, false, false, false, false, false, false, false, false, false, false, false, false, false, false, false, false, false, false, false, false, false, false, false, false, false, false, false] rfl rfl (any_of HT_.out (by kernel_rfl)) (fun _ _ _ h => h) (Or.inl ⟨by rfl, ?_⟩) ?_ ?_
                       rotate_left
                       ·as_aux_lemma =>
                        intro w'
                        go_simp
                        with_reducible rfl
                       rotate_left
                       ·as_aux_lemma =>
                        simp only [Act.put, List.setIfInBounds_toArray, List.set_cons_zero, List.set_cons_succ, i64_w, i32_w]
                        rfl
                       refine pure_ (i := 36) (N := some 163) (v := ?_) (a' := ?_) #[true, true, true, true, true, true, true, true, true, true, true, true, true, true, true, true, true, true, true, true, true, true, true, true, true, true, true, true, true, true, true, true, true, true, true, true, true, false, false, false, false, false, false, false, false, false, false, false, false, false, false, false, false, false, false, false, false, false, false, false, false, false, false, false, false, false, false, false, false, false, false, false, false, false, false, false, false, false, false, false, false, false, false, false] rfl rfl (any_of HT_.out (by kernel_rfl)) (fun _ _ _ h => h) (Or.inl ⟨by rfl, ?_⟩) ?_ ?_
                       rotate_left
                       ·as_aux_lemma =>
                        intro w'
                        go_simp
                        with_reducible rfl
                       rotate_left
                       ·as_aux_lemma =>
                        simp only [Act.put, List.setIfInBounds_toArray, List.set_cons_zero, List.set_cons_succ, i64_w, i32_w]
                        rfl
                       refine pure_ (i := 37) (N := some 164) (v := ?_) (a' := ?_) #[true, true, true, true, true, true, true, true, true, true, true, true, true, true, true, true, true, true, true, true, true, true, true, true, true, true, true, true, true, true, true, true, true, true, true, true, true, true, false, false, false, false, false, false, false, false, false, false, false, false, false, false, false, false, false, false, false, false, false, false, false, false, false, false, false, false, false, false, false, false, false, false, false, false, false, false, false, false, false, false, false, false, false, false] rfl rfl (any_of HT_.out (by kernel_rfl)) (fun _ _ _ h => h) (Or.inl ⟨by rfl, ?_⟩) ?_ ?_
                       rotate_left
                       ·as_aux_lemma =>
                        intro w'
                        go_simp
                        with_reducible rfl
                       rotate_left
                       ·as_aux_lemma =>
                        simp only [Act.put, List.setIfInBounds_toArray, List.set_cons_zero, List.set_cons_succ, i64_w, i32_w]
                        rfl
                       refine pure_ (i := 38) (N := some 165) (v := ?_) (a' := ?_) #[true, true, true, true, true, true, true, true, true, true, true, true, true, true, true, true, true, true, true, true, true, true, true, true, true, true, true, true, true, true, true, true, true, true, true, true, true, true, true, false, false, false, false, false, false, false, false, false, false, false, false, false, false, false, false, false, false, false, false, false, false, false, false, false, false, false, false, false, false, false, false, false, false, false, false, false, false, false, false, false, false, false, false, false] rfl rfl (any_of HT_.out (by kernel_rfl)) (fun _ _ _ h => h) (Or.inl ⟨by rfl, ?_⟩) ?_ ?_
                       rotate_left
                       ·as_aux_lemma =>
                        intro w'
                        go_simp
                        with_reducible rfl
                       rotate_left
                       ·as_aux_lemma =>
                        simp only [Act.put, List.setIfInBounds_toArray, List.set_cons_zero, List.set_cons_succ, i64_w, i32_w]
                        rfl
                       refine pure_ (i := 39) (N := some 166) (v := ?_) (a' := ?_) #[true, true, true, true, true, true, true, true, true, true, true, true, true, true, true, true, true, true, true, true, true, true, true, true, true, true, true, true, true, true, true, true, true, true, true, true, true, true, true, true, false, false, false, false, false, false, false, false, false, false, false, false, false, false, false, false, false, false, false, false, false, false, false, false, false, false, false, false, false, false, false, false, false, false, false, false, false, false, false, false, false, false, false, false] rfl rfl (any_of HT_.out (by kernel_rfl)) (fun _ _ _ h => h) (Or.inl ⟨by rfl, ?_⟩) ?_ ?_
                       rotate_left
                       ·as_aux_lemma =>
                        intro w'
                        go_simp
                        with_reducible rfl
                       rotate_left
                       ·as_aux_lemma =>
                        simp only [Act.put, List.setIfInBounds_toArray, List.set_cons_zero, List.set_cons_succ, i64_w, i32_w]
                        rfl
                       refine pure_ (i := 40) (N := some 167) (v := ?_) (a' := ?_) #[true, true, true, true, true, true, true, true, true, true, true, true, true, true, true, true, true, true, true, true, true, true, true, true, true, true, true, true, true, true, true, true, true, true, true, true, true, true, true, true, true, false, false, false, false, false, false, false, false, false, false, false, false, false, false, false, false, false, false, false, false, false, false, false, false, false, false, false, false, false, false, false, false, false, false, false, false, false, false, false, false, false, false, false] rfl rfl (any_of HT_.out (by kernel_rfl)) (fun _ _ _ h => h) (Or.inl ⟨by rfl, ?_⟩) ?_ ?_
                       rotate_left
                       ·as_aux_lemma =>
                        intro w'
                        go_simp
                        with_reducible rfl
                       rotate_left
                       ·as_aux_lemma =>
                        simp only [Act.put, List.setIfInBounds_toArray, List.set_cons_zero, List.set_cons_succ, i64_w, i32_w]
                        rfl
                       refine pure_ (i := 41) (N := some 168) (v := ?_) (a' := ?_) #[true, true, true, true, true, true, true, true, true, true, true, true, true, true, true, true, true, true, true, true, true, true, true, true, true, true, true, true, true, true, true, true, true, true, true, true, true, true, true, true, true, true, false, false, false, false, false, false, false, false, false, false, false, false, false, false, false, false, false, false, false, false, false, false, false, false, false, false, false, false, false, false, false, false, false, false, false, false, false, false, false, false, false, false] rfl rfl (any_of HT_.out (by kernel_rfl)) (fun _ _ _ h => h) (Or.inl ⟨by rfl, ?_⟩) ?_ ?_
                       rotate_left
                       ·as_aux_lemma =>
                        intro w'
                        go_simp
                        with_reducible rfl
                       rotate_left
                       ·as_aux_lemma =>
                        simp only [Act.put, List.setIfInBounds_toArray, List.set_cons_zero, List.set_cons_succ, i64_w, i32_w]
                        rfl
                       refine pure_ (i := 43) (N := some 170) (v := ?_) (a' := ?_) #[true, true, true, true, true, true, true, true, true, true, true, true, true, true, true, true, true, true, true, true, true, true, true, true, true, true, true, true, true, true, true, true, true, true, true, true, true, true, true, true, true, true, false, true, false, false, false, false, false, false, false, false, false, false, false, false, false, false, false, false, false, false, false, false, false, false, false, false, false, false, false, false, false, false, false, false, false, false, false, false, false, false, false, false] rfl rfl (any_of HT_.out (by kernel_rfl)) (fun _ _ _ h => h) (Or.inl ⟨by rfl, ?_⟩) ?_ ?_
                       rotate_left
                       ·as_aux_lemma =>
                        intro w'
                        go_simp
                        with_reducible rfl
                       rotate_left
                       ·as_aux_lemma =>
                        simp only [Act.put, List.setIfInBounds_toArray, List.set_cons_zero, List.set_cons_succ, i64_w, i32_w]
                        rfl
                       refine pure_ (i := 44) (N := some 171) (v := ?_) (a' := ?_) #[true, true, true, true, true, true, true, true, true, true, true, true, true, true, true, true, true, true, true, true, true, true, true, true, true, true, true, true, true, true, true, true, true, true, true, true, true, true, true, true, true, true, false, true, true, false, false, false, false, false, false, false, false, false, false, false, false, false, false, false, false, false, false, false, false, false, false, false, false, false, false, false, false, false, false, false, false, false, false, false, false, false, false, false] rfl rfl (any_of HT_.out (by kernel_rfl)) (fun _ _ _ h => h) (Or.inl ⟨by rfl, ?_⟩) ?_ ?_
                       rotate_left
                       ·as_aux_lemma =>
                        intro w'
                        go_simp
                        with_reducible rfl
                       rotate_left
                       ·as_aux_lemma =>
                        simp only [Act.put, List.setIfInBounds_toArray, List.set_cons_zero, List.set_cons_succ, i64_w, i32_w]
                        rfl
                       refine pure_ (i := 45) (N := some 172) (v := ?_) (a' := ?_) #[true, true, true, true, true, true, true, true, true, true, true, true, true, true, true, true, true, true, true, true, true, true, true, true, true, true, true, true, true, true, true, true, true, true, true, true, true, true, true, true, true, true, false, true, true, true, false, false, false, false, false, false, false, false, false, false, false, false, false, false, false, false, false, false, false, false, false, false, false, false, false, false, false, false, false, false, false, false, false, false, false, false, false, false] rfl rfl (any_of HT_.out (by kernel_rfl)) (fun _ _ _ h => h) (Or.inl ⟨by rfl, ?_⟩) ?_ ?_
                       rotate_left
                       ·as_aux_lemma =>
                        intro w'
                        go_simp
                        with_reducible rfl
                       rotate_left
                       ·as_aux_lemma =>
                        simp only [Act.put, List.setIfInBounds_toArray, List.set_cons_zero, List.set_cons_succ, i64_w, i32_w]
                        rfl
                       refine pure_ (i := 46) (N := some 173) (v := ?_) (a' := ?_) #[true, true, true, true, true, true, true, true, true, true, true, true, true, true, true, true, true, true, true, true, true, true, true, true, true, true, true, true, true, true, true, true, true, true, true, true, true, true, true, true, true, true, false, true, true, true, true, false, false, false, false, false, false, false, false, false, false, false, false, false, false, false, false, false, false, false, false, false, false, false, false, false, false, false, false, false, false, false, false, false, false, false, false, false] rfl rfl (any_of HT_.out (by kernel_rfl)) (fun _ _ _ h => h) (Or.inl ⟨by rfl, ?_⟩) ?_ ?_
                       rotate_left
                       ·as_aux_lemma =>
                        intro w'
                        go_simp
                        with_reducible rfl
                       rotate_left
                       ·as_aux_lemma =>
                        simp only [Act.put, List.setIfInBounds_toArray, List.set_cons_zero, List.set_cons_succ, i64_w, i32_w]
                        rfl
                       refine take_ (i := 42) (N := some 169) (v := ?_) (a' := ?_) #[true, true, true, true, true, true, true, true, true, true, true, true, true, true, true, true, true, true, true, true, true, true, true, true, true, true, true, true, true, true, true, true, true, true, true, true, true, true, true, true, true, true, true, true, true, true, true, false, false, false, false, false, false, false, false, false, false, false, false, false, false, false, false, false, false, false, false, false, false, false, false, false, false, false, false, false, false, false, false, false, false, false, false, false] rfl rfl (take_ofW HT_.out HW_.out (by kernel_rfl)) (fun _ _ _ h => h) (Or.inl ⟨by rfl, ?_⟩) hHeld ?_ ?_
                       rotate_left
                       ·as_aux_lemma =>
                        rintro w' ⟨s0, s1, s2, s3, s4, s5, s6, s7, s8, s9, s10, s11, s12, s13, s14, s15, s16, s17, s18, s19, s20, s21, s22, s23, s24, s25, s26, s27, s28, s29, s30, s31, s32, s33, s34, s35, s36, s37, s38, s39, s40, s41, s42, s43, s44, s45, s46, s47, s48, s49, s50, s51, s52, s53, s54, s55, s56, s57, s58, s59, s60, s61, s62, s63, s64, s65, s66, s67, s68, s69, s70, s71, s72, s73, s74⟩
                        go_simp
                        with_reducible rfl
                       rotate_left
                       ·as_aux_lemma =>
                        simp only [Act.put, List.setIfInBounds_toArray, List.set_cons_zero, List.set_cons_succ, i64_w, i32_w]
                        rfl
                       refine take_ (i := 47) (N := some 174) (v := ?_) (a' := ?_) #[true, true, true, true, true, true, true, true, true, true, true, true, true, true, true, true, true, true, true, true, true, true, true, true, true, true, true, true, true, true, true, true, true, true, true, true, true, true, true, true, true, true, true, true, true, true, true, true, false, false, false, false, false, false, false, false, false, false, false, false, false, false, false, false, false, false, false, false, false, false, false, false, false, false, false, false, false, false, false, false, false, false, false, false] rfl rfl (take_ofW HT_.out HW_.out (by kernel_rfl)) (fun _ _ _ h => h) (Or.inl ⟨by rfl, ?_⟩) hHeld ?_ ?_
                       rotate_left
                       ·as_aux_lemma =>
                        rintro w' ⟨s0, s1, s2, s3, s4, s5, s6, s7, s8, s9, s10, s11, s12, s13, s14, s15, s16, s17, s18, s19, s20, s21, s22, s23, s24, s25, s26, s27, s28, s29, s30, s31, s32, s33, s34, s35, s36, s37, s38, s39, s40, s41, s42, s43, s44, s45, s46, s47, s48, s49, s50, s51, s52, s53, s54, s55, s56, s57, s58, s59, s60, s61, s62, s63, s64, s65, s66, s67, s68, s69, s70, s71, s72, s73, s74⟩
                        go_simp
                        with_reducible rfl
                       rotate_left
                       ·as_aux_lemma =>
                        simp only [Act.put, List.setIfInBounds_toArray, List.set_cons_zero, List.set_cons_succ, i64_w, i32_w]
                        rfl
                       refine pure_ (i := 48) (N := some 175) (v := ?_) (a' := ?_) #[true, true, true, true, true, true, true, true, true, true, true, true, true, true, true, true, true, true, true, true, true, true, true, true, true, true, true, true, true, true, true, true, true, true, true, true, true, true, true, true, true, true, true, true, true, true, true, true, true, false, false, false, false, false, false, false, false, false, false, false, false, false, false, false, false, false, false, false, false, false, false, false, false, false, false, false, false, false, false, false, false, false, false, false] rfl rfl (any_of HT_.out (by kernel_rfl)) (fun _ _ _ h => h) (Or.inl ⟨by rfl, ?_⟩) ?_ ?_
                       rotate_left
                       ·as_aux_lemma =>
                        intro w'
                        go_simp
                        with_reducible rfl
                       rotate_left
                       ·as_aux_lemma =>
                        simp only [Act.put, List.setIfInBounds_toArray, List.set_cons_zero, List.set_cons_succ, i64_w, i32_w]
                        rfl
                       refine pure_ (i := 49) (N := some 176) (v := ?_) (a' := ?_) #[true, true, true, true, true, true, true, true, true, true, true, true, true, true, true, true, true, true, true, true, true, true, true, true, true, true, true, true, true, true, true, true, true, true, true, true, true, true, true, true, true, true, true, true, true, true, true, true, true, true, false, false, false, false, false, false, false, false, false, false, false, false, false, false, false, false, false, false, false, false, false, false, false, false, false, false, false, false, false, false, false, false, false, false] rfl rfl (any_of HT_.out (by kernel_rfl)) (fun _ _ _ h => h) (Or.inl ⟨by rfl, ?_⟩) ?_ ?_
                       rotate_left
                       ·as_aux_lemma =>
                        intro w'
                        go_simp
                        with_reducible rfl
                       rotate_left
                       ·as_aux_lemma =>
                        simp only [Act.put, List.setIfInBounds_toArray, List.set_cons_zero, List.set_cons_succ, i64_w, i32_w]
                        rfl
                       refine pure_ (i := 50) (N := some 177) (v := ?_) (a' := ?_) #[true, true, true, true, true, true, true, true, true, true, true, true, true, true, true, true, true, true, true, true, true, true, true, true, true, true, true, true, true, true, true, true, true, true, true, true, true, true, true, true, true, true, true, true, true, true, true, true, true, true, true, false, false, false, false, false, false, false, false, false, false, false, false, false, false, false, false, false, false, false, false, false, false, false, false, false, false, false, false, false, false, false, false, false] rfl rfl (any_of HT_.out (by kernel_rfl)) (fun _ _ _ h => h) (Or.inl ⟨by rfl, ?_⟩) ?_ ?_
                       rotate_left
                       ·as_aux_lemma =>
                        intro w'
                        go_simp
                        with_reducible rfl
                       rotate_left
                       ·as_aux_lemma =>
                        simp only [Act.put, List.setIfInBounds_toArray, List.set_cons_zero, List.set_cons_succ, i64_w, i32_w]
                        rfl
                       refine pure_ (i := 51) (N := some 178) (v := ?_) (a' := ?_) #[true, true, true, true, true, true, true, true, true, true, true, true, true, true, true, true, true, true, true, true, true, true, true, true, true, true, true, true, true, true, true, true, true, true, true, true, true, true, true, true, true, true, true, true, true, true, true, true, true, true, true, true, false, false, false, false, false, false, false, false, false, false, false, false, false, false, false, false, false, false, false, false, false, false, false, false, false, false, false, false, false, false, false, false] rfl rfl (any_of HT_.out (by kernel_rfl)) (fun _ _ _ h => h) (Or.inl ⟨by rfl, ?_⟩) ?_ ?_
                       rotate_left
                       ·as_aux_lemma =>
                        intro w'
                        go_simp
                        with_reducible rfl
                       rotate_left
                       ·as_aux_lemma =>
                        simp only [Act.put, List.setIfInBounds_toArray, List.set_cons_zero, List.set_cons_succ, i64_w, i32_w]
                        rfl
                       refine pure_ (i := 52) (N := some 179) (v := ?_) (a' := ?_) #[true, true, true, true, true, true, true, true, true, true, true, true, true, true, true, true, true, true, true, true, true, true, true, true, true, true, true, true, true, true, true, true, true, true, true, true, true, true, true, true, true, true, true, true, true, true, true, true, true, true, true, true, true, false, false, false, false, false, false, false, false, false, false, false, false, false, false, false, false, false, false, false, false, false, false, false, false, false, false, false, false, false, false, false] rfl rfl (any_of HT_.out (by kernel_rfl)) (fun _ _ _ h => h) (Or.inl ⟨by rfl, ?_⟩) ?_ ?_
                       rotate_left
                       ·as_aux_lemma =>
                        intro w'
                        go_simp
                        with_reducible rfl
                       rotate_left
                       ·as_aux_lemma =>
                        simp only [Act.put, List.setIfInBounds_toArray, List.set_cons_zero, List.set_cons_succ, i64_w, i32_w]
                        rfl
                       refine pure_ (i := 53) (N := some 180) (v := ?_) (a' := ?_) #[true, true, true, true, true, true, true, true, true, true, true, true, true, true, true, true, true, true, true, true, true, true, true, true, true, true, true, true, true, true, true, true, true, true, true, true, true, true, true, true, true, true, true, true, true, true, true, true, true, true, true, true, true, true, false, false, false, false, false, false, false, false, false, false, false, false, false, false, false, false, false, false, false, false, false, false, false, false, false, false, false, false, false, false] rfl rfl (any_of HT_.out (by kernel_rfl)) (fun _ _ _ h => h) (Or.inl ⟨by rfl, ?_⟩) ?_ ?_
                       rotate_left
                       ·as_aux_lemma =>
                        intro w'
                        go_simp
                        with_reducible rfl
                       rotate_left
                       ·as_aux_lemma =>
                        simp only [Act.put, List.setIfInBounds_toArray, List.set_cons_zero, List.set_cons_succ, i64_w, i32_w]
                        rfl
                       refine pure_ (i := 54) (N := some 181) (v := ?_) (a' := ?_) #[true, true, true, true, true, true, true, true, true, true, true, true, true, true, true, true, true, true, true, true, true, true, true, true, true, true, true, true, true, true, true, true, true, true, true, true, true, true, true, true, true, true, true, true, true, true, true, true, true, true, true, true, true, true, true, false, false, false, false, false, false, false, false, false, false, false, false, false, false, false, false, false, false, false, false, false, false, false, false, false, false, false, false, false] rfl rfl (any_of HT_.out (by kernel_rfl)) (fun _ _ _ h => h) (Or.inl ⟨by rfl, ?_⟩) ?_ ?_
                       rotate_left
                       ·as_aux_lemma =>
                        intro w'
                        go_simp
                        with_reducible rfl
                       rotate_left
                       ·as_aux_lemma =>
                        simp only [Act.put, List.setIfInBounds_toArray, List.set_cons_zero, List.set_cons_succ, i64_w, i32_w]
                        rfl
                       refine pure_ (i := 56) (N := some 183) (v := ?_) (a' := ?_) #[true, true, true, true, true, true, true, true, true, true, true, true, true, true, true, true, true, true, true, true, true, true, true, true, true, true, true, true, true, true, true, true, true, true, true, true, true, true, true, true, true, true, true, true, true, true, true, true, true, true, true, true, true, true, true, false, true, false, false, false, false, false, false, false, false, false, false, false, false, false, false, false, false, false, false, false, false, false, false, false, false, false, false, false] rfl rfl (any_of HT_.out (by kernel_rfl)) (fun _ _ _ h => h) (Or.inl ⟨by rfl, ?_⟩) ?_ ?_
                       rotate_left
                       ·as_aux_lemma =>
                        intro w'
                        go_simp
                        with_reducible rfl
                       rotate_left
                       ·as_aux_lemma =>
                        simp only [Act.put, List.setIfInBounds_toArray, List.set_cons_zero, List.set_cons_succ, i64_w, i32_w]
                        rfl
                       refine pure_ (i := 57) (N := some 184) (v := ?_) (a' := ?_) #[true, true, true, true, true, true, true, true, true, true, true, true, true, true, true, true, true, true, true, true, true, true, true, true, true, true, true, true, true, true, true, true, true, true, true, true, true, true, true, true, true, true, true, true, true, true, true, true, true, true, true, true, true, true, true, false, true, true, false, false, false, false, false, false, false, false, false, false, false, false, false, false, false, false, false, false, false, false, false, false, false, false, false, false] rfl rfl (any_of HT_.out (by kernel_rfl)) (fun _ _ _ h => h) (Or.inl ⟨by rfl, ?_⟩) ?_ ?_
                       rotate_left
                       ·as_aux_lemma =>
                        intro w'
                        go_simp
                        with_reducible rfl
                       rotate_left
                       ·as_aux_lemma =>
                        simp only [Act.put, List.setIfInBounds_toArray, List.set_cons_zero, List.set_cons_succ, i64_w, i32_w]
                        rfl
                       refine pure_ (i := 58) (N := some 185) (v := ?_) (a' := ?_) #[true, true, true, true, true, true, true, true, true, true, true, true, true, true, true, true, true, true, true, true, true, true, true, true, true, true, true, true, true, true, true, true, true, true, true, true, true, true, true, true, true, true, true, true, true, true, true, true, true, true, true, true, true, true, true, false, true, true, true, false, false, false, false, false, false, false, false, false, false, false, false, false, false, false, false, false, false, false, false, false, false, false, false, false] rfl rfl (any_of HT_.out (by kernel_rfl)) (fun _ _ _ h => h) (Or.inl ⟨by rfl, ?_⟩) ?_ ?_
                       rotate_left
                       ·as_aux_lemma =>
                        intro w'
                        go_simp
                        with_reducible rfl
                       rotate_left
                       ·as_aux_lemma =>
                        simp only [Act.put, List.setIfInBounds_toArray, List.set_cons_zero, List.set_cons_succ, i64_w, i32_w]
                        rfl
                       refine pure_ (i := 59) (N := some 186) (v := ?_) (a' := ?_) #[true, true, true, true, true, true, true, true, true, true, true, true, true, true, true, true, true, true, true, true, true, true, true, true, true, true, true, true, true, true, true, true, true, true, true, true, true, true, true, true, true, true, true, true, true, true, true, true, true, true, true, true, true, true, true, false, true, true, true, true, false, false, false, false, false, false, false, false, false, false, false, false, false, false, false, false, false, false, false, false, false, false, false, false] rfl rfl (any_of HT_.out (by kernel_rfl)) (fun _ _ _ h => h) (Or.inl ⟨by rfl, ?_⟩) ?_ ?_
                       rotate_left
                       ·as_aux_lemma =>
                        intro w'
                        go_simp
                        with_reducible rfl
                       rotate_left
                       ·as_aux_lemma =>
                        simp only [Act.put, List.setIfInBounds_toArray, List.set_cons_zero, List.set_cons_succ, i64_w, i32_w]
                        rfl
                       refine take_ (i := 55) (N := some 182) (v := ?_) (a' := ?_) #[true, true, true, true, true, true, true, true, true, true, true, true, true, true, true, true, true, true, true, true, true, true, true, true, true, true, true, true, true, true, true, true, true, true, true, true, true, true, true, true, true, true, true, true, true, true, true, true, true, true, true, true, true, true, true, true, true, true, true, true, false, false, false, false, false, false, false, false, false, false, false, false, false, false, false, false, false, false, false, false, false, false, false, false] rfl rfl (take_ofW HT_.out HW_.out (by kernel_rfl)) (fun _ _ _ h => h) (Or.inl ⟨by rfl, ?_⟩) hHeld ?_ ?_
                       rotate_left
                       ·as_aux_lemma =>
                        rintro w' ⟨s0, s1, s2, s3, s4, s5, s6, s7, s8, s9, s10, s11, s12, s13, s14, s15, s16, s17, s18, s19, s20, s21, s22, s23, s24, s25, s26, s27, s28, s29, s30, s31, s32, s33, s34, s35, s36, s37, s38, s39, s40, s41, s42, s43, s44, s45, s46, s47, s48, s49, s50, s51, s52, s53, s54, s55, s56, s57, s58, s59, s60, s61, s62, s63, s64, s65, s66, s67, s68, s69, s70, s71, s72, s73, s74⟩
                        go_simp
                        with_reducible rfl
                       rotate_left
                       ·as_aux_lemma =>
                        simp only [Act.put, List.setIfInBounds_toArray, List.set_cons_zero, List.set_cons_succ, i64_w, i32_w]
                        rfl
                       refine take_ (i := 60) (N := some 187) (v := ?_) (a' := ?_) #[true, true, true, true, true, true, true, true, true, true, true, true, true, true, true, true, true, true, true, true, true, true, true, true, true, true, true, true, true, true, true, true, true, true, true, true, true, true, true, true, true, true, true, true, true, true, true, true, true, true, true, true, true, true, true, true, true, true, true, true, true, false, false, false, false, false, false, false, false, false, false, false, false, false, false, false, false, false, false, false, false, false, false, false] rfl rfl (take_ofW HT_.out HW_.out (by kernel_rfl)) (fun _ _ _ h => h) (Or.inl ⟨by rfl, ?_⟩) hHeld ?_ ?_
                       rotate_left
                       ·as_aux_lemma =>
                        rintro w' ⟨s0, s1, s2, s3, s4, s5, s6, s7, s8, s9, s10, s11, s12, s13, s14, s15, s16, s17, s18, s19, s20, s21, s22, s23, s24, s25, s26, s27, s28, s29, s30, s31, s32, s33, s34, s35, s36, s37, s38, s39, s40, s41, s42, s43, s44, s45, s46, s47, s48, s49, s50, s51, s52, s53, s54, s55, s56, s57, s58, s59, s60, s61, s62, s63, s64, s65, s66, s67, s68, s69, s70, s71, s72, s73, s74⟩
                        go_simp
                        with_reducible rfl
                       rotate_left
                       ·as_aux_lemma =>
                        simp only [Act.put, List.setIfInBounds_toArray, List.set_cons_zero, List.set_cons_succ, i64_w, i32_w]
                        rfl
                       refine pure_ (i := 61) (N := some 188) (v := ?_) (a' := ?_) #[true, true, true, true, true, true, true, true, true, true, true, true, true, true, true, true, true, true, true, true, true, true, true, true, true, true, true, true, true, true, true, true, true, true, true, true, true, true, true, true, true, true, true, true, true, true, true, true, true, true, true, true, true, true, true, true, true, true, true, true, true, true, false, false, false, false, false, false, false, false, false, false, false, false, false, false, false, false, false, false, false, false, false, false] rfl rfl (any_of HT_.out (by kernel_rfl)) (fun _ _ _ h => h) (Or.inl ⟨by rfl, ?_⟩) ?_ ?_
                       rotate_left
                       ·as_aux_lemma =>
                        intro w'
                        go_simp
                        with_reducible rfl
                       rotate_left
                       ·as_aux_lemma =>
                        simp only [Act.put, List.setIfInBounds_toArray, List.set_cons_zero, List.set_cons_succ, i64_w, i32_w]
                        rfl
                       refine pure_ (i := 62) (N := some 189) (v := ?_) (a' := ?_) #[true, true, true, true, true, true, true, true, true, true, true, true, true, true, true, true, true, true, true, true, true, true, true, true, true, true, true, true, true, true, true, true, true, true, true, true, true, true, true, true, true, true, true, true, true, true, true, true, true, true, true, true, true, true, true, true, true, true, true, true, true, true, true, false, false, false, false, false, false, false, false, false, false, false, false, false, false, false, false, false, false, false, false, false] rfl rfl (any_of HT_.out (by kernel_rfl)) (fun _ _ _ h => h) (Or.inl ⟨by rfl, ?_⟩) ?_ ?_
                       rotate_left
                       ·as_aux_lemma =>
                        intro w'
                        go_simp
                        with_reducible rfl
                       rotate_left
                       ·as_aux_lemma =>
                        simp only [Act.put, List.setIfInBounds_toArray, List.set_cons_zero, List.set_cons_succ, i64_w, i32_w]
                        rfl
                       refine pure_ (i := 63) (N := some 190) (v := ?_) (a' := ?_) #[true, true, true, true, true, true, true, true, true, true, true, true, true, true, true, true, true, true, true, true, true, true, true, true, true, true, true, true, true, true, true, true, true, true, true, true, true, true, true, true, true, true, true, true, true, true, true, true, true, true, true, true, true, true, true, true, true, true, true, true, true, true, true, true, false, false, false, false, false, false, false, false, false, false, false, false, false, false, false, false, false, false, false, false] rfl rfl (any_of HT_.out (by kernel_rfl)) (fun _ _ _ h => h) (Or.inl ⟨by rfl, ?_⟩) ?_ ?_
                       rotate_left
                       ·as_aux_lemma =>
                        intro w'
                        go_simp
                        with_reducible rfl
                       rotate_left
                       ·as_aux_lemma =>
                        simp only [Act.put, List.setIfInBounds_toArray, List.set_cons_zero, List.set_cons_succ, i64_w, i32_w]
                        rfl
                       refine pure_ (i := 64) (N := some 191) (v := ?_) (a' := ?_) #[true, true, true, true, true, true, true, true, true, true, true, true, true, true, true, true, true, true, true, true, true, true, true, true, true, true, true, true, true, true, true, true, true, true, true, true, true, true, true, true, true, true, true, true, true, true, true, true, true, true, true, true, true, true, true, true, true, true, true, true, true, true, true, true, true, false, false, false, false, false, false, false, false, false, false, false, false, false, false, false, false, false, false, false] rfl rfl (any_of HT_.out (by kernel_rfl)) (fun _ _ _ h => h) (Or.inl ⟨by rfl, ?_⟩) ?_ ?_
                       rotate_left
                       ·as_aux_lemma =>
                        intro w'
                        go_simp
                        with_reducible rfl
                       rotate_left
                       ·as_aux_lemma =>
                        simp only [Act.put, List.setIfInBounds_toArray, List.set_cons_zero, List.set_cons_succ, i64_w, i32_w]
                        rfl
                       refine pure_ (i := 65) (N := some 192) (v := ?_) (a' := ?_) #[true, true, true, true, true, true, true, true, true, true, true, true, true, true, true, true, true, true, true, true, true, true, true, true, true, true, true, true, true, true, true, true, true, true, true, true, true, true, true, true, true, true, true, true, true, true, true, true, true, true, true, true, true, true, true, true, true, true, true, true, true, true, true, true, true, true, false, false, false, false, false, false, false, false, false, false, false, false, false, false, false, false, false, false] rfl rfl (any_of HT_.out (by kernel_rfl)) (fun _ _ _ h => h) (Or.inl ⟨by rfl, ?_⟩) ?_ ?_
                       rotate_left
                       ·as_aux_lemma =>
                        intro w'
                        go_simp
                        with_reducible rfl
                       rotate_left
                       ·as_aux_lemma =>
                        simp only [Act.put, List.setIfInBounds_toArray, List.set_cons_zero, List.set_cons_succ, i64_w, i32_w]
                        rfl
                       refine pure_ (i := 66) (N := some 193) (v := ?_) (a' := ?_) #[true, true, true, true, true, true, true, true, true, true, true, true, true, true, true, true, true, true, true, true, true, true, true, true, true, true, true, true, true, true, true, true, true, true, true, true, true, true, true, true, true, true, true, true, true, true, true, true, true, true, true, true, true, true, true, true, true, true, true, true, true, true, true, true, true, true, true, false, false, false, false, false, false, false, false, false, false, false, false, false, false, false, false, false] rfl rfl (any_of HT_.out (by kernel_rfl)) (fun _ _ _ h => h) (Or.inl ⟨by rfl, ?_⟩) ?_ ?_
                       rotate_left
                       ·as_aux_lemma =>
                        intro w'
                        go_simp
                        with_reducible rfl
                       rotate_left
                       ·as_aux_lemma =>
                        simp only [Act.put, List.setIfInBounds_toArray, List.set_cons_zero, List.set_cons_succ, i64_w, i32_w]
                        rfl
                       refine pure_ (i := 67) (N := some 194) (v := ?_) (a' := ?_) #[true, true, true, true, true, true, true, true, true, true, true, true, true, true, true, true, true, true, true, true, true, true, true, true, true, true, true, true, true, true, true, true, true, true, true, true, true, true, true, true, true, true, true, true, true, true, true, true, true, true, true, true, true, true, true, true, true, true, true, true, true, true, true, true, true, true, true, true, false, false, false, false, false, false, false, false, false, false, false, false, false, false, false, false] rfl rfl (any_of HT_.out (by kernel_rfl)) (fun _ _ _ h => h) (Or.inl ⟨by rfl, ?_⟩) ?_ ?_
                       rotate_left
                       ·as_aux_lemma =>
                        intro w'
                        go_simp
                        with_reducible rfl
                       rotate_left
                       ·as_aux_lemma =>
                        simp only [Act.put, List.setIfInBounds_toArray, List.set_cons_zero, List.set_cons_succ, i64_w, i32_w]
                        rfl
                       refine pure_ (i := 69) (N := some 196) (v := ?_) (a' := ?_) #[true, true, true, true, true, true, true, true, true, true, true, true, true, true, true, true, true, true, true, true, true, true, true, true, true, true, true, true, true, true, true, true, true, true, true, true, true, true, true, true, true, true, true, true, true, true, true, true, true, true, true, true, true, true, true, true, true, true, true, true, true, true, true, true, true, true, true, true, false, true, false, false, false, false, false, false, false, false, false, false, false, false, false, false] rfl rfl (any_of HT_.out (by kernel_rfl)) (fun _ _ _ h => h) (Or.inl ⟨by rfl, ?_⟩) ?_ ?_
                       rotate_left
                       ·as_aux_lemma =>
                        intro w'
                        go_simp
                        with_reducible rfl
                       rotate_left
                       ·as_aux_lemma =>
                        simp only [Act.put, List.setIfInBounds_toArray, List.set_cons_zero, List.set_cons_succ, i64_w, i32_w]
                        rfl
                       refine pure_ (i := 70) (N := some 197) (v := ?_) (a' := ?_) #[true, true, true, true, true, true, true, true, true, true, true, true, true, true, true, true, true, true, true, true, true, true, true, true, true, true, true, true, true, true, true, true, true, true, true, true, true, true, true, true, true, true, true, true, true, true, true, true, true, true, true, true, true, true, true, true, true, true, true, true, true, true, true, true, true, true, true, true, false, true, true, false, false, false, false, false, false, false, false, false, false, false, false, false] rfl rfl (any_of HT_.out (by kernel_rfl)) (fun _ _ _ h => h) (Or.inl ⟨by rfl, ?_⟩) ?_ ?_
                       rotate_left
                       ·as_aux_lemma =>
                        intro w'
                        go_simp
                        with_reducible rfl
                       rotate_left
                       ·as_aux_lemma =>
                        simp only [Act.put, List.setIfInBounds_toArray, List.set_cons_zero, List.set_cons_succ, i64_w, i32_w]
                        rfl
                       refine pure_ (i := 71) (N := some 198) (v := ?_) (a' := ?_) #[true, true, true, true, true, true, true, true, true, true, true, true, true, true, true, true, true, true, true, true, true, true, true, true, true, true, true, true, true, true, true, true, true, true, true, true, true, true, true, true, true, true, true, true, true, true, true, true, true, true, true, true, true, true, true, true, true, true, true, true, true, true, true, true, true, true, true, true, false, true, true, true, false, false, false, false, false, false, false, false, false, false, false, false] rfl rfl (any_of HT_.out (by kernel_rfl)) (fun _ _ _ h => h) (Or.inl ⟨by rfl, ?_⟩) ?_ ?_
                       rotate_left
                       ·as_aux_lemma =>
                        intro w'
                        go_simp
                        with_reducible rfl
                       rotate_left
                       ·as_aux_lemma =>
                        simp only [Act.put, List.setIfInBounds_toArray, List.set_cons_zero, List.set_cons_succ, i64_w, i32_w]
                        rfl
                       refine pure_ (i := 72) (N := some 199) (v := ?_) (a' := ?_) #[true, true, true, true, true, true, true, true, true, true, true, true, true, true, true, true, true, true, true, true, true, true, true, true, true, true, true, true, true, true, true, true, true, true, true, true, true, true, true, true, true, true, true, true, true, true, true, true, true, true, true, true, true, true, true, true, true, true, true, true, true, true, true, true, true, true, true, true, false, true, true, true, true, false, false, false, false, false, false, false, false, false, false, false] rfl rfl (any_of HT_.out (by kernel_rfl)) (fun _ _ _ h => h) (Or.inl ⟨by rfl, ?_⟩) ?_ ?_
                       rotate_left
                       ·as_aux_lemma =>
                        intro w'
                        go_simp
                        with_reducible rfl
                       rotate_left
                       ·as_aux_lemma =>
                        simp only [Act.put, List.setIfInBounds_toArray, List.set_cons_zero, List.set_cons_succ, i64_w, i32_w]
                        rfl
                       refine take_ (i := 68) (N := some 195) (v := ?_) (a' := ?_) #[true, true, true, true, true, true, true, true, true, true, true, true, true, true, true, true, true, true, true, true, true, true, true, true, true, true, true, true, true, true, true, true, true, true, true, true, true, true, true, true, true, true, true, true, true, true, true, true, true, true, true, true, true, true, true, true, true, true, true, true, true, true, true, true, true, true, true, true, true, true, true, true, true, false, false, false, false, false, false, false, false, false, false, false] rfl rfl (take_ofW HT_.out HW_.out (by kernel_rfl)) (fun _ _ _ h => h) (Or.inl ⟨by rfl, ?_⟩) hHeld ?_ ?_
                       rotate_left
                       ·as_aux_lemma =>
                        rintro w' ⟨s0, s1, s2, s3, s4, s5, s6, s7, s8, s9, s10, s11, s12, s13, s14, s15, s16, s17, s18, s19, s20, s21, s22, s23, s24, s25, s26, s27, s28, s29, s30, s31, s32, s33, s34, s35, s36, s37, s38, s39, s40, s41, s42, s43, s44, s45, s46, s47, s48, s49, s50, s51, s52, s53, s54, s55, s56, s57, s58, s59, s60, s61, s62, s63, s64, s65, s66, s67, s68, s69, s70, s71, s72, s73, s74⟩
                        go_simp
                        with_reducible rfl
                       rotate_left
                       ·as_aux_lemma =>
                        simp only [Act.put, List.setIfInBounds_toArray, List.set_cons_zero, List.set_cons_succ, i64_w, i32_w]
                        rfl
                       refine take_ (i := 73) (N := some 200) (v := ?_) (a' := ?_) #[true, true, true, true, true, true, true, true, true, true, true, true, true, true, true, true, true, true, true, true, true, true, true, true, true, true, true, true, true, true, true, true, true, true, true, true, true, true, true, true, true, true, true, true, true, true, true, true, true, true, true, true, true, true, true, true, true, true, true, true, true, true, true, true, true, true, true, true, true, true, true, true, true, true, false, false, false, false, false, false, false, false, false, false] rfl rfl (take_ofW HT_.out HW_.out (by kernel_rfl)) (fun _ _ _ h => h) (Or.inl ⟨by rfl, ?_⟩) hHeld ?_ ?_
                       rotate_left
                       ·as_aux_lemma =>
                        rintro w' ⟨s0, s1, s2, s3, s4, s5, s6, s7, s8, s9, s10, s11, s12, s13, s14, s15, s16, s17, s18, s19, s20, s21, s22, s23, s24, s25, s26, s27, s28, s29, s30, s31, s32, s33, s34, s35, s36, s37, s38, s39, s40, s41, s42, s43, s44, s45, s46, s47, s48, s49, s50, s51, s52, s53, s54, s55, s56, s57, s58, s59, s60, s61, s62, s63, s64, s65, s66, s67, s68, s69, s70, s71, s72, s73, s74⟩
                        go_simp
                        with_reducible rfl
                       rotate_left
                       ·as_aux_lemma =>
                        simp only [Act.put, List.setIfInBounds_toArray, List.set_cons_zero, List.set_cons_succ, i64_w, i32_w]
                        rfl
                       refine pure_ (i := 74) (N := some 201) (v := ?_) (a' := ?_) #[true, true, true, true, true, true, true, true, true, true, true, true, true, true, true, true, true, true, true, true, true, true, true, true, true, true, true, true, true, true, true, true, true, true, true, true, true, true, true, true, true, true, true, true, true, true, true, true, true, true, true, true, true, true, true, true, true, true, true, true, true, true, true, true, true, true, true, true, true, true, true, true, true, true, true, false, false, false, false, false, false, false, false, false] rfl rfl (any_of HT_.out (by kernel_rfl)) (fun _ _ _ h => h) (Or.inl ⟨by rfl, ?_⟩) ?_ ?_
                       rotate_left
                       ·as_aux_lemma =>
                        intro w'
                        go_simp
                        with_reducible rfl
                       rotate_left
                       ·as_aux_lemma =>
                        simp only [Act.put, List.setIfInBounds_toArray, List.set_cons_zero, List.set_cons_succ, i64_w, i32_w]
                        rfl
                       refine pure_ (i := 75) (N := some 202) (v := ?_) (a' := ?_) #[true, true, true, true, true, true, true, true, true, true, true, true, true, true, true, true, true, true, true, true, true, true, true, true, true, true, true, true, true, true, true, true, true, true, true, true, true, true, true, true, true, true, true, true, true, true, true, true, true, true, true, true, true, true, true, true, true, true, true, true, true, true, true, true, true, true, true, true, true, true, true, true, true, true, true, true, false, false, false, false, false, false, false, false] rfl rfl (any_of HT_.out (by kernel_rfl)) (fun _ _ _ h => h) (Or.inl ⟨by rfl, ?_⟩) ?_ ?_
                       rotate_left
                       ·as_aux_lemma =>
                        intro w'
                        go_simp
                        with_reducible rfl
                       rotate_left
                       ·as_aux_lemma =>
                        simp only [Act.put, List.setIfInBounds_toArray, List.set_cons_zero, List.set_cons_succ, i64_w, i32_w]
                        rfl
                       refine pure_ (i := 76) (N := some 203) (v := ?_) (a' := ?_) #[true, true, true, true, true, true, true, true, true, true, true, true, true, true, true, true, true, true, true, true, true, true, true, true, true, true, true, true, true, true, true, true, true, true, true, true, true, true, true, true, true, true, true, true, true, true, true, true, true, true, true, true, true, true, true, true, true, true, true, true, true, true, true, true, true, true, true, true, true, true, true, true, true, true, true, true, true, false, false, false, false, false, false, false] rfl rfl (any_of HT_.out (by kernel_rfl)) (fun _ _ _ h => h) (Or.inl ⟨by rfl, ?_⟩) ?_ ?_
                       rotate_left
                       ·as_aux_lemma =>
                        intro w'
                        go_simp
                        with_reducible rfl
                       rotate_left
                       ·as_aux_lemma =>
                        simp only [Act.put, List.setIfInBounds_toArray, List.set_cons_zero, List.set_cons_succ, i64_w, i32_w]
                        rfl
                       refine pure_ (i := 77) (N := some 204) (v := ?_) (a' := ?_) #[true, true, true, true, true, true, true, true, true, true, true, true, true, true, true, true, true, true, true, true, true, true, true, true, true, true, true, true, true, true, true, true, true, true, true, true, true, true, true, true, true, true, true, true, true, true, true, true, true, true, true, true, true, true, true, true, true, true, true, true, true, true, true, true, true, true, true, true, true, true, true, true, true, true, true, true, true, true, false, false, false, false, false, false] rfl rfl (any_of HT_.out (by kernel_rfl)) (fun _ _ _ h => h) (Or.inl ⟨by rfl, ?_⟩) ?_ ?_
                       rotate_left
                       ·as_aux_lemma =>
                        intro w'
                        go_simp
                        with_reducible rfl
                       rotate_left
                       ·as_aux_lemma =>
                        simp only [Act.put, List.setIfInBounds_toArray, List.set_cons_zero, List.set_cons_succ, i64_w, i32_w]
                        rfl
                       refine pure_ (i := 78) (N := some 205) (v := ?_) (a' := ?_) #[true, true, true, true, true, true, true, true, true, true, true, true, true, true, true, true, true, true, true, true, true, true, true, true, true, true, true, true, true, true, true, true, true, true, true, true, true, true, true, true, true, true, true, true, true, true, true, true, true, true, true, true, true, true, true, true, true, true, true, true, true, true, true, true, true, true, true, true, true, true, true, true, true, true, true, true, true, true, true, false, false, false, false, false] rfl rfl (any_of HT_.out (by kernel_rfl)) (fun _ _ _ h => h) (Or.inl ⟨by rfl, ?_⟩) ?_ ?_
                       rotate_left
                       ·as_aux_lemma =>
                        intro w'
                        go_simp
                        with_reducible rfl
                       rotate_left
                       ·as_aux_lemma =>
                        simp only [Act.put, List.setIfInBounds_toArray, List.set_cons_zero, List.set_cons_succ, i64_w, i32_w]
                        rfl
                       refine pure_ (i := 79) (N := some 206) (v := ?_) (a' := ?_) #[true, true, true, true, true, true, true, true, true, true, true, true, true, true, true, true, true, true, true, true, true, true, true, true, true, true, true, true, true, true, true, true, true, true, true, true, true, true, true, true, true, true, true, true, true, true, true, true, true, true, true, true, true, true, true, true, true, true, true, true, true, true, true, true, true, true, true, true, true, true, true, true, true, true, true, true, true, true, true, true, false, false, false, false] rfl rfl (any_of HT_.out (by kernel_rfl)) (fun _ _ _ h => h) (Or.inl ⟨by rfl, ?_⟩) ?_ ?_
                       rotate_left
                       ·as_aux_lemma =>
                        intro w'
                        go_simp
                        with_reducible rfl
                       rotate_left
                       ·as_aux_lemma =>
                        simp only [Act.put, List.setIfInBounds_toArray, List.set_cons_zero, List.set_cons_succ, i64_w, i32_w]
                        rfl
                       refine pure_ (i := 80) (N := some 207) (v := ?_) (a' := ?_) #[true, true, true, true, true, true, true, true, true, true, true, true, true, true, true, true, true, true, true, true, true, true, true, true, true, true, true, true, true, true, true, true, true, true, true, true, true, true, true, true, true, true, true, true, true, true, true, true, true, true, true, true, true, true, true, true, true, true, true, true, true, true, true, true, true, true, true, true, true, true, true, true, true, true, true, true, true, true, true, true, true, false, false, false] rfl rfl (any_of HT_.out (by kernel_rfl)) (fun _ _ _ h => h) (Or.inl ⟨by rfl, ?_⟩) ?_ ?_
                       rotate_left
                       ·as_aux_lemma =>
                        intro w'
                        go_simp
                        with_reducible rfl
                       rotate_left
                       ·as_aux_lemma =>
                        simp only [Act.put, List.setIfInBounds_toArray, List.set_cons_zero, List.set_cons_succ, i64_w, i32_w]
                        rfl
                       refine take_ (i := 81) (N := some 208) (v := ?_) (a' := ?_) #[true, true, true, true, true, true, true, true, true, true, true, true, true, true, true, true, true, true, true, true, true, true, true, true, true, true, true, true, true, true, true, true, true, true, true, true, true, true, true, true, true, true, true, true, true, true, true, true, true, true, true, true, true, true, true, true, true, true, true, true, true, true, true, true, true, true, true, true, true, true, true, true, true, true, true, true, true, true, true, true, true, true, false, false] rfl rfl (take_ofW HT_.out HW_.out (by kernel_rfl)) (fun _ _ _ h => h) (Or.inl ⟨by rfl, ?_⟩) hHeld ?_ ?_
                       rotate_left
                       ·as_aux_lemma =>
                        rintro w' ⟨s0, s1, s2, s3, s4, s5, s6, s7, s8, s9, s10, s11, s12, s13, s14, s15, s16, s17, s18, s19, s20, s21, s22, s23, s24, s25, s26, s27, s28, s29, s30, s31, s32, s33, s34, s35, s36, s37, s38, s39, s40, s41, s42, s43, s44, s45, s46, s47, s48, s49, s50, s51, s52, s53, s54, s55, s56, s57, s58, s59, s60, s61, s62, s63, s64, s65, s66, s67, s68, s69, s70, s71, s72, s73, s74⟩
                        go_simp
                        with_reducible rfl
                       rotate_left
                       ·as_aux_lemma =>
                        simp only [Act.put, List.setIfInBounds_toArray, List.set_cons_zero, List.set_cons_succ, i64_w, i32_w]
                        rfl
                       refine pure_ (i := 82) (N := some 209) (v := ?_) (a' := ?_) #[true, true, true, true, true, true, true, true, true, true, true, true, true, true, true, true, true, true, true, true, true, true, true, true, true, true, true, true, true, true, true, true, true, true, true, true, true, true, true, true, true, true, true, true, true, true, true, true, true, true, true, true, true, true, true, true, true, true, true, true, true, true, true, true, true, true, true, true, true, true, true, true, true, true, true, true, true, true, true, true, true, true, true, false] rfl rfl (any_of HT_.out (by kernel_rfl)) (fun _ _ _ h => h) (Or.inl ⟨by rfl, ?_⟩) ?_ ?_
                       rotate_left
                       ·as_aux_lemma =>
                        intro w'
                        go_simp
                        with_reducible rfl
                       rotate_left
                       ·as_aux_lemma =>
                        simp only [Act.put, List.setIfInBounds_toArray, List.set_cons_zero, List.set_cons_succ, i64_w, i32_w]
                        rfl
                       refine pure_ (i := 83) (N := some 210) (v := ?_) (a' := ?_) #[true, true, true, true, true, true, true, true, true, true, true, true, true, true, true, true, true, true, true, true, true, true, true, true, true, true, true, true, true, true, true, true, true, true, true, true, true, true, true, true, true, true, true, true, true, true, true, true, true, true, true, true, true, true, true, true, true, true, true, true, true, true, true, true, true, true, true, true, true, true, true, true, true, true, true, true, true, true, true, true, true, true, true, true] rfl rfl (any_of HT_.out (by kernel_rfl)) (fun _ _ _ h => h) (Or.inl ⟨by rfl, ?_⟩) ?_ ?_
                       rotate_left
                       ·as_aux_lemma =>
                        intro w'
                        go_simp
                        with_reducible rfl
                       rotate_left
                       ·as_aux_lemma =>
                        simp only [Act.put, List.setIfInBounds_toArray, List.set_cons_zero, List.set_cons_succ, i64_w, i32_w]
                        rfl
                       refine done_ (done_of HT_.out (by kernel_rfl)) ?_
                       try go_wp2
                       go_roundg k3
                       case measure => have := HJ4.out; have := HJ17.out; have := HK3.out; omega
                       case rel => exact ⟨(wrap64 (x15_3 + 1)), (by first | rfl | (simp; done) | (simp [*]; done)), H', ⟨by have := HJ4.out; have := HJ17.out; have := HK3.out; omega⟩, ⟨by (with_reducible repeat (first | apply Kd.R_alloc | apply Kd.R_drewN | apply Kd.R_drew)); exact HO_8.out⟩, ⟨by (with_reducible repeat (first | apply Kd.R_alloc | apply Kd.R_drewN | apply Kd.R_drew)); exact HO_10.out⟩, ⟨by (with_reducible repeat (first | apply Kd.R_alloc | apply Kd.R_drewN | apply Kd.R_drew)); exact HO_12.out⟩, ⟨by (with_reducible repeat (first | apply Kd.R_alloc | apply Kd.R_drewN | apply Kd.R_drew)); exact HO_13.out⟩, ⟨by repeat (first | (with_reducible first | exact HB.out | apply below_alloc | apply pw_below_drewN | apply below_drew1 | refine below_set ?_ GE716.out) | exact HB.out)⟩⟩
                      ·as_aux_lemma =>
                       rw [if_neg c51] at H
                       have c51b0 : (((rd_T47 t689 x15_3).f3) == 1) = false := beq_eq_false_iff_ne.mpr c51
                       have c51b1 : (((rd_T47 t689 x15_3).f3) != 1) = true := bne_iff_ne.mpr c51
                       exact absurd H (by simp)
                    ·as_aux_lemma =>
                     rw [if_neg c49] at H
                     have c49b0 : (((rd_T47 t689 x15_3).f1) == ((rd_T47 t706 x15_3).f1)) = false := beq_eq_false_iff_ne.mpr c49
                     have c49b1 : (((rd_T47 t689 x15_3).f1) != ((rd_T47 t706 x15_3).f1)) = true := bne_iff_ne.mpr c49
                     exact absurd H (by simp)
                   ·as_aux_lemma =>
                    rw [if_neg c48] at H
                    have c48b0 : (((rd_T47 t689 x15_3).f1) == ((rd_T47 t693 x15_3).f1)) = false := beq_eq_false_iff_ne.mpr c48
                    have c48b1 : (((rd_T47 t689 x15_3).f1) != ((rd_T47 t693 x15_3).f1)) = true := bne_iff_ne.mpr c48
                    exact absurd H (by simp)
                  ·as_aux_lemma =>
                   rw [if_neg c47] at H
                   have c47b0 : (((rd_T47 t689 x15_3).f0) == ((rd_T47 t706 x15_3).f0)) = false := beq_eq_false_iff_ne.mpr c47
                   have c47b1 : (((rd_T47 t689 x15_3).f0) != ((rd_T47 t706 x15_3).f0)) = true := bne_iff_ne.mpr c47
                   exact absurd H (by simp)
                 ·as_aux_lemma =>
                  rw [if_neg c46] at H
                  have c46b0 : (((rd_T47 t689 x15_3).f0) == ((rd_T47 t693 x15_3).f0)) = false := beq_eq_false_iff_ne.mpr c46
                  have c46b1 : (((rd_T47 t689 x15_3).f0) != ((rd_T47 t693 x15_3).f0)) = true := bne_iff_ne.mpr c46
                  exact absurd H (by simp)
               ·as_aux_lemma =>
                rw [if_neg c44] at H
                exact absurd H (by simp)
              ·as_aux_lemma =>
               rw [if_neg c43] at H
               have c43b0 : (t715 == 0) = false := beq_eq_false_iff_ne.mpr c43
               have c43b1 : (t715 != 0) = true := bne_iff_ne.mpr c43
               exact absurd H (by simp)
             ·as_aux_lemma =>
              rw [if_neg c41] at H
              exact absurd H (by simp)
            ·as_aux_lemma =>
             rw [if_neg c40] at H
             exact absurd H (by simp)
           ·as_aux_lemma =>
            rw [if_neg c39] at H
            have c39b0 : decide (x15_3 < (t689.length : Int)) = false := decide_eq_false c39
            clear c39
            replace H := Option.bind_eq_some_iff.mp H
            obtain ⟨⟨t729, t730⟩, A640, H⟩ := H
            (try dsimp only at H)
            have A64 := Aside0.mk A640
            clear A640
            by_cases c65 : t730 = 0
            ·as_aux_lemma =>
             rw [if_pos c65] at H
             have c65b0 : (t730 == 0) = true := beq_iff_eq.mpr c65
             have c65b1 : (t730 != 0) = false := bne_eq_false_iff_eq.mpr c65
             clear c65
             replace H := Option.bind_eq_some_iff.mp H
             obtain ⟨⟨t733, t734⟩, A660, H⟩ := H
             (try dsimp only at H)
             have A66 := Aside0.mk A660
             clear A660
             replace H := Option.bind_eq_some_iff.mp H
             obtain ⟨⟨t737, t738⟩, A670, H⟩ := H
             (try dsimp only at H)
             have A67 := Aside0.mk A670
             clear A670
             by_cases c68 : t686 = true
             ·as_aux_lemma =>
              subst c68
              rw [if_pos rfl] at H
              by_cases c69 : t734 = 0
              ·as_aux_lemma =>
               rw [if_pos c69] at H
               have c69b0 : (t734 == 0) = true := beq_iff_eq.mpr c69
               have c69b1 : (t734 != 0) = false := bne_eq_false_iff_eq.mpr c69
               clear c69
               replace H := Option.bind_eq_some_iff.mp H
               obtain ⟨t741, A700, H⟩ := H
               (try dsimp only at H)
               have A70 := Aside0.mk A700
               clear A700
               by_cases c71 : t741 = true
               ·as_aux_lemma =>
                subst c71
                rw [if_pos rfl] at H
                by_cases c72 : t738 = 0
                ·as_aux_lemma =>
                 rw [if_pos c72] at H
                 have c72b0 : (t738 == 0) = true := beq_iff_eq.mpr c72
                 have c72b1 : (t738 != 0) = false := bne_eq_false_iff_eq.mpr c72
                 clear c72
                 replace H := Option.bind_eq_some_iff.mp H
                 obtain ⟨t742, A730, H⟩ := H
                 (try dsimp only at H)
                 have A73 := Aside0.mk A730
                 clear A730
                 have hend := Aside0.mk (Option.some.inj H)
                 clear H
                 obtain ⟨Ao74, co74, eo74⟩ := Kd.R_slice HO_8.out
                 subst eo74
                 go_wp2_with (first | ((with_reducible refine gate_callee (f := 11) rfl ?_); refine goesL_ (some 213) rfl rfl Try.func11 (by kernel_rfl) rfl #[.slice Ao25 y703.length co25] rfl (by (try simp only [List.map_toArray, List.map_cons, List.map_nil]); first | done | rfl | (simp only [List.length_drop, List.length_take]; rfl)) ?_; (with_reducible refine (sky_Merge.calls k3 _ _ y703 t729 t730 _ ?side1 ?side2 A64.out).mono ?_); (case side1 => repeat (first | exact (Kd.R_reads' HO_12.out).2.2 | (with_reducible refine Kd.C_alloc ?_ _) | (with_reducible refine Kd.C_drewN ?_ _) | (with_reducible refine Kd.C_drew ?_))); (case side2 => exact (Kd.R_reads' HO_12.out).2.1); rintro e w75 ⟨v731, rfl, ho0, hb⟩; refine ⟨_, rfl, ?_⟩; have n0_ := Aside0.mk (Kd.R_below (by (with_reducible repeat (first | apply Kd.R_alloc | apply Kd.R_drewN | apply Kd.R_drew)); exact HO_8.out) hb); have n1_ := Aside0.mk (Kd.R_below (by (with_reducible repeat (first | apply Kd.R_alloc | apply Kd.R_drewN | apply Kd.R_drew)); exact HO_10.out) hb); have n2_ := Aside0.mk (Kd.R_elder' (by (with_reducible repeat (first | apply Kd.R_alloc | apply Kd.R_drewN | apply Kd.R_drew)); exact HO_12.out) (Kd.R_base ho0) hb); have n3_ := Aside0.mk (Kd.R_below (by (with_reducible repeat (first | apply Kd.R_alloc | apply Kd.R_drewN | apply Kd.R_drew)); exact HO_13.out) hb); have n4_ := Aside0.mk (Kd.R_lower (Kd.R_new' ho0 (Kd.R_lt (by (with_reducible repeat (first | apply Kd.R_alloc | apply Kd.R_drewN | apply Kd.R_drew)); exact HO_12.out))) (below_size (by repeat (first | (with_reducible first | exact HB.out | apply below_alloc | apply pw_below_drewN | apply below_drew1) | exact HB.out)))); have n5_ := Aside0.mk (below_step (by repeat (first | (with_reducible first | exact HB.out | apply below_alloc | apply pw_below_drewN | apply below_drew1) | exact HB.out)) hb); clear HO_8; clear HO_10; clear HO_12; clear HO_13; clear HB; have HO_8 := n0_; have HO_10 := n1_; have HO_12 := n2_; have HO_13 := n3_; have HO732 := n4_; have HB := n5_; clear n0_ n1_ n2_ n3_ n4_ n5_; (try clear hb); (try clear hb2); (try clear hk); (try clear hi); (try clear ho0); obtain ⟨Ao76, co76, eo76⟩ := Kd.R_slice HO732.out; subst eo76) | ((with_reducible refine gate_callee (f := 18) rfl ?_); refine goesL_ (some 226) rfl rfl Try.func18 (by kernel_rfl) rfl #[.slice A0 l0.length c0, .slice Ao76 t729.length co76] rfl (by (try simp only [List.map_toArray, List.map_cons, List.map_nil]); first | done | rfl | (simp only [List.length_drop, List.length_take]; rfl)) ?_; (with_reducible refine (sky_See.calls k3 _ _ l0 _ _ t729 t733 t734 _ ?side1 ?side2 ?side3 ?side4 A66.out).mono ?_); (case side1 => repeat (first | exact (Kd.C_below HR0.out HB.out) | (with_reducible refine Kd.C_alloc ?_ _) | (with_reducible refine Kd.C_drewN ?_ _) | (with_reducible refine Kd.C_drew ?_))); (case side2 => exact HC0.out); (case side3 => repeat (first | exact (Kd.R_reads' HO732.out).2.2 | (with_reducible refine Kd.C_alloc ?_ _) | (with_reducible refine Kd.C_drewN ?_ _) | (with_reducible refine Kd.C_drew ?_))); (case side4 => exact (Kd.R_reads' HO732.out).2.1); rintro e w77 ⟨v735, rfl, ho0, hb⟩; refine ⟨_, rfl, ?_⟩; have n0_ := Aside0.mk (Kd.R_elder' (by (with_reducible repeat (first | apply Kd.R_alloc | apply Kd.R_drewN | apply Kd.R_drew)); exact HO_8.out) (Kd.R_base ho0) hb); have n1_ := Aside0.mk (Kd.R_elder' (by (with_reducible repeat (first | apply Kd.R_alloc | apply Kd.R_drewN | apply Kd.R_drew)); exact HO_10.out) (Kd.R_base ho0) hb); have n2_ := Aside0.mk (Kd.R_below (by (with_reducible repeat (first | apply Kd.R_alloc | apply Kd.R_drewN | apply Kd.R_drew)); exact HO_12.out) hb); have n3_ := Aside0.mk (Kd.R_elder' (by (with_reducible repeat (first | apply Kd.R_alloc | apply Kd.R_drewN | apply Kd.R_drew)); exact HO_13.out) (Kd.R_base ho0) hb); have n4_ := Aside0.mk (Kd.R_below (by (with_reducible repeat (first | apply Kd.R_alloc | apply Kd.R_drewN | apply Kd.R_drew)); exact HO732.out) hb); have n5_ := Aside0.mk (Kd.R_lower (Kd.R_new' (Kd.R_new' (Kd.R_new' ho0 (Kd.R_lt (by (with_reducible repeat (first | apply Kd.R_alloc | apply Kd.R_drewN | apply Kd.R_drew)); exact HO_8.out))) (Kd.R_lt (by (with_reducible repeat (first | apply Kd.R_alloc | apply Kd.R_drewN | apply Kd.R_drew)); exact HO_10.out))) (Kd.R_lt (by (with_reducible repeat (first | apply Kd.R_alloc | apply Kd.R_drewN | apply Kd.R_drew)); exact HO_13.out))) (below_size (by repeat (first | (with_reducible first | exact HB.out | apply below_alloc | apply pw_below_drewN | apply below_drew1) | exact HB.out)))); have n6_ := Aside0.mk (below_step (by repeat (first | (with_reducible first | exact HB.out | apply below_alloc | apply pw_below_drewN | apply below_drew1) | exact HB.out)) hb); clear HO_8; clear HO_10; clear HO_12; clear HO_13; clear HO732; clear HB; have HO_8 := n0_; have HO_10 := n1_; have HO_12 := n2_; have HO_13 := n3_; have HO732 := n4_; have HO736 := n5_; have HB := n6_; clear n0_ n1_ n2_ n3_ n4_ n5_ n6_; (try clear hb); (try clear hb2); (try clear hk); (try clear hi); (try clear ho0)) | ((with_reducible refine gate_callee (f := 11) rfl ?_); refine goesL_ (some 231) rfl rfl Try.func11 (by kernel_rfl) rfl #[.slice Ao76 t729.length co76] rfl (by (try simp only [List.map_toArray, List.map_cons, List.map_nil]); first | done | rfl | (simp only [List.length_drop, List.length_take]; rfl)) ?_; (with_reducible refine (sky_Merge.calls k3 _ _ t729 t737 t738 _ ?side1 ?side2 A67.out).mono ?_); (case side1 => repeat (first | exact (Kd.R_reads' HO732.out).2.2 | (with_reducible refine Kd.C_alloc ?_ _) | (with_reducible refine Kd.C_drewN ?_ _) | (with_reducible refine Kd.C_drew ?_))); (case side2 => exact (Kd.R_reads' HO732.out).2.1); rintro e w78 ⟨v739, rfl, ho0, hb⟩; refine ⟨_, rfl, ?_⟩; have n0_ := Aside0.mk (Kd.R_below (by (with_reducible repeat (first | apply Kd.R_alloc | apply Kd.R_drewN | apply Kd.R_drew)); exact HO_8.out) hb); have n1_ := Aside0.mk (Kd.R_below (by (with_reducible repeat (first | apply Kd.R_alloc | apply Kd.R_drewN | apply Kd.R_drew)); exact HO_10.out) hb); have n2_ := Aside0.mk (Kd.R_elder' (by (with_reducible repeat (first | apply Kd.R_alloc | apply Kd.R_drewN | apply Kd.R_drew)); exact HO_12.out) (Kd.R_base ho0) hb); have n3_ := Aside0.mk (Kd.R_below (by (with_reducible repeat (first | apply Kd.R_alloc | apply Kd.R_drewN | apply Kd.R_drew)); exact HO_13.out) hb); have n4_ := Aside0.mk (Kd.R_elder' (by (with_reducible repeat (first | apply Kd.R_alloc | apply Kd.R_drewN | apply Kd.R_drew)); exact HO732.out) (Kd.R_base ho0) hb); have n5_ := Aside0.mk (Kd.R_below (by (with_reducible repeat (first | apply Kd.R_alloc | apply Kd.R_drewN | apply Kd.R_drew)); exact HO736.out) hb); have n6_ := Aside0.mk (Kd.R_lower (Kd.R_new' (Kd.R_new' ho0 (Kd.R_lt (by (with_reducible repeat (first | apply Kd.R_alloc | apply Kd.R_drewN | apply Kd.R_drew)); exact HO_12.out))) (Kd.R_lt (by (with_reducible repeat (first | apply Kd.R_alloc | apply Kd.R_drewN | apply Kd.R_drew)); exact HO732.out))) (below_size (by repeat (first | (with_reducible first | exact HB.out | apply below_alloc | apply pw_below_drewN | apply below_drew1) | exact HB.out)))); have n7_ := Aside0.mk (below_step (by repeat (first | (with_reducible first | exact HB.out | apply below_alloc | apply pw_below_drewN | apply below_drew1) | exact HB.out)) hb); clear HO_8; clear HO_10; clear HO_12; clear HO_13; clear HO732; clear HO736; clear HB; have HO_8 := n0_; have HO_10 := n1_; have HO_12 := n2_; have HO_13 := n3_; have HO732 := n4_; have HO736 := n5_; have HO740 := n6_; have HB := n7_; clear n0_ n1_ n2_ n3_ n4_ n5_ n6_ n7_; (try clear hb); (try clear hb2); (try clear hk); (try clear hi); (try clear ho0); obtain ⟨Ao79, co79, eo79⟩ := Kd.R_slice HO_13.out; subst eo79; obtain ⟨Ao80, co80, eo80⟩ := Kd.R_slice HO736.out; subst eo80) | (go_at_call 20; (with_reducible refine (fringeref41_SameVis.calls k3 _ _ t706 _ _ t733 true _ ?side1 ?side2 ?side3 ?side4 A70.out).mono ?_); (case side1 => repeat (first | exact (Kd.R_reads' HO_13.out).2.2 | (with_reducible refine Kd.C_alloc ?_ _) | (with_reducible refine Kd.C_drewN ?_ _) | (with_reducible refine Kd.C_drew ?_))); (case side2 => exact (Kd.R_reads' HO_13.out).2.1); (case side3 => repeat (first | exact (Kd.R_reads' HO736.out).2.2 | (with_reducible refine Kd.C_alloc ?_ _) | (with_reducible refine Kd.C_drewN ?_ _) | (with_reducible refine Kd.C_drew ?_))); (case side4 => exact (Kd.R_reads' HO736.out).2.1); rintro e w' ⟨rfl, ⟨nd, rfl⟩⟩; obtain ⟨Ao81, co81, eo81⟩ := Kd.R_slice HO740.out; subst eo81) | (go_at_call 15; (with_reducible refine (fringeref41_Same.calls k3 _ _ t737 _ _ t729 t742 _ ?side1 ?side2 ?side3 ?side4 A73.out).mono ?_); (case side1 => repeat (first | exact (Kd.R_reads' HO740.out).2.2 | (with_reducible refine Kd.C_alloc ?_ _) | (with_reducible refine Kd.C_drewN ?_ _) | (with_reducible refine Kd.C_drew ?_))); (case side2 => exact (Kd.R_reads' HO740.out).2.1); (case side3 => repeat (first | exact (Kd.R_reads' HO732.out).2.2 | (with_reducible refine Kd.C_alloc ?_ _) | (with_reducible refine Kd.C_drewN ?_ _) | (with_reducible refine Kd.C_drew ?_))); (case side4 => exact (Kd.R_reads' HO732.out).2.1); rintro e w' ⟨rfl, ⟨nd, rfl⟩⟩))
                 go_ret
                 exact ⟨by first | rfl | (rw [hend.out]; done) | (simp only [hend.out]; done) | (simp [*]; first | exact hend.out | exact eq_of_beq hend.out | exact of_decide_eq_true hend.out) | (have h_ := hend.out; simp_all; done) | (simp [*, errW_none, errW_some] <;> rfl), by repeat (first | (with_reducible first | exact HB.out | apply below_alloc | apply pw_below_drewN | apply below_drew1) | exact HB.out)⟩
                ·as_aux_lemma =>
                 rw [if_neg c72] at H
                 have c72b0 : (t738 == 0) = false := beq_eq_false_iff_ne.mpr c72
                 have c72b1 : (t738 != 0) = true := bne_iff_ne.mpr c72
                 exact absurd H (by simp)
               ·as_aux_lemma =>
                replace c71 := Bool.eq_false_iff.mpr c71
                subst c71
                rw [if_neg (show ¬ (false = true) by decide)] at H
                exact absurd H (by simp)
              ·as_aux_lemma =>
               rw [if_neg c69] at H
               have c69b0 : (t734 == 0) = false := beq_eq_false_iff_ne.mpr c69
               have c69b1 : (t734 != 0) = true := bne_iff_ne.mpr c69
               exact absurd H (by simp)
             ·as_aux_lemma =>
              replace c68 := Bool.eq_false_iff.mpr c68
              subst c68
              rw [if_neg (show ¬ (false = true) by decide)] at H
              exact absurd H (by simp)
            ·as_aux_lemma =>
             rw [if_neg c65] at H
             have c65b0 : (t730 == 0) = false := beq_eq_false_iff_ne.mpr c65
             have c65b1 : (t730 != 0) = true := bne_iff_ne.mpr c65
             by_cases c82 : t686 = true
             ·as_aux_lemma =>
              subst c82
              rw [if_pos rfl] at H
              have hend := Aside0.mk (Option.some.inj H)
              clear H
              obtain ⟨Ao83, co83, eo83⟩ := Kd.R_slice HO_8.out
              subst eo83
              go_wp2_with (first | ((with_reducible refine gate_callee (f := 11) rfl ?_); refine goesL_ (some 213) rfl rfl Try.func11 (by kernel_rfl) rfl #[.slice Ao25 y703.length co25] rfl (by (try simp only [List.map_toArray, List.map_cons, List.map_nil]); first | done | rfl | (simp only [List.length_drop, List.length_take]; rfl)) ?_; (with_reducible refine (sky_Merge.calls k3 _ _ y703 t729 t730 _ ?side1 ?side2 A64.out).mono ?_); (case side1 => repeat (first | exact (Kd.R_reads' HO_12.out).2.2 | (with_reducible refine Kd.C_alloc ?_ _) | (with_reducible refine Kd.C_drewN ?_ _) | (with_reducible refine Kd.C_drew ?_))); (case side2 => exact (Kd.R_reads' HO_12.out).2.1); rintro e w84 ⟨v731, rfl, ho0, hb⟩; refine ⟨_, rfl, ?_⟩; have n0_ := Aside0.mk (Kd.R_below (by (with_reducible repeat (first | apply Kd.R_alloc | apply Kd.R_drewN | apply Kd.R_drew)); exact HO_8.out) hb); have n1_ := Aside0.mk (Kd.R_below (by (with_reducible repeat (first | apply Kd.R_alloc | apply Kd.R_drewN | apply Kd.R_drew)); exact HO_10.out) hb); have n2_ := Aside0.mk (Kd.R_elder' (by (with_reducible repeat (first | apply Kd.R_alloc | apply Kd.R_drewN | apply Kd.R_drew)); exact HO_12.out) (Kd.R_base ho0) hb); have n3_ := Aside0.mk (Kd.R_below (by (with_reducible repeat (first | apply Kd.R_alloc | apply Kd.R_drewN | apply Kd.R_drew)); exact HO_13.out) hb); have n4_ := Aside0.mk (Kd.R_lower (Kd.R_new' ho0 (Kd.R_lt (by (with_reducible repeat (first | apply Kd.R_alloc | apply Kd.R_drewN | apply Kd.R_drew)); exact HO_12.out))) (below_size (by repeat (first | (with_reducible first | exact HB.out | apply below_alloc | apply pw_below_drewN | apply below_drew1) | exact HB.out)))); have n5_ := Aside0.mk (below_step (by repeat (first | (with_reducible first | exact HB.out | apply below_alloc | apply pw_below_drewN | apply below_drew1) | exact HB.out)) hb); clear HO_8; clear HO_10; clear HO_12; clear HO_13; clear HB; have HO_8 := n0_; have HO_10 := n1_; have HO_12 := n2_; have HO_13 := n3_; have HO732 := n4_; have HB := n5_; clear n0_ n1_ n2_ n3_ n4_ n5_; (try clear hb); (try clear hb2); (try clear hk); (try clear hi); (try clear ho0)))
              go_ret
              exact ⟨by first | rfl | (rw [hend.out]; done) | (simp only [hend.out]; done) | (simp [*]; first | exact hend.out | exact eq_of_beq hend.out | exact of_decide_eq_true hend.out) | (have h_ := hend.out; simp_all; done) | (simp [*, errW_none, errW_some] <;> rfl), by repeat (first | (with_reducible first | exact HB.out | apply below_alloc | apply pw_below_drewN | apply below_drew1) | exact HB.out)⟩
             ·as_aux_lemma =>
              replace c82 := Bool.eq_false_iff.mpr c82
              subst c82
              rw [if_neg (show ¬ (false = true) by decide)] at H
              exact absurd H (by simp)
     ·as_aux_lemma =>
      rw [if_neg c16] at H
      exact absurd H (by simp)
    ·as_aux_lemma =>
     rw [if_neg c15] at H
     exact absurd H (by simp)

end Go.Proofs.Ytihmhcdcbcleeaa.Q
