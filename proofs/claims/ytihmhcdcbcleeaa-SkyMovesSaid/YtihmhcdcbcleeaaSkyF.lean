/- What shifts of lamps come to. -/
import Derived.Test.YtihmhcdcbcleeaaQ8
import Derived.Test.YtihmhcdcbcleeaaQ10
import Derived.Test.YtihmhcdcbcleeaaSkyD
import Derived.Test.YtihmhcdcbcleeaaSkyM
namespace Go.Proofs.Ytihmhcdcbcleeaa.Pure
open Go.RowKit Go.Proofs.YtihmhcdcbcleeaaW.PrintWords Go.Proofs.YtihmhcdcbcleeaaW.PrintLast Go.Proofs.YtihmhcdcbcleeaaW.PrintMore Go.Proofs.Ytihmhcdcbcleeaa.Open Go.Proofs.Ytihmhcdcbcleeaa.Q Go.Proofs.Ytihmhcdcbcleeaa.Aid
/-! ### shifts -/
def shL (x y : Int) (s : S33) : S33 := ⟨s.f0 + x, s.f1 + y, s.f2⟩
def inL (s : S33) : Bool := decide ((0 ≤ s.f0 ∧ s.f0 < 8) ∧ 0 ≤ s.f1 ∧ s.f1 < 8)
theorem inL_iff {s : S33} : inL s = true ↔ ((0 ≤ s.f0 ∧ s.f0 < 8) ∧ 0 ≤ s.f1 ∧ s.f1 < 8) := by simp only [inL, decide_eq_true_eq]
theorem inL_sh {x y : Int} {s : S33} : inL (shL x y s) = true ↔ ((0 ≤ s.f0 + x ∧ s.f0 + x < 8) ∧ 0 ≤ s.f1 + y ∧ s.f1 + y < 8) := inL_iff
theorem lampOk_iff {s : S33} : lampOk s = true ↔ (0 ≤ s.f0 ∧ s.f0 < 8 ∧ 0 ≤ s.f1 ∧ s.f1 < 8 ∧ 0 ≤ s.f2 ∧ s.f2 ≤ 1000) := by simp only [lampOk, decide_eq_true_eq]
def ShiftS (l : List S33) (x y : Int) : List S33 × Int := if chk l = 0 then (if (l.map (shL x y)).all inL then (l.map (shL x y), 0) else ([], 16)) else ([], chk l)
theorem Shift1_eq (x : Int) : sky_Shift_1.f x = some (decide (8 ≤ x ∨ x ≤ -8)) := by
  unfold sky_Shift_1.f
  by_cases h : x ≥ 8
  · rw [if_pos h]; congr 1; symm; rw [decide_eq_true_eq]; omega
  · rw [if_neg h]; congr 1; rw [decide_eq_decide]; omega
theorem shift_l0 (l : List S33) (hl : l.length ≤ 16) (hg : ∀ s ∈ l, lampOk s = true) (x y : Int) (hx : -8 ≤ x ∧ x ≤ 8) (hy : -8 ≤ y ∧ y ≤ 8) : ∀ d i : Nat, l.length = i + d → ∀ A : List S33, A.length = i →
    Ev (fun k => sky_Shift.l0 k x y (A ++ l.drop i) l.length i) (if ((l.drop i).map (shL x y)).all inL then (A ++ (l.drop i).map (shL x y), 0) else ([], 16))
  | 0, i, h, A, hA => by
    refine Ev.step (fun k => by simp only [sky_Shift.l0]; rfl) ?_
    refine Ev.iteF (by omega) ?_
    rw [List.drop_eq_nil_of_le (by omega)]
    exact Ev.now _
  | d + 1, i, h, A, hA => by
    refine Ev.step (fun k => by simp only [sky_Shift.l0]; rfl) ?_
    refine Ev.iteT (by omega) (Ev.iteT (by omega) (Ev.iteT (by rw [List.length_append, List.length_drop]; omega) ?_))
    have hd := drop_get l z33 i (by omega)
    have hm := ok33 (hg _ (mem_getD l z33 i (by omega)))
    rw [hd]
    generalize l.getD i z33 = s at hm ⊢
    have e1 : rd_T33 (A ++ s :: l.drop (i + 1)) (i : Int) = s := getD_mid z33 A s _ hA
    rw [e1, wr (x := s.f0 + x) (by omega) (by omega)]
    simp only [Option.bind_some, Int.toNat_natCast, set_mid A _ _ _ hA]
    have e2 : rd_T33 (A ++ (⟨s.f0 + x, s.f1, s.f2⟩ : S33) :: l.drop (i + 1)) (i : Int) = ⟨s.f0 + x, s.f1, s.f2⟩ := getD_mid z33 A _ _ hA
    simp only [e2, wr (x := s.f1 + y) (by omega) (by omega)]
    have e3 : rd_T33 (A ++ (⟨s.f0 + x, s.f1 + y, s.f2⟩ : S33) :: l.drop (i + 1)) (i : Int) = ⟨s.f0 + x, s.f1 + y, s.f2⟩ := getD_mid z33 A _ _ hA
    simp only [e3, cell_eq, Option.bind_some]
    have ih := shift_l0 l hl hg x y hx hy d (i + 1) (by omega) (A ++ [shL x y s]) (by rw [List.length_append, List.length_singleton, hA])
    rw [List.append_assoc, List.append_assoc, List.singleton_append, List.singleton_append] at ih
    rw [List.map_cons, List.all_cons]
    by_cases c1 : 0 ≤ s.f0 + x ∧ s.f0 + x < 8
    · by_cases c2 : 0 ≤ s.f1 + y ∧ s.f1 + y < 8
      · have e4 : inL (shL x y s) = true := inL_sh.2 ⟨c1, c2⟩
        rw [e4, Bool.true_and, wr1 i (by omega)]
        exact Ev.iteT (by simp [c1]) (Ev.iteT (by simp [c2]) ih)
      · have e4 : inL (shL x y s) = false := Bool.eq_false_iff.2 (fun hh => by have := inL_sh.1 hh; omega)
        rw [e4, Bool.false_and]
        exact Ev.iteT (by simp [c1]) (Ev.iteF (by rw [decide_eq_true_eq]; exact c2) (Ev.now _))
    · have e4 : inL (shL x y s) = false := Bool.eq_false_iff.2 (fun hh => by have := inL_sh.1 hh; omega)
      rw [e4, Bool.false_and]
      exact Ev.iteF (by rw [decide_eq_true_eq]; exact c1) (Ev.now _)
theorem shift_far {l : List S33} (hg : ∀ s ∈ l, lampOk s = true) (h : l.length > 0) {x y : Int} (hx : (8 ≤ x ∨ x ≤ -8) ∨ (8 ≤ y ∨ y ≤ -8)) : (l.map (shL x y)).all inL = false := by
  cases l with
  | nil => simp at h
  | cons s t =>
    have hm := ok33 (hg s (by simp))
    have e : inL (shL x y s) = false := by
      rw [Bool.eq_false_iff]
      intro hh
      have := inL_sh.1 hh
      omega
    rw [List.map_cons, List.all_cons, e, Bool.false_and]
theorem sky_Shift_ev (l : List S33) (x y : Int) : Ev (fun k => sky_Shift.f k l x y) (ShiftS l x y) := by
  unfold ShiftS
  simp only [sky_Shift.f, Shift1_eq, Option.bind_some]
  refine Ev.bind (sky_Check_ev l) ?_
  by_cases h : chk l = 0
  · rw [if_pos h]
    obtain ⟨h1, h2⟩ := chk_ok h
    refine Ev.iteT h ?_
    have hk : (l.length = 0 ∨ ((-8 ≤ x ∧ x ≤ 8) ∧ (-8 ≤ y ∧ y ≤ 8))) → Ev (fun k => sky_Shift.j0 k l x y false) (if (l.map (shL x y)).all inL then (l.map (shL x y), 0) else ([], 16)) := fun hc => by
      refine Ev.step (fun k => by simp only [sky_Shift.j0]; rfl) ?_
      refine Ev.iteF (by simp) ?_
      simp only [slices_Clone__api_Lamp_api_Lamp.f]
      rw [if_pos (by omega)]
      simp only [Option.bind_some]
      rcases hc with hc | hc
      · have : l = [] := List.length_eq_zero_iff.1 hc
        subst this
        refine Ev.step (fun k => by simp only [sky_Shift.l0]; rfl) ?_
        exact Ev.iteF (by simp) (Ev.now _)
      · have := shift_l0 l h1 h2 x y hc.1 hc.2 l.length 0 (by omega) [] rfl
        rw [List.drop_zero, List.nil_append, List.nil_append] at this
        exact this
    have hj : Ev (fun k => sky_Shift.j0 k l x y true) (([] : List S33), 16) := by
      refine Ev.step (fun k => by simp only [sky_Shift.j0]; rfl) ?_
      exact Ev.iteT (by simp) (Ev.now _)
    refine Ev.ite (fun c => Ev.ite (fun c1 => ?_) (fun c1 => ?_)) (fun c => hk (Or.inl (by omega)))
    · rw [decide_eq_true_eq] at c1
      rw [shift_far h2 (by omega) (Or.inl c1), if_neg (by simp)]
      exact hj
    · rw [decide_eq_true_eq] at c1
      by_cases c2 : 8 ≤ y ∨ y ≤ -8
      · rw [shift_far h2 (by omega) (Or.inr c2), if_neg (by simp), decide_eq_true c2]
        exact hj
      · rw [decide_eq_false c2]
        exact hk (Or.inr (by omega))
  · rw [if_neg h]; exact Ev.iteF h (Ev.now _)
theorem sm_shift (u v x y x' y' : Int) : ∀ l : List S33, sm u v (l.map (shL x y)) x' y' = sm u v l (x + x') (y + y')
  | [] => rfl
  | s :: l => by
    rw [List.map_cons, sm_cons, sm_cons, sm_shift u v x y x' y' l]
    simp only [shL, Int.add_assoc]
theorem visOf_shift (p : List S41) (l : List S33) (x y : Int) : visOf p (l.map (shL x y)) 0 0 = visOf p l x y := by
  unfold visOf visB
  simp only [sm_shift, Int.add_zero]
theorem shift_chk {l : List S33} {x y : Int} (h : chk l = 0) (h' : (l.map (shL x y)).all inL = true) : chk (l.map (shL x y)) = 0 := by
  obtain ⟨h1, h2⟩ := chk_ok h
  refine ok_chk (by rw [List.length_map]; exact h1) (fun s hs => ?_)
  have h3 := List.all_eq_true.1 h' s hs
  obtain ⟨t, ht, rfl⟩ := List.mem_map.1 hs
  have h4 := ok33 (h2 t ht)
  have h5 := inL_sh.1 h3
  exact lampOk_iff.2 ⟨h5.1.1, h5.1.2, h5.2.1, h5.2.2, h4.2.2.2.2.1, h4.2.2.2.2.2⟩
theorem shift_back (l : List S33) (x y : Int) : (l.map (shL x y)).map (shL (-x) (-y)) = l := by
  rw [List.map_map]
  have : (shL (-x) (-y)) ∘ (shL x y) = id := by
    funext s
    simp only [Function.comp, shL, id]
    congr 1 <;> omega
  rw [this, List.map_id]
theorem lamps_in {l : List S33} (h : chk l = 0) : l.all inL = true := by
  refine List.all_eq_true.2 (fun s hs => ?_)
  have h4 := ok33 ((chk_ok h).2 s hs)
  exact inL_iff.2 (by omega)

/-! ### the same -/
theorem same_l0 (m : List S33) (hm : m.length ≤ 100000) : ∀ d i : Nat, m.length = i + d → Ev (fun k => fringeref41_Same.l0 k m m i) true
  | 0, i, h => by
    refine Ev.step (fun k => by simp only [fringeref41_Same.l0]; rfl) ?_
    exact Ev.iteF (by omega) (Ev.now _)
  | d + 1, i, h => by
    refine Ev.step (fun k => by simp only [fringeref41_Same.l0]; rfl) ?_
    refine Ev.iteT (by omega) (Ev.iteT (by omega) (Ev.iteT (by omega) (Ev.iteF (by simp) ?_)))
    rw [wr1 i (by omega)]
    exact same_l0 m hm d (i + 1) (by omega)
theorem same_ev (m : List S33) (hm : m.length ≤ 100000) : Ev (fun k => fringeref41_Same.f k m m) true := by
  simp only [fringeref41_Same.f]
  exact Ev.iteT (by simp) (same_l0 m hm m.length 0 (by omega))
end Go.Proofs.Ytihmhcdcbcleeaa.Pure
