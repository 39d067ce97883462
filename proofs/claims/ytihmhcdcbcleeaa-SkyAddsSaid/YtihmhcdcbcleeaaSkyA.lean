/- What the functions of the sky, and those of its reference, come to: checks, visibilities, images. -/
import Derived.Test.YtihmhcdcbcleeaaQ12
import Derived.Test.YtihmhcdcbcleeaaQ17
import Derived.Test.YtihmhcdcbcleeaaQT
import Derived.Test.YtihmhcdcbcleeaaAid
namespace Go.Proofs.Ytihmhcdcbcleeaa.Pure
open Go.RowKit Go.Proofs.YtihmhcdcbcleeaaW.PrintWords Go.Proofs.YtihmhcdcbcleeaaW.PrintLast Go.Proofs.YtihmhcdcbcleeaaW.PrintMore Go.Proofs.Ytihmhcdcbcleeaa.Open Go.Proofs.Ytihmhcdcbcleeaa.Q Go.Proofs.Ytihmhcdcbcleeaa.Aid

/-! ### checks -/
def lampOk (s : S33) : Bool := decide (0 ≤ s.f0 ∧ s.f0 < 8 ∧ 0 ≤ s.f1 ∧ s.f1 < 8 ∧ 0 ≤ s.f2 ∧ s.f2 ≤ 1000)
def placeOk (s : S41) : Bool := decide (-100 ≤ s.f0 ∧ s.f0 ≤ 100 ∧ -100 ≤ s.f1 ∧ s.f1 ≤ 100)
def chk (l : List S33) : Int := if l.length > 16 then 4 else if l.all lampOk then 0 else 8
def plc (p : List S41) : Int := if p.length > 8 then 4 else if p.length < 2 then 8 else if p.all placeOk then 0 else 8
def bth (p : List S41) (l : List S33) : Int := if plc p = 0 then chk l else plc p
theorem cell_eq (x : Int) : sky_cell.f x = some (decide (0 ≤ x ∧ x < 8)) := by
  unfold sky_cell.f
  by_cases h : x ≥ 0
  · rw [if_pos h]; congr 1; simp; omega
  · rw [if_neg h]; congr 1; simp; omega
theorem in_eq (a b c : Int) : fringeref41_in.f a b c = some (decide (b ≤ a ∧ a ≤ c)) := by
  unfold fringeref41_in.f
  by_cases h : a ≥ b
  · rw [if_pos h]; congr 1; simp; omega
  · rw [if_neg h]; congr 1; simp; omega
theorem sky_Check_l0 (l : List S33) (hl : l.length ≤ 16) : ∀ d i : Nat, l.length = i + d → Ev (fun k => sky_Check.l0 k l l.length i) (if (l.drop i).all lampOk then 0 else 8)
  | 0, i, h => by
    refine Ev.step (fun k => by simp only [sky_Check.l0]; rfl) ?_
    refine Ev.iteF (by omega) ?_
    rw [List.drop_eq_nil_of_le (by omega)]
    exact Ev.now _
  | d + 1, i, h => by
    have ih := sky_Check_l0 l hl d (i + 1) (by omega)
    refine Ev.step (fun k => by simp only [sky_Check.l0]; rfl) ?_
    refine Ev.iteT (by omega) (Ev.iteT (by omega) (Ev.iteT (by omega) ?_))
    simp only [cell_eq, Option.bind_some, wr1 i (by omega)]
    rw [drop_get l z33 i (by omega), List.all_cons]
    have e : rd_T33 l (i : Int) = l.getD i z33 := rfl
    rw [e]
    generalize l.getD i z33 = s
    by_cases hs : lampOk s = true
    · simp only [lampOk, decide_eq_true_eq] at hs
      refine Ev.iteT (by simp; omega) (Ev.iteT (by simp; omega) (Ev.iteF (by omega) (Ev.iteF (by omega) ?_)))
      simp only [lampOk, decide_eq_true hs, Bool.true_and]
      exact ih
    · rw [Bool.eq_false_iff.mpr hs, Bool.false_and]
      simp only [lampOk, decide_eq_true_eq] at hs
      refine Ev.ite (fun h1 => Ev.ite (fun h2 => Ev.ite (fun h3 => Ev.now _) (fun h3 => Ev.ite (fun h4 => Ev.now _) (fun h4 => ?_))) (fun _ => Ev.now _)) (fun _ => Ev.now _)
      simp at h1 h2
      omega
theorem sky_Check_ev (l : List S33) : Ev (fun k => sky_Check.f k l) (chk l) := by
  unfold chk
  simp only [sky_Check.f]
  by_cases h : l.length > 16
  · rw [if_pos h]; exact Ev.iteT (by omega) (Ev.now _)
  · rw [if_neg h]; exact Ev.iteF (by omega) (sky_Check_l0 l (by omega) l.length 0 (by omega))
theorem ref_Check_l0 (l : List S33) (hl : l.length ≤ 16) : ∀ d i : Nat, l.length = i + d → Ev (fun k => fringeref41_Check.l0 k l i) (if (l.drop i).all lampOk then 0 else 8)
  | 0, i, h => by
    refine Ev.step (fun k => by simp only [fringeref41_Check.l0]; rfl) ?_
    refine Ev.iteF (by omega) ?_
    rw [List.drop_eq_nil_of_le (by omega)]
    exact Ev.now _
  | d + 1, i, h => by
    have ih := ref_Check_l0 l hl d (i + 1) (by omega)
    refine Ev.step (fun k => by simp only [fringeref41_Check.l0]; rfl) ?_
    refine Ev.iteT (by omega) (Ev.iteT (by omega) ?_)
    simp only [in_eq, Option.bind_some, wr1 i (by omega)]
    rw [drop_get l z33 i (by omega), List.all_cons]
    have e : rd_T33 l (i : Int) = l.getD i z33 := rfl
    rw [e]
    generalize l.getD i z33 = s
    by_cases hs : lampOk s = true
    · simp only [lampOk, decide_eq_true_eq] at hs
      refine Ev.iteT (by simp; omega) (Ev.iteT (by simp; omega) (Ev.iteT (by simp; omega) ?_))
      simp only [lampOk, decide_eq_true hs, Bool.true_and]
      exact ih
    · rw [Bool.eq_false_iff.mpr hs, Bool.false_and]
      simp only [lampOk, decide_eq_true_eq] at hs
      refine Ev.ite (fun h1 => Ev.ite (fun h2 => Ev.ite (fun h3 => ?_) (fun _ => Ev.now _)) (fun _ => Ev.now _)) (fun _ => Ev.now _)
      simp at h1 h2 h3
      omega
theorem ref_Check_ev (l : List S33) : Ev (fun k => fringeref41_Check.f k l) (chk l) := by
  unfold chk
  simp only [fringeref41_Check.f]
  by_cases h : l.length > 16
  · rw [if_pos h]; exact Ev.iteT (by omega) (Ev.now _)
  · rw [if_neg h]; exact Ev.iteF (by omega) (ref_Check_l0 l (by omega) l.length 0 (by omega))

def R2 (s : S41) : Prop := (-9223372036854775808 ≤ s.f0 ∧ s.f0 ≤ 9223372036854775807) ∧ (-9223372036854775808 ≤ s.f1 ∧ s.f1 ≤ 9223372036854775807)
theorem good_x {x : Int} (h : -100 ≤ x ∧ x ≤ 100) : ¬ (mx x (wrap64 (-x)) > 100) ∧ (x = wrap64 (-x) → x = 0) := by
  unfold mx wrap64
  split <;> omega
theorem bad_x {x : Int} (h : -9223372036854775808 ≤ x ∧ x ≤ 9223372036854775807) (h' : ¬ (-100 ≤ x ∧ x ≤ 100)) : mx x (wrap64 (-x)) > 100 ∨ (x = wrap64 (-x) ∧ x ≠ 0) := by
  unfold mx wrap64
  split <;> omega
theorem sky_Places_l0 (p : List S41) (hl : p.length ≤ 8) (hp : ∀ s ∈ p, R2 s) : ∀ d i : Nat, p.length = i + d → Ev (fun k => sky_Places.l0 k p p p.length i) (if (p.drop i).all placeOk then (if p.length < 2 then 8 else 0) else 8)
  | 0, i, h => by
    refine Ev.step (fun k => by simp only [sky_Places.l0]; rfl) ?_
    refine Ev.iteF (by omega) ?_
    rw [List.drop_eq_nil_of_le (by omega)]
    by_cases h2 : p.length < 2
    · simp only [h2]; exact Ev.iteT (by omega) (Ev.now _)
    · simp only [h2]; exact Ev.iteF (by omega) (Ev.now _)
  | d + 1, i, h => by
    have ih := sky_Places_l0 p hl hp d (i + 1) (by omega)
    refine Ev.step (fun k => by simp only [sky_Places.l0]; rfl) ?_
    refine Ev.iteT (by omega) (Ev.iteT (by omega) (Ev.iteT (by omega) ?_))
    simp only [wr1 i (by omega)]
    rw [drop_get p z41 i (by omega), List.all_cons]
    have e : rd_T41 p (i : Int) = p.getD i z41 := rfl
    rw [e]
    have hr := hp _ (mem_getD p z41 i (by omega))
    generalize p.getD i z41 = s at hr
    by_cases hs : placeOk s = true
    · rw [hs, Bool.true_and]
      simp only [placeOk, decide_eq_true_eq] at hs
      have g0 := good_x (x := s.f0) (by omega)
      have g1 := good_x (x := s.f1) (by omega)
      refine Ev.ite (fun h1 => ?_) (fun h1 => Ev.ite (fun h2 => ?_) (fun h2 => Ev.ite (fun h3 => Ev.ite (fun h4 => Ev.ite (fun h5 => Ev.ite (fun h6 => ?_) (fun h6 => ?_)) (fun h5 => ?_)) (fun h4 => ?_)) (fun h3 => Ev.ite (fun h5 => Ev.ite (fun h6 => ?_) (fun h6 => ?_)) (fun h5 => ?_))))
      all_goals first | exact ih | (exfalso; omega)
    · rw [Bool.eq_false_iff.mpr hs, Bool.false_and]
      simp only [placeOk, decide_eq_true_eq] at hs
      have g : mx s.f0 (wrap64 (-s.f0)) > 100 ∨ (s.f0 = wrap64 (-s.f0) ∧ s.f0 ≠ 0) ∨ mx s.f1 (wrap64 (-s.f1)) > 100 ∨ (s.f1 = wrap64 (-s.f1) ∧ s.f1 ≠ 0) := by
        by_cases h0 : -100 ≤ s.f0 ∧ s.f0 ≤ 100
        · have := bad_x hr.2 (by omega); omega
        · have := bad_x hr.1 h0; omega
      refine Ev.ite (fun h1 => ?_) (fun h1 => Ev.ite (fun h2 => ?_) (fun h2 => Ev.ite (fun h3 => Ev.ite (fun h4 => Ev.ite (fun h5 => Ev.ite (fun h6 => ?_) (fun h6 => ?_)) (fun h5 => ?_)) (fun h4 => ?_)) (fun h3 => Ev.ite (fun h5 => Ev.ite (fun h6 => ?_) (fun h6 => ?_)) (fun h5 => ?_))))
      all_goals first | exact Ev.now _ | (exfalso; omega)
theorem sky_Places_ev (p : List S41) (hp : ∀ s ∈ p, R2 s) : Ev (fun k => sky_Places.f k p) (plc p) := by
  unfold plc
  simp only [sky_Places.f]
  by_cases h : p.length > 8
  · rw [if_pos h]; exact Ev.iteT (by omega) (Ev.now _)
  · rw [if_neg h]
    refine Ev.iteF (by omega) ?_
    have := sky_Places_l0 p (by omega) hp p.length 0 (by omega)
    rw [List.drop_zero] at this
    have e : (if p.all placeOk then (if p.length < 2 then (8 : Int) else 0) else 8) = (if p.length < 2 then 8 else if p.all placeOk then 0 else 8) := by split <;> split <;> rfl
    rwa [e] at this
theorem ref_Places_l0 (p : List S41) (hl : p.length ≤ 8) : ∀ d i : Nat, p.length = i + d → Ev (fun k => fringeref41_Places.l0 k p i) (if (p.drop i).all placeOk then 0 else 8)
  | 0, i, h => by
    refine Ev.step (fun k => by simp only [fringeref41_Places.l0]; rfl) ?_
    refine Ev.iteF (by omega) ?_
    rw [List.drop_eq_nil_of_le (by omega)]
    exact Ev.now _
  | d + 1, i, h => by
    have ih := ref_Places_l0 p hl d (i + 1) (by omega)
    refine Ev.step (fun k => by simp only [fringeref41_Places.l0]; rfl) ?_
    refine Ev.iteT (by omega) (Ev.iteT (by omega) ?_)
    simp only [in_eq, Option.bind_some, wr1 i (by omega)]
    rw [drop_get p z41 i (by omega), List.all_cons]
    have e : rd_T41 p (i : Int) = p.getD i z41 := rfl
    rw [e]
    generalize p.getD i z41 = s
    by_cases hs : placeOk s = true
    · rw [hs, Bool.true_and]
      simp only [placeOk, decide_eq_true_eq] at hs
      exact Ev.iteT (by simp; omega) (Ev.iteT (by simp; omega) ih)
    · rw [Bool.eq_false_iff.mpr hs, Bool.false_and]
      simp only [placeOk, decide_eq_true_eq] at hs
      refine Ev.ite (fun h1 => Ev.ite (fun h2 => ?_) (fun _ => Ev.now _)) (fun _ => Ev.now _)
      simp at h1 h2
      omega
theorem ref_Places_ev (p : List S41) : Ev (fun k => fringeref41_Places.f k p) (plc p) := by
  unfold plc
  simp only [fringeref41_Places.f]
  by_cases h : p.length > 8
  · rw [if_pos h]; exact Ev.iteT (by omega) (Ev.now _)
  · rw [if_neg h]
    refine Ev.iteF (by omega) ?_
    by_cases h2 : p.length < 2
    · rw [if_pos h2]; exact Ev.iteT (by omega) (Ev.now _)
    · rw [if_neg h2]; exact Ev.iteF (by omega) (ref_Places_l0 p (by omega) p.length 0 (by omega))
theorem sky_both_ev (p : List S41) (l : List S33) (hp : ∀ s ∈ p, R2 s) : Ev (fun k => sky_both.f k p l) (bth p l) := by
  unfold bth
  simp only [sky_both.f]
  refine Ev.bind (sky_Places_ev p hp) ?_
  by_cases h : plc p = 0
  · rw [if_pos h]; exact Ev.iteT h (Ev.bind (sky_Check_ev l) (Ev.now _))
  · rw [if_neg h]; exact Ev.iteF h (Ev.now _)
theorem ref_Both_ev (p : List S41) (l : List S33) : Ev (fun k => fringeref41_Both.f k p l) (bth p l) := by
  unfold bth
  simp only [fringeref41_Both.f]
  refine Ev.bind (ref_Places_ev p) ?_
  by_cases h : plc p = 0
  · rw [if_pos h]; exact Ev.iteT h (Ev.bind (ref_Check_ev l) (Ev.now _))
  · rw [if_neg h]; exact Ev.iteF h (Ev.now _)
theorem bth_ok {p : List S41} {l : List S33} (h : bth p l = 0) : p.length ≤ 8 ∧ 2 ≤ p.length ∧ (∀ s ∈ p, placeOk s = true) ∧ l.length ≤ 16 ∧ ∀ s ∈ l, lampOk s = true := by
  unfold bth plc chk at h
  by_cases h1 : p.length > 8
  · simp [h1] at h
  by_cases h2 : p.length < 2
  · simp [h1, h2] at h
  by_cases h3 : p.all placeOk = true
  · by_cases h4 : l.length > 16
    · simp [h1, h2, h3, h4] at h
    by_cases h5 : l.all lampOk = true
    · exact ⟨by omega, by omega, List.all_eq_true.1 h3, by omega, List.all_eq_true.1 h5⟩
    · simp [h1, h2, h3, h4, h5] at h
  · simp [h1, h2, h3] at h
theorem ok_bth {p : List S41} {l : List S33} (h : p.length ≤ 8 ∧ 2 ≤ p.length ∧ (∀ s ∈ p, placeOk s = true) ∧ l.length ≤ 16 ∧ ∀ s ∈ l, lampOk s = true) : bth p l = 0 := by
  obtain ⟨h1, h2, h3, h4, h5⟩ := h
  have e : plc p = 0 := by
    unfold plc
    rw [if_neg (show ¬ p.length > 8 by omega), if_neg (show ¬ p.length < 2 by omega), if_pos (List.all_eq_true.2 h3)]
  unfold bth chk
  rw [if_pos e, if_neg (show ¬ l.length > 16 by omega), if_pos (List.all_eq_true.2 h5)]
end Go.Proofs.Ytihmhcdcbcleeaa.Pure
