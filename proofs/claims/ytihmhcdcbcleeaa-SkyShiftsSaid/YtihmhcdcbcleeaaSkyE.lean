/- What checks and turns of exact complex numbers come to. -/
import Derived.Test.YtihmhcdcbcleeaaQ22
import Derived.Test.YtihmhcdcbcleeaaSkyB
namespace Go.Proofs.Ytihmhcdcbcleeaa.Pure
open Go.RowKit Go.Proofs.YtihmhcdcbcleeaaW.PrintWords Go.Proofs.YtihmhcdcbcleeaaW.PrintLast Go.Proofs.YtihmhcdcbcleeaaW.PrintMore Go.Proofs.Ytihmhcdcbcleeaa.Open Go.Proofs.Ytihmhcdcbcleeaa.Q Go.Proofs.Ytihmhcdcbcleeaa.Aid
/-! ### greatest common divisors, small fractions -/
theorem gcd_l1 (r : Int) (l : List Int) (n : Int) (i : Nat) (hi : i < 1000) : ∀ d : Nat, ∀ x3 x5 : Int, x5.natAbs ≤ d →
    (∀ g : Int, g.natAbs = Nat.gcd x3.natAbs x5.natAbs → Ev (fun k => cx_gcd.l0 k g l n ((i + 1 : Nat) : Int)) r) → Ev (fun k => cx_gcd.l1 k x3 x5 l n i) r
  | 0, x3, x5, h, hk => by
    refine Ev.step (fun k => by simp only [cx_gcd.l1]; rfl) ?_
    have h0 : x5 = 0 := by omega
    refine Ev.iteT h0 ?_
    rw [wr1 i (by omega)]
    refine hk x3 ?_
    rw [h0]
    simp
  | d + 1, x3, x5, h, hk => by
    refine Ev.step (fun k => by simp only [cx_gcd.l1]; rfl) ?_
    refine Ev.ite (fun h0 => ?_) (fun h0 => ?_)
    · rw [wr1 i (by omega)]
      refine hk x3 ?_
      rw [h0]
      simp
    · have e : (Int.tmod x3 x5).natAbs = x3.natAbs % x5.natAbs := Int.natAbs_tmod x3 x5
      have hlt : x3.natAbs % x5.natAbs < x5.natAbs := Nat.mod_lt _ (by omega)
      refine gcd_l1 r l n i hi d x5 (Int.tmod x3 x5) (by omega) (fun g hg => hk g ?_)
      rw [hg, e, Nat.gcd_comm x5.natAbs, ← Nat.gcd_rec, Nat.gcd_comm]
theorem gcd_l0 (l : List Int) (hl : l.length ≤ 100) (hb : ∀ x ∈ l, x.natAbs ≤ 9223372036854775807) : ∀ d i : Nat, l.length = i + d → ∀ x3 : Int, x3.natAbs ≤ 9223372036854775807 →
    Ev (fun k => cx_gcd.l0 k x3 l l.length i) (((l.drop i).foldl (fun g a => Nat.gcd g a.natAbs) x3.natAbs : Nat) : Int)
  | 0, i, h, x3, hx => by
    refine Ev.step (fun k => by simp only [cx_gcd.l0]; rfl) ?_
    refine Ev.iteF (by omega) ?_
    rw [List.drop_eq_nil_of_le (by omega)]
    refine Ev.some_of ?_
    rw [List.foldl_nil, wr (by omega) (by omega)]
    unfold mx
    split <;> omega
  | d + 1, i, h, x3, hx => by
    refine Ev.step (fun k => by simp only [cx_gcd.l0]; rfl) ?_
    refine Ev.iteT (by omega) (Ev.iteT (by omega) (Ev.iteT (by omega) ?_))
    have e : rd l (i : Int) = l.getD i 0 := rfl
    have hm := hb _ (mem_getD l 0 i (by omega))
    rw [drop_get l 0 i (by omega), List.foldl_cons, e]
    generalize l.getD i 0 = a at hm
    refine gcd_l1 _ l l.length i (by omega) a.natAbs x3 a (Nat.le_refl _) (fun g hg => ?_)
    have hle : g.natAbs ≤ 9223372036854775807 := by
      rw [hg]
      by_cases h0 : x3.natAbs = 0
      · rw [h0, Nat.gcd_zero_left]; exact hm
      · exact Nat.le_trans (Nat.gcd_le_left _ (by omega)) hx
    rw [← hg]
    exact gcd_l0 l hl hb d (i + 1) (by omega) g hle
theorem gcd3_ev {a b c : Int} (ha : a.natAbs ≤ 9223372036854775807) (hb : b.natAbs ≤ 9223372036854775807) (hc : c.natAbs ≤ 9223372036854775807) : Ev (fun k => cx_gcd.f k [a, b, c]) ((Nat.gcd (Nat.gcd a.natAbs b.natAbs) c.natAbs : Nat) : Int) := by
  simp only [cx_gcd.f]
  have := gcd_l0 [a, b, c] (by simp) (by intro x hx; simp at hx; rcases hx with rfl | rfl | rfl <;> assumption) 3 0 (by simp) 0 (by simp)
  simpa using this
def cxOk (a b c : Int) : Bool := decide (1 ≤ c ∧ c ≤ 1000000000 ∧ -1000000000 ≤ a ∧ a ≤ 1000000000 ∧ -1000000000 ≤ b ∧ b ≤ 1000000000 ∧ Nat.gcd (Nat.gcd a.natAbs b.natAbs) c.natAbs = 1)
theorem Check1_eq (x : Int) : cx_Check_1.f x = some (decide (-1000000000 ≤ x ∧ x ≤ 1000000000)) := by
  unfold cx_Check_1.f
  by_cases h : x ≥ -1000000000
  · rw [if_pos h]; congr 1; rw [decide_eq_decide]; omega
  · rw [if_neg h]; congr 1; symm; rw [decide_eq_false_iff_not]; omega
theorem cxCheck_ev (a b c : Int) : Ev (fun k => cx_Check.f k a b c) (if cxOk a b c then 0 else 8) := by
  simp only [cx_Check.f, Check1_eq, Option.bind_some]
  by_cases h : cxOk a b c = true
  · rw [if_pos h]
    simp only [cxOk, decide_eq_true_eq] at h
    obtain ⟨h1, h2, h3, h4, h5, h6, h7⟩ := h
    refine Ev.iteF (by omega) (Ev.iteT (by simp; omega) (Ev.iteT (by simp; omega) (Ev.iteT (by simp; omega) (Ev.bind (gcd3_ev (by omega) (by omega) (by omega)) ?_))))
    rw [h7]
    exact Ev.iteT (by simp) (Ev.now _)
  · rw [if_neg h]
    simp only [cxOk, decide_eq_true_eq] at h
    refine Ev.ite (fun _ => Ev.now _) (fun c1 => Ev.ite (fun c2 => Ev.ite (fun c3 => Ev.ite (fun c4 => ?_) (fun _ => Ev.now _)) (fun _ => Ev.now _)) (fun _ => Ev.now _))
    simp only [decide_eq_true_eq] at c2 c3 c4
    refine Ev.bind (gcd3_ev (by omega) (by omega) (by omega)) (Ev.iteF (fun h7 => h ?_) (Ev.now _))
    exact ⟨by omega, by omega, by omega, by omega, by omega, by omega, by omega⟩
theorem cxOk_one {a b : Int} (ha : -1000000000 ≤ a ∧ a ≤ 1000000000) (hb : -1000000000 ≤ b ∧ b ≤ 1000000000) : cxOk a b 1 = true := by
  simp only [cxOk, decide_eq_true_eq]
  exact ⟨by omega, by omega, by omega, by omega, by omega, by omega, by simp⟩
theorem cxTurn_ev {a b c : Int} (q : Int) (h : cxOk a b c = true) : Ev (fun k => cx_Turn.f k a b c q) ((rot q (a, b)).1, (rot q (a, b)).2, c, 0) := by
  simp only [cx_Turn.f, and3]
  refine Ev.bind (cxCheck_ev a b c) ?_
  rw [if_pos h]
  simp only [cxOk, decide_eq_true_eq] at h
  refine Ev.iteT (by simp) ?_
  rw [wr (x := -a) (by omega) (by omega), wr (x := -b) (by omega) (by omega)]
  unfold rot
  refine Ev.ite (fun h1 => Ev.some_of (by simp only [if_pos h1])) (fun h1 => ?_)
  refine Ev.ite (fun h2 => Ev.some_of (by simp only [if_neg h1, if_pos h2])) (fun h2 => ?_)
  exact Ev.ite (fun h3 => Ev.some_of (by simp only [if_neg h1, if_neg h2, if_pos h3])) (fun h3 => Ev.some_of (by simp only [if_neg h1, if_neg h2, if_neg h3]))
theorem tmod4 (q : Int) : Int.tmod (wrap64 ((Int.tmod q 4) + 4)) 4 = q % 4 := by
  rcases Int.lt_or_le q 0 with hq | hq
  · have h1 : Int.tmod q 4 = -((-q) % 4) := by
      rw [← Int.tmod_eq_emod_of_nonneg (by omega), Int.neg_tmod, Int.neg_neg]
    rw [h1, wr (by omega) (by omega), Int.tmod_eq_emod_of_nonneg (by omega)]
    omega
  · rw [Int.tmod_eq_emod_of_nonneg hq, wr (by omega) (by omega), Int.tmod_eq_emod_of_nonneg (by omega)]
    omega
end Go.Proofs.Ytihmhcdcbcleeaa.Pure
