/- Tables of gains on the plain side: products, norms, tables that act alike. -/
import Derived.Test.YtnlaklkneaaakaaGainA
import Derived.Test.YtnlaklkneaaakaaQ18
import Derived.Test.YtnlaklkneaaakaaQ22
import Derived.Test.YtnlaklkneaaakaaQ19
import Derived.Test.YtnlaklkneaaakaaQ21
namespace Go.Proofs.Ytnlaklkneaaakaa.Pure
open Go.RowKit Go.Proofs.YtnlaklkneaaakaaW.PrintWords Go.Proofs.YtnlaklkneaaakaaW.PrintLast Go.Proofs.YtnlaklkneaaakaaW.PrintMore Go.Proofs.Ytnlaklkneaaakaa.Open Go.Proofs.Ytnlaklkneaaakaa.Q Go.Proofs.Ytnlaklkneaaakaa.Aid
theorem gc_dvd1 (a b c : Int) : ((gc a b c : Nat) : Int) ∣ a := Int.ofNat_dvd_left.2 (Nat.dvd_trans (Nat.gcd_dvd_left _ _) (Nat.gcd_dvd_left _ _))
theorem gc_dvd2 (a b c : Int) : ((gc a b c : Nat) : Int) ∣ b := Int.ofNat_dvd_left.2 (Nat.dvd_trans (Nat.gcd_dvd_left _ _) (Nat.gcd_dvd_right _ _))
theorem gc_dvd3 (a b c : Int) : ((gc a b c : Nat) : Int) ∣ c := Int.ofNat_dvd_left.2 (Nat.gcd_dvd_right _ _)
theorem red_ok {a b c x y z : Int} (h : redS a b c = (x, y, z, 0)) : cxOk x y z = true ∧ a * z = x * c ∧ b * z = y * c := by
  unfold redS at h
  by_cases h0 : cxOk (Int.tdiv a (gc a b c)) (Int.tdiv b (gc a b c)) (Int.tdiv c (gc a b c)) = true
  · rw [if_pos h0] at h
    simp only [Prod.mk.injEq, and_true] at h
    obtain ⟨rfl, rfl, rfl⟩ := h
    have e1 := Int.mul_tdiv_cancel' (gc_dvd1 a b c)
    have e2 := Int.mul_tdiv_cancel' (gc_dvd2 a b c)
    have e3 := Int.mul_tdiv_cancel' (gc_dvd3 a b c)
    generalize Int.tdiv a (gc a b c) = x at *
    generalize Int.tdiv b (gc a b c) = y at *
    generalize Int.tdiv c (gc a b c) = z at *
    generalize ((gc a b c : Nat) : Int) = g at *
    refine ⟨h0, ?_, ?_⟩
    · rw [← e1, ← e3]; grind
    · rw [← e2, ← e3]; grind
  · rw [if_neg h0] at h
    simp at h
theorem mul_ok {a b c a' b' c' x y z : Int} (h : mulS a b c a' b' c' = (x, y, z, 0)) : cxOk a b c = true ∧ cxOk a' b' c' = true ∧ cxOk x y z = true ∧ (a * a' - b * b') * z = x * (c * c') ∧ (a * b' + b * a') * z = y * (c * c') := by
  unfold mulS at h
  by_cases h0 : cxOk a b c = true ∧ cxOk a' b' c' = true
  · rw [if_pos h0] at h
    exact ⟨h0.1, h0.2, red_ok h⟩
  · rw [if_neg h0] at h
    simp at h
theorem den_dvd {a b c a' b' c' : Int} (h : cxOk a b c = true) (h1 : a * c' = a' * c) (h2 : b * c' = b' * c) : c.natAbs ∣ c'.natAbs := by
  have hg := (cxOk_iff.1 h).2.2.2.2.2.2
  have d1 : c.natAbs ∣ a.natAbs * c'.natAbs := ⟨a'.natAbs, by rw [← Int.natAbs_mul, h1, Int.natAbs_mul, Nat.mul_comm]⟩
  have d2 : c.natAbs ∣ b.natAbs * c'.natAbs := ⟨b'.natAbs, by rw [← Int.natAbs_mul, h2, Int.natAbs_mul, Nat.mul_comm]⟩
  have d3 : c.natAbs ∣ Nat.gcd a.natAbs b.natAbs * c'.natAbs := by rw [← Nat.gcd_mul_right]; exact Nat.dvd_gcd d1 d2
  exact (Nat.Coprime.symm (show Nat.Coprime (Nat.gcd a.natAbs b.natAbs) c.natAbs from hg)).dvd_of_dvd_mul_left d3
theorem ok_uniq {a b c a' b' c' : Int} (h : cxOk a b c = true) (h' : cxOk a' b' c' = true) (h1 : a * c' = a' * c) (h2 : b * c' = b' * c) : a = a' ∧ b = b' ∧ c = c' := by
  have d := Nat.dvd_antisymm (den_dvd h h1 h2) (den_dvd h' h1.symm h2.symm)
  have p := (cxOk_iff.1 h).1
  have p' := (cxOk_iff.1 h').1
  have e : c = c' := by omega
  subst e
  have hc : c ≠ 0 := by omega
  exact ⟨Int.eq_of_mul_eq_mul_right hc h1, Int.eq_of_mul_eq_mul_right hc h2, rfl⟩
/-- What a table makes of a visibility. -/
theorem two_ok {a b c x y z d e f r1 r2 r3 p1 p2 p3 : Int} (h1 : mulS a b c x y z = (r1, r2, r3, 0)) (h2 : mulS r1 r2 r3 d (-e) f = (p1, p2, p3, 0)) :
    cxOk p1 p2 p3 = true ∧ ((a * x - b * y) * d + (a * y + b * x) * e) * p3 = p1 * (c * z * f) ∧ ((a * y + b * x) * d - (a * x - b * y) * e) * p3 = p2 * (c * z * f) := by
  obtain ⟨_, _, k3, e1, e2⟩ := mul_ok h1
  obtain ⟨_, _, k4, e3, e4⟩ := mul_ok h2
  have hr : r3 ≠ 0 := by have := (cxOk_iff.1 k3).1; omega
  refine ⟨k4, Int.eq_of_mul_eq_mul_right hr ?_, Int.eq_of_mul_eq_mul_right hr ?_⟩
  · grind
  · grind
/-! ### lists made element by element -/
def goC (one : Nat → S36 → S36 × Int) : List S36 → Nat → List S36 → List S36 × Int
  | [], _, acc => (acc, 0)
  | x :: t, i, acc => if (one i x).2 = 0 then goC one t (i + 1) (acc ++ [(one i x).1]) else ([], 16)
theorem goC_ev {p : Nat → Nat → S36 → Option (S36 × Int)} {one : Nat → S36 → S36 × Int} {N : Nat} (h : ∀ i x, i < N → Ev (fun k => p k i x) (one i x)) : ∀ (t : List S36) (i : Nat) (acc : List S36), i + t.length ≤ N → acc.length + t.length ≤ 1000 → Ev (fun k => madeCx.go (p k) t i acc) (goC one t i acc)
  | [], i, acc, _, _ => by
    simp only [madeCx.go]
    exact Ev.now _
  | x :: t, i, acc, hN, ha => by
    simp only [madeCx.go]
    rw [List.length_cons] at hN ha
    refine Ev.bind (h i x (by omega)) ?_
    rw [goC]
    by_cases c : (one i x).2 = 0
    · rw [if_pos c]
      refine Ev.iteT c (Ev.iteT (by omega) (goC_ev h t (i + 1) _ (by omega) ?_))
      rw [List.length_append, List.length_singleton]
      omega
    · rw [if_neg c]
      exact Ev.iteF c (Ev.now _)
theorem goC_err (one : Nat → S36 → S36 × Int) : ∀ (t : List S36) (i : Nat) (acc : List S36), (goC one t i acc).2 = 0 ∨ (goC one t i acc).2 = 16
  | [], _, _ => Or.inl rfl
  | x :: t, i, acc => by
    rw [goC]
    split
    · exact goC_err one t _ _
    · exact Or.inr rfl
theorem goC_len (one : Nat → S36 → S36 × Int) : ∀ (t : List S36) (i : Nat) (acc : List S36), (goC one t i acc).1.length ≤ acc.length + t.length
  | [], _, _ => by simp [goC]
  | x :: t, i, acc => by
    rw [goC]
    split
    · have := goC_len one t (i + 1) (acc ++ [(one i x).1])
      rw [List.length_append, List.length_singleton] at this
      rw [List.length_cons]
      omega
    · simp
theorem getD_app {α : Type} (l m : List α) (z : α) (j : Nat) : (l ++ m).getD j z = if j < l.length then l.getD j z else m.getD (j - l.length) z := by
  rw [List.getD_eq_getElem?_getD, List.getElem?_append]
  split <;> rw [List.getD_eq_getElem?_getD]
theorem goC_ok (one : Nat → S36 → S36 × Int) : ∀ (t : List S36) (i : Nat) (acc r : List S36), goC one t i acc = (r, 0) → r.length = acc.length + t.length ∧ (∀ j, j < acc.length → r.getD j z36 = acc.getD j z36) ∧ ∀ j, j < t.length → one (i + j) (t.getD j z36) = (r.getD (acc.length + j) z36, 0)
  | [], i, acc, r, h => by
    simp only [goC, Prod.mk.injEq, and_true] at h
    subst h
    exact ⟨by simp, fun j _ => rfl, fun j hj => by simp at hj⟩
  | x :: t, i, acc, r, h => by
    rw [goC] at h
    by_cases c : (one i x).2 = 0
    · rw [if_pos c] at h
      obtain ⟨h1, h2, h3⟩ := goC_ok one t (i + 1) _ r h
      rw [List.length_append, List.length_singleton] at h1 h2 h3
      refine ⟨by rw [List.length_cons]; omega, fun j hj => ?_, fun j hj => ?_⟩
      · rw [h2 j (by omega), getD_app, if_pos hj]
      · cases j with
        | zero =>
          have := h2 acc.length (by omega)
          rw [getD_app, if_neg (by omega), Nat.sub_self] at this
          rw [Nat.add_zero, Nat.add_zero, this]
          show one i x = ((one i x).1, 0)
          rw [← c]
        | succ j =>
          rw [List.length_cons] at hj
          have := h3 j (by omega)
          rw [show i + (j + 1) = i + 1 + j by omega, show acc.length + (j + 1) = acc.length + 1 + j by omega]
          exact this
    · rw [if_neg c] at h
      simp at h
def mulT (x y : S36) : S36 × Int := (⟨(mulS x.f0 x.f1 x.f2 y.f0 y.f1 y.f2).1, (mulS x.f0 x.f1 x.f2 y.f0 y.f1 y.f2).2.1, (mulS x.f0 x.f1 x.f2 y.f0 y.f1 y.f2).2.2.1⟩, (mulS x.f0 x.f1 x.f2 y.f0 y.f1 y.f2).2.2.2)
theorem mulT_ok {x y z : S36} (h : mulT x y = (z, 0)) : mulS x.f0 x.f1 x.f2 y.f0 y.f1 y.f2 = (z.f0, z.f1, z.f2, 0) := by
  unfold mulT at h
  simp only [Prod.mk.injEq] at h
  obtain ⟨rfl, h⟩ := h
  rw [← h]
theorem mul_one_ev (h : List S36) (i : Nat) (x : S36) (hi : i < h.length) : Ev (fun k => mul_one k h i x) (mulT x (rd_T36 h i)) := by
  simp only [mul_one]
  exact Ev.iteT hi (Ev.bind (cxMul_ev _ _ _ _ _ _) (Ev.now _))
theorem alike_1_ev (h : List S36) (x : S36) (hi : 0 < h.length) : Ev (fun k => alike_1 k h x) (mulT x (rd_T36 h 0)) := by
  simp only [alike_1]
  exact Ev.iteT hi (Ev.bind (cxMul_ev _ _ _ _ _ _) (Ev.now _))
theorem alike_2_ev (h : List S36) (x : S36) (hi : 0 < h.length) : Ev (fun k => alike_2 k h x) (mulT (rd_T36 h 0) x) := by
  simp only [alike_2]
  exact Ev.iteT hi (Ev.bind (cxMul_ev _ _ _ _ _ _) (Ev.now _))
/-! ### two tables -/
def gBoth (g h : List S36) : Int := if gChk g = 0 then (if gChk h = 0 then (if g.length = h.length then 0 else 2) else gChk h) else gChk g
theorem gain_both_ev (g h : List S36) : Ev (fun k => gain_both.f k g h) (gBoth g h) := by
  simp only [gain_both.f]
  refine Ev.bind (gain_Check_ev g) (Ev.bind (gain_Check_ev h) (Ev.bind (or2_ev _ _) ?_))
  unfold gBoth
  by_cases c : gChk g = 0
  · by_cases c2 : gChk h = 0
    · simp only [if_pos c, if_pos c2]
      refine Ev.ite (fun c3 => ?_) (fun c3 => ?_)
      · rw [if_pos (by omega)]; exact Ev.now _
      · rw [if_neg (by omega)]; exact Ev.now _
    · simp only [if_pos c, if_neg c2]; exact Ev.now _
  · simp only [if_neg c]; exact Ev.now _
theorem ref_Both_ev (g h : List S36) : Ev (fun k => fringeref26_Both.f k g h) (gBoth g h) := by
  simp only [fringeref26_Both.f]
  refine Ev.bind (rgChk_ev g) ?_
  unfold gBoth
  by_cases c : gChk g = 0
  · rw [if_pos c]
    refine Ev.iteT c (Ev.bind (rgChk_ev h) ?_)
    by_cases c2 : gChk h = 0
    · rw [if_pos c2]
      refine Ev.iteT c2 (Ev.ite (fun c3 => ?_) (fun c3 => ?_))
      · rw [if_pos (by omega)]; exact Ev.now _
      · rw [if_neg (by omega)]; exact Ev.now _
    · rw [if_neg c2]; exact Ev.iteF c2 (Ev.bind (rgChk_ev h) (Ev.now _))
  · rw [if_neg c]; exact Ev.iteF c (Ev.bind (rgChk_ev g) (Ev.now _))
theorem gBoth_ok {g h : List S36} (e : gBoth g h = 0) : gChk g = 0 ∧ gChk h = 0 ∧ g.length = h.length := by
  unfold gBoth at e
  by_cases c : gChk g = 0
  · rw [if_pos c] at e
    by_cases c2 : gChk h = 0
    · rw [if_pos c2] at e
      by_cases c3 : g.length = h.length
      · exact ⟨c, c2, c3⟩
      · rw [if_neg c3] at e; omega
    · rw [if_neg c2] at e; exact absurd e c2
  · rw [if_neg c] at e; exact absurd e c
theorem gChk_ok {g : List S36} (h : gChk g = 0) : g.length ≤ 8 ∧ 0 < g.length ∧ ∀ x ∈ g, gOk x = true := by
  unfold gChk at h
  by_cases c : g.length > 8
  · rw [if_pos c] at h; omega
  · rw [if_neg c] at h
    by_cases c2 : g.length = 0
    · rw [if_pos c2] at h; omega
    · rw [if_neg c2] at h
      by_cases c3 : g.all gOk = true
      · exact ⟨by omega, by omega, List.all_eq_true.1 c3⟩
      · rw [if_neg c3] at h; omega
theorem gOk_iff {x : S36} : gOk x = true ↔ cxOk x.f0 x.f1 x.f2 = true ∧ ¬ (x.f0 = 0 ∧ x.f1 = 0) := by
  unfold gOk
  by_cases c0 : x.f0 = 0 <;> by_cases c1 : x.f1 = 0 <;> simp [c0, c1]
def MulS (g h : List S36) : List S36 × Int := if gBoth g h = 0 then goC (fun i x => mulT x (rd_T36 h i)) g 0 [] else ([], gBoth g h)
theorem gain_Mul_ev (g h : List S36) : Ev (fun k => gain_Mul.f k g h) (MulS g h) := by
  simp only [gain_Mul.f]
  refine Ev.bind (gain_both_ev g h) ?_
  unfold MulS
  by_cases c : gBoth g h = 0
  · obtain ⟨h1, h2, h3⟩ := gBoth_ok c
    have := (gChk_ok h1).1
    rw [if_pos c]
    exact Ev.iteT c (Ev.iteT (by omega) (goC_ev (p := fun k => mul_one k h) (N := h.length) (fun i x hi => mul_one_ev h i x hi) g 0 [] (by omega) (by simp; omega)))
  · rw [if_neg c]; exact Ev.iteF c (Ev.now _)
/-! ### norms -/
def normS (a b c : Int) : Int × Int × Int :=
  if cxOk a b c then (if Int.tdiv (a * a + b * b) ((Nat.gcd (a * a + b * b).natAbs (c * c).natAbs : Nat) : Int) > 1000000000000000000 then (0, 0, 16) else (Int.tdiv (a * a + b * b) ((Nat.gcd (a * a + b * b).natAbs (c * c).natAbs : Nat) : Int), Int.tdiv (c * c) ((Nat.gcd (a * a + b * b).natAbs (c * c).natAbs : Nat) : Int), 0))
  else (0, 0, 8)
theorem gcd2_ev {a b : Int} (ha : a.natAbs ≤ 9223372036854775807) (hb : b.natAbs ≤ 9223372036854775807) : Ev (fun k => cx_gcd.f k [a, b]) ((Nat.gcd a.natAbs b.natAbs : Nat) : Int) := by
  simp only [cx_gcd.f]
  have := gcd_l0 [a, b] (by simp) (by intro x hx; simp at hx; rcases hx with rfl | rfl <;> assumption) 2 0 (by simp) 0 (by simp)
  simpa using this
theorem norm_args {a b c : Int} (h : cxOk a b c = true) :
    wrap64 (wrap64 (a * a) + wrap64 (b * b)) = a * a + b * b ∧ wrap64 (c * c) = c * c ∧ (a * a + b * b).natAbs ≤ 9223372036854775807 ∧ (c * c).natAbs ≤ 9223372036854775807 ∧ 1 ≤ c * c ∧ 0 ≤ a * a + b * b := by
  obtain ⟨h1, h2, h3, h4, h5, h6, _⟩ := cxOk_iff.1 h
  have p1 := prod_bd ⟨h3, h4⟩ ⟨h3, h4⟩
  have p2 := prod_bd ⟨h5, h6⟩ ⟨h5, h6⟩
  have p5 := prod_bd (a := c) (b := c) (by omega) (by omega)
  have p6 : 1 ≤ c * c := by
    have := Int.mul_pos (a := c) (b := c) (by omega) (by omega)
    omega
  have p7 : 0 ≤ a * a := by rw [← Int.natAbs_mul_self]; omega
  have p8 : 0 ≤ b * b := by rw [← Int.natAbs_mul_self]; omega
  rw [wr (x := a * a) (by omega) (by omega), wr (x := b * b) (by omega) (by omega), wr (x := c * c) (by omega) (by omega), wr (x := a * a + b * b) (by omega) (by omega)]
  exact ⟨rfl, rfl, by omega, by omega, p6, by omega⟩
theorem cxNorm_ev (a b c : Int) : Ev (fun k => cx_Norm.f k a b c) (normS a b c) := by
  simp only [cx_Norm.f]
  refine Ev.bind (cxCheck_ev a b c) ?_
  unfold normS
  by_cases h : cxOk a b c = true
  · obtain ⟨e1, e2, e3, e4, e5, _⟩ := norm_args h
    rw [if_pos h, if_pos h, e1, e2]
    refine Ev.iteT rfl (Ev.bind (gcd2_ev e3 e4) (Ev.iteF ?_ ?_))
    · have := Nat.gcd_pos_of_pos_right (a * a + b * b).natAbs (show 0 < (c * c).natAbs by omega)
      omega
    · rw [tdiv_bd _ e3, tdiv_bd _ e4]
      refine Ev.ite (fun c => ?_) (fun c => ?_)
      · rw [if_pos c]; exact Ev.now _
      · rw [if_neg c]; exact Ev.now _
  · rw [if_neg h, if_neg h]; exact Ev.iteF (by omega) (Ev.now _)
theorem rNorm_ev (a b c : Int) : Ev (fun k => fringeref25_Norm.f k a b c) (normS a b c) := by
  simp only [fringeref25_Norm.f]
  refine Ev.bind (rCheck_ev a b c) ?_
  unfold normS
  by_cases h : cxOk a b c = true
  · obtain ⟨e1, e2, e3, e4, e5, _⟩ := norm_args h
    rw [if_pos h, if_pos h, e1, e2]
    refine Ev.iteT rfl (Ev.bind (rgcd_ev e3 e4) (Ev.iteF ?_ ?_))
    · have := Nat.gcd_pos_of_pos_right (a * a + b * b).natAbs (show 0 < (c * c).natAbs by omega)
      omega
    · rw [tdiv_bd _ e3, tdiv_bd _ e4]
      refine Ev.ite (fun c => ?_) (fun c => ?_)
      · rw [if_pos c]; exact Ev.now _
      · rw [if_neg c]; exact Ev.now _
  · rw [if_neg h, if_neg h]; exact Ev.iteF (by omega) (Ev.now _)
theorem norm_ok {a b c n d : Int} (h : normS a b c = (n, d, 0)) : cxOk a b c = true ∧ (a * a + b * b) * d = n * (c * c) ∧ 1 ≤ d ∧ Nat.gcd n.natAbs d.natAbs = 1 := by
  unfold normS at h
  by_cases h0 : cxOk a b c = true
  · rw [if_pos h0] at h
    obtain ⟨_, _, _, _, e5, e6⟩ := norm_args h0
    generalize a * a + b * b = x at *
    generalize c * c = y at *
    have hp : 0 < Nat.gcd x.natAbs y.natAbs := Nat.gcd_pos_of_pos_right _ (by omega)
    split at h
    · simp at h
    · simp only [Prod.mk.injEq, and_true] at h
      obtain ⟨rfl, rfl⟩ := h
      have e1 := Int.mul_tdiv_cancel' (show ((Nat.gcd x.natAbs y.natAbs : Nat) : Int) ∣ x from Int.ofNat_dvd_left.2 (Nat.gcd_dvd_left _ _))
      have e2 := Int.mul_tdiv_cancel' (show ((Nat.gcd x.natAbs y.natAbs : Nat) : Int) ∣ y from Int.ofNat_dvd_left.2 (Nat.gcd_dvd_right _ _))
      have e3 : Nat.gcd (Int.tdiv x ((Nat.gcd x.natAbs y.natAbs : Nat) : Int)).natAbs (Int.tdiv y ((Nat.gcd x.natAbs y.natAbs : Nat) : Int)).natAbs = 1 := by
        rw [Int.natAbs_tdiv, Int.natAbs_tdiv, Int.natAbs_natCast]
        exact (Nat.gcd_div (Nat.gcd_dvd_left _ _) (Nat.gcd_dvd_right _ _)).trans (Nat.div_self hp)
      have e4 : 1 ≤ Int.tdiv y ((Nat.gcd x.natAbs y.natAbs : Nat) : Int) := by
        rcases Int.lt_or_le 0 (Int.tdiv y ((Nat.gcd x.natAbs y.natAbs : Nat) : Int)) with c | c
        · omega
        · have := Int.mul_nonpos_of_nonneg_of_nonpos (show (0 : Int) ≤ ((Nat.gcd x.natAbs y.natAbs : Nat) : Int) by omega) c
          omega
      generalize Int.tdiv x ((Nat.gcd x.natAbs y.natAbs : Nat) : Int) = n at *
      generalize Int.tdiv y ((Nat.gcd x.natAbs y.natAbs : Nat) : Int) = d at *
      generalize ((Nat.gcd x.natAbs y.natAbs : Nat) : Int) = g at *
      refine ⟨h0, ?_, e4, e3⟩
      rw [← e1, ← e2]; grind
  · rw [if_neg h0] at h
    simp at h
theorem frac_uniq {n d n' d' : Int} (h : n * d' = n' * d) (hd : 1 ≤ d) (hd' : 1 ≤ d') (g : Nat.gcd n.natAbs d.natAbs = 1) (g' : Nat.gcd n'.natAbs d'.natAbs = 1) : n = n' ∧ d = d' := by
  have key : ∀ {a b a' b' : Int}, a * b' = a' * b → Nat.gcd a.natAbs b.natAbs = 1 → b.natAbs ∣ b'.natAbs := by
    intro a b a' b' h g
    have d1 : b.natAbs ∣ a.natAbs * b'.natAbs := ⟨a'.natAbs, by rw [← Int.natAbs_mul, h, Int.natAbs_mul, Nat.mul_comm]⟩
    exact (Nat.Coprime.symm (show Nat.Coprime a.natAbs b.natAbs from g)).dvd_of_dvd_mul_left d1
  have k := Nat.dvd_antisymm (key h g) (key h.symm g')
  have e : d = d' := by omega
  subst e
  exact ⟨Int.eq_of_mul_eq_mul_right (show d ≠ 0 by omega) h, rfl⟩
/-! ### equal lists -/
def eqS (x y : S36) : Bool := (x.f0 == y.f0) && ((x.f1 == y.f1) && (x.f2 == y.f2))
theorem eqS_iff {x y : S36} : eqS x y = true ↔ x = y := by
  cases x; cases y
  simp [eqS]
theorem eqS_not (x y : S36) : (!(x.f0 == y.f0) || (!(x.f1 == y.f1) || (!(x.f2 == y.f2)))) = !(eqS x y) := by
  unfold eqS
  cases (x.f0 == y.f0) <;> cases (x.f1 == y.f1) <;> cases (x.f2 == y.f2) <;> rfl
def eqT : List S36 → List S36 → Bool
  | [], [] => true
  | x :: s, y :: t => eqS x y && eqT s t
  | [], _ :: _ => false
  | _ :: _, [] => false
theorem eqT_of : ∀ {p q : List S36}, p.length = q.length → (∀ j, j < p.length → p.getD j z36 = q.getD j z36) → eqT p q = true
  | [], [], _, _ => rfl
  | x :: s, y :: t, h, h' => by
    rw [eqT, Bool.and_eq_true]
    refine ⟨eqS_iff.2 (h' 0 (by simp)), eqT_of (by simpa using h) (fun j hj => ?_)⟩
    have := h' (j + 1) (by simpa using hj)
    simpa using this
  | [], _ :: _, h, _ => by simp at h
  | _ :: _, [], h, _ => by simp at h
theorem eqT_to : ∀ {p q : List S36}, eqT p q = true → p = q
  | [], [], _ => rfl
  | x :: s, y :: t, h => by
    rw [eqT, Bool.and_eq_true] at h
    rw [eqS_iff.1 h.1, eqT_to h.2]
  | [], _ :: _, h => by simp [eqT] at h
  | _ :: _, [], h => by simp [eqT] at h
/-! ### acting alike, in numbers -/
theorem ring1 (a b d e c f p q r : Int) : (a * d + b * e) * (c * f) * ((p * p + q * q) * (r * r)) = ((a * p - b * q) * (r * c)) * ((d * p - e * q) * (r * f)) + ((a * q + b * p) * (r * c)) * ((d * q + e * p) * (r * f)) := by grind
theorem ring2 (a b d e c f p q r : Int) : (a * d + b * e) * (c * f) * ((p * p + q * q) * (r * r)) = ((p * a - q * b) * (c * r)) * ((p * d - q * e) * (f * r)) + ((p * b + q * a) * (c * r)) * ((p * e + q * d) * (f * r)) := by grind
theorem ring3 (a b d e c f p q r : Int) : (b * d - a * e) * (c * f) * ((p * p + q * q) * (r * r)) = ((a * q + b * p) * (r * c)) * ((d * p - e * q) * (r * f)) - ((a * p - b * q) * (r * c)) * ((d * q + e * p) * (r * f)) := by grind
theorem ring4 (a b d e c f p q r : Int) : (b * d - a * e) * (c * f) * ((p * p + q * q) * (r * r)) = ((p * b + q * a) * (c * r)) * ((p * d - q * e) * (f * r)) - ((p * a - q * b) * (c * r)) * ((p * e + q * d) * (f * r)) := by grind
theorem alg1 {a b c d e f a' b' c' d' e' f' p q r p' q' r' : Int} (hr : r ≠ 0) (hn : p' * p' + q' * q' ≠ 0) (E1 : (p * p + q * q) * (r' * r') = (p' * p' + q' * q') * (r * r))
    (A1 : (a * p' - b * q') * (r * c') = (p * a' - q * b') * (c * r')) (A2 : (a * q' + b * p') * (r * c') = (p * b' + q * a') * (c * r'))
    (B1 : (d * p' - e * q') * (r * f') = (p * d' - q * e') * (f * r')) (B2 : (d * q' + e * p') * (r * f') = (p * e' + q * d') * (f * r')) :
    (a * d + b * e) * (c' * f') = (a' * d' + b' * e') * (c * f) ∧ (b * d - a * e) * (c' * f') = (b' * d' - a' * e') * (c * f) := by
  have k1 : ((a * p' - b * q') * (r * c')) * ((d * p' - e * q') * (r * f')) = ((p * a' - q * b') * (c * r')) * ((p * d' - q * e') * (f * r')) := by rw [A1, B1]
  have k2 : ((a * q' + b * p') * (r * c')) * ((d * q' + e * p') * (r * f')) = ((p * b' + q * a') * (c * r')) * ((p * e' + q * d') * (f * r')) := by rw [A2, B2]
  have k3 : ((a * q' + b * p') * (r * c')) * ((d * p' - e * q') * (r * f')) = ((p * b' + q * a') * (c * r')) * ((p * d' - q * e') * (f * r')) := by rw [A2, B1]
  have k4 : ((a * p' - b * q') * (r * c')) * ((d * q' + e * p') * (r * f')) = ((p * a' - q * b') * (c * r')) * ((p * e' + q * d') * (f * r')) := by rw [A1, B2]
  have hm : (p' * p' + q' * q') * (r * r) ≠ 0 := Int.mul_ne_zero hn (Int.mul_ne_zero hr hr)
  have u1 : (a * d + b * e) * (c' * f') * ((p' * p' + q' * q') * (r * r)) = (a' * d' + b' * e') * (c * f) * ((p * p + q * q) * (r' * r')) := by rw [ring1, ring2, k1, k2]
  have u2 : (b * d - a * e) * (c' * f') * ((p' * p' + q' * q') * (r * r)) = (b' * d' - a' * e') * (c * f) * ((p * p + q * q) * (r' * r')) := by rw [ring3, ring4, k3, k4]
  rw [E1] at u1 u2
  exact ⟨Int.eq_of_mul_eq_mul_right hm u1, Int.eq_of_mul_eq_mul_right hm u2⟩
theorem ring5 (P Q c z f g h : Int) : P * Q * (c * z * f * (g * h)) = (P * (c * z * f)) * (Q * (g * h)) := by grind
theorem ring6 (x y S T P Q m : Int) : ((x * S - y * T) * P) * (Q * m) = (x * (S * m) - y * (T * m)) * (P * Q) := by grind
theorem ring7 (x y S T P Q m : Int) : (x * (S * m) - y * (T * m)) * (P * Q) = ((x * S - y * T) * Q) * (P * m) := by grind
theorem ring8 (P Q c z f g h : Int) : (Q * (g * z * h)) * (P * (c * f)) = Q * P * (c * z * f * (g * h)) := by grind
theorem ring9 (x y S T P Q m : Int) : ((y * S + x * T) * P) * (Q * m) = (y * (S * m) + x * (T * m)) * (P * Q) := by grind
theorem ring10 (x y S T P Q m : Int) : (y * (S * m) + x * (T * m)) * (P * Q) = ((y * S + x * T) * Q) * (P * m) := by grind
theorem alg2 {a b c d e f a' b' c' d' e' f' x y z P1 P2 P3 Q1 Q2 Q3 : Int} (hc : c ≠ 0) (hf : f ≠ 0) (hc' : c' ≠ 0) (hf' : f' ≠ 0) (hz : z ≠ 0)
    (U : (a * d + b * e) * (c' * f') = (a' * d' + b' * e') * (c * f)) (V : (b * d - a * e) * (c' * f') = (b' * d' - a' * e') * (c * f))
    (p1 : ((a * x - b * y) * d + (a * y + b * x) * e) * P3 = P1 * (c * z * f)) (p2 : ((a * y + b * x) * d - (a * x - b * y) * e) * P3 = P2 * (c * z * f))
    (q1 : ((a' * x - b' * y) * d' + (a' * y + b' * x) * e') * Q3 = Q1 * (c' * z * f')) (q2 : ((a' * y + b' * x) * d' - (a' * x - b' * y) * e') * Q3 = Q2 * (c' * z * f')) :
    P1 * Q3 = Q1 * P3 ∧ P2 * Q3 = Q2 * P3 := by
  have hm : (c * z * f) * (c' * f') ≠ 0 := Int.mul_ne_zero (Int.mul_ne_zero (Int.mul_ne_zero hc hz) hf) (Int.mul_ne_zero hc' hf')
  have u1 : (a * x - b * y) * d + (a * y + b * x) * e = x * (a * d + b * e) - y * (b * d - a * e) := by grind
  have u2 : (a' * x - b' * y) * d' + (a' * y + b' * x) * e' = x * (a' * d' + b' * e') - y * (b' * d' - a' * e') := by grind
  have v1 : (a * y + b * x) * d - (a * x - b * y) * e = y * (a * d + b * e) + x * (b * d - a * e) := by grind
  have v2 : (a' * y + b' * x) * d' - (a' * x - b' * y) * e' = y * (a' * d' + b' * e') + x * (b' * d' - a' * e') := by grind
  rw [u1] at p1
  rw [v1] at p2
  rw [u2] at q1
  rw [v2] at q2
  generalize a * d + b * e = S at *
  generalize b * d - a * e = T at *
  generalize a' * d' + b' * e' = S' at *
  generalize b' * d' - a' * e' = T' at *
  refine ⟨Int.eq_of_mul_eq_mul_right hm ?_, Int.eq_of_mul_eq_mul_right hm ?_⟩
  · rw [ring5, ← p1, ring6, U, V, ring7, q1, ring8]
  · rw [ring5, ← p2, ring9, U, V, ring10, q2, ring8]
theorem sq_pos {p q : Int} (h : ¬ (p = 0 ∧ q = 0)) : p * p + q * q ≠ 0 := by
  intro h0
  have h1 : p * p = ((p.natAbs * p.natAbs : Nat) : Int) := Int.natAbs_mul_self.symm
  have h2 : q * q = ((q.natAbs * q.natAbs : Nat) : Int) := Int.natAbs_mul_self.symm
  have h3 : p.natAbs * p.natAbs = 0 := by omega
  have h4 : q.natAbs * q.natAbs = 0 := by omega
  have h5 : p.natAbs = 0 := (Nat.mul_eq_zero.1 h3).elim id id
  have h6 : q.natAbs = 0 := (Nat.mul_eq_zero.1 h4).elim id id
  omega
/-! ### Alike -/
def or4 (a b c d : Int) : Int := if a = 0 then (if b = 0 then (if c = 0 then d else c) else b) else a
theorem or4_ev (a b c d : Int) : Ev (fun k => cmp_Or__api_Errno.f k [a, b, c, d]) (or4 a b c d) := by
  simp only [cmp_Or__api_Errno.f]
  unfold or4
  have w1 : wrap64 (0 + 1) = 1 := wr (by omega) (by omega)
  have w2 : wrap64 (1 + 1) = 2 := wr (by omega) (by omega)
  have w3 : wrap64 (2 + 1) = 3 := wr (by omega) (by omega)
  have w4 : wrap64 (3 + 1) = 4 := wr (by omega) (by omega)
  have r0 : rd [a, b, c, d] 0 = a := rfl
  have r1 : rd [a, b, c, d] 1 = b := rfl
  have r2 : rd [a, b, c, d] 2 = c := rfl
  have r3 : rd [a, b, c, d] 3 = d := rfl
  have e4 : Ev (fun k => cmp_Or__api_Errno.l0 k 0 [a, b, c, d] 4 4) 0 := by
    refine Ev.step (fun k => by simp only [cmp_Or__api_Errno.l0]; rfl) ?_
    exact Ev.iteF (by omega) (Ev.now _)
  have e3 : Ev (fun k => cmp_Or__api_Errno.l0 k 0 [a, b, c, d] 4 3) d := by
    refine Ev.step (fun k => by simp only [cmp_Or__api_Errno.l0]; rfl) ?_
    rw [r3, w4]
    refine Ev.iteT (by omega) (Ev.iteT (by omega) (Ev.iteT (by simp) (Ev.ite (fun h => ?_) (fun _ => Ev.now _))))
    rw [h]
    subst h
    exact e4
  have e2 : Ev (fun k => cmp_Or__api_Errno.l0 k 0 [a, b, c, d] 4 2) (if c = 0 then d else c) := by
    refine Ev.step (fun k => by simp only [cmp_Or__api_Errno.l0]; rfl) ?_
    rw [r2, w3]
    refine Ev.iteT (by omega) (Ev.iteT (by omega) (Ev.iteT (by simp) (Ev.ite (fun h => ?_) (fun h => ?_))))
    · rw [if_pos h]; exact e3
    · rw [if_neg h]; exact Ev.now _
  have e1 : Ev (fun k => cmp_Or__api_Errno.l0 k 0 [a, b, c, d] 4 1) (if b = 0 then (if c = 0 then d else c) else b) := by
    refine Ev.step (fun k => by simp only [cmp_Or__api_Errno.l0]; rfl) ?_
    rw [r1, w2]
    refine Ev.iteT (by omega) (Ev.iteT (by omega) (Ev.iteT (by simp) (Ev.ite (fun h => ?_) (fun h => ?_))))
    · rw [if_pos h]; exact e2
    · rw [if_neg h]; exact Ev.now _
  refine Ev.step (fun k => by simp only [cmp_Or__api_Errno.l0]; rfl) ?_
  rw [r0, w1]
  refine Ev.iteT (by simp) (Ev.iteT (by omega) (Ev.iteT (by simp) (Ev.ite (fun h => ?_) (fun h => ?_))))
  · rw [if_pos h]; exact e1
  · rw [if_neg h]; exact Ev.now _
theorem equal_l0 (p q : List S36) (hl : p.length ≤ 1000) (he : p.length = q.length) : ∀ d i : Nat, p.length = i + d → Ev (fun k => slices_Equal__api_Cx_api_Cx.l0 k p q p.length i) (eqT (p.drop i) (q.drop i))
  | 0, i, h => by
    refine Ev.step (fun k => by simp only [slices_Equal__api_Cx_api_Cx.l0]; rfl) ?_
    rw [List.drop_eq_nil_of_le (by omega), List.drop_eq_nil_of_le (by omega)]
    exact Ev.iteF (by omega) (Ev.now _)
  | d + 1, i, h => by
    refine Ev.step (fun k => by simp only [slices_Equal__api_Cx_api_Cx.l0]; rfl) ?_
    refine Ev.iteT (by omega) (Ev.iteT (by omega) (Ev.iteT (by omega) (Ev.iteT (by omega) ?_)))
    have e1 : rd_T36 p (i : Int) = p.getD i z36 := rfl
    have e2 : rd_T36 q (i : Int) = q.getD i z36 := rfl
    rw [drop_get p z36 i (by omega), drop_get q z36 i (by omega), eqT, e1, e2, wr1 i (by omega), eqS_not]
    have ih := equal_l0 p q hl he d (i + 1) (by omega)
    cases eqS (p.getD i z36) (q.getD i z36) with
    | true => exact Ev.iteF (by simp) ih
    | false => exact Ev.iteT (by simp) (Ev.now _)
theorem equal_ev (p q : List S36) (hl : p.length ≤ 1000) : Ev (fun k => slices_Equal__api_Cx_api_Cx.f k p q) (eqT p q) := by
  simp only [slices_Equal__api_Cx_api_Cx.f]
  refine Ev.ite (fun h => ?_) (fun h => ?_)
  · have := equal_l0 p q hl (by omega) p.length 0 (by omega)
    rw [List.drop_zero, List.drop_zero] at this
    exact this
  · refine Ev.some_of ?_
    symm
    rw [Bool.eq_false_iff]
    intro hc
    rw [eqT_to hc] at h
    exact h rfl
def aP (g h : List S36) : List S36 × Int := goC (fun _ x => mulT x (rd_T36 h 0)) g 0 []
def aQ (g h : List S36) : List S36 × Int := goC (fun _ x => mulT (rd_T36 g 0) x) h 0 []
def nm (x : S36) : Int × Int × Int := normS x.f0 x.f1 x.f2
def aE (g h : List S36) : Int := or4 (nm (rd_T36 g 0)).2.2 (nm (rd_T36 h 0)).2.2 (aP g h).2 (aQ g h).2
def AlikeS (g h : List S36) : Bool × Int :=
  if gBoth g h = 0 then (if aE g h = 0 then (if (nm (rd_T36 g 0)).1 = (nm (rd_T36 h 0)).1 ∧ (nm (rd_T36 g 0)).2.1 = (nm (rd_T36 h 0)).2.1 then (eqT (aP g h).1 (aQ g h).1, 0) else (false, 0)) else (false, aE g h)) else (false, gBoth g h)
theorem gain_Alike_ev (g h : List S36) : Ev (fun k => gain_Alike.f k g h) (AlikeS g h) := by
  simp only [gain_Alike.f]
  refine Ev.bind (gain_both_ev g h) ?_
  unfold AlikeS
  by_cases c : gBoth g h = 0
  · obtain ⟨h1, h2, h3⟩ := gBoth_ok c
    have g1 := gChk_ok h1
    have g2 := gChk_ok h2
    rw [if_pos c]
    refine Ev.iteT c (Ev.iteT ⟨by omega, by omega, by omega, by omega⟩ ?_)
    simp only [alike_all]
    have hp : Ev (fun k => madeCx.go (fun _ x => alike_1 k h x) g 0 []) (aP g h) := goC_ev (p := fun k _ x => alike_1 k h x) (N := g.length) (fun i x _ => alike_1_ev h x g2.2.1) g 0 [] (by omega) (by simp; omega)
    have hq : Ev (fun k => madeCx.go (fun _ x => alike_2 k g x) h 0 []) (aQ g h) := goC_ev (p := fun k _ x => alike_2 k g x) (N := h.length) (fun i x _ => alike_2_ev g x g1.2.1) h 0 [] (by omega) (by simp; omega)
    have hl : (aP g h).1.length ≤ 1000 := by
      have := goC_len (fun _ x => mulT x (rd_T36 h 0)) g 0 []
      rw [List.length_nil] at this
      unfold aP
      omega
    refine Ev.bind (cxNorm_ev _ _ _) (Ev.bind (cxNorm_ev _ _ _) (Ev.bind hp (Ev.bind hq (Ev.bind (or4_ev _ _ _ _) ?_))))
    show Ev (fun k => if aE g h = 0 then (if (nm (rd_T36 g 0)).1 = (nm (rd_T36 h 0)).1 ∧ (nm (rd_T36 g 0)).2.1 = (nm (rd_T36 h 0)).2.1 then (slices_Equal__api_Cx_api_Cx.f k (aP g h).1 (aQ g h).1).bind fun b => some (b, 0) else some (false, 0)) else some (false, aE g h)) _
    refine Ev.ite (fun c1 => ?_) (fun c1 => ?_)
    · rw [if_pos c1]
      refine Ev.ite (fun c2 => ?_) (fun c2 => ?_)
      · rw [if_pos c2]
        exact Ev.bind (equal_ev _ _ hl) (Ev.now _)
      · rw [if_neg c2]; exact Ev.now _
    · rw [if_neg c1]; exact Ev.now _
  · rw [if_neg c]; exact Ev.iteF c (Ev.now _)
theorem or4_0 {a b c d : Int} (h : or4 a b c d = 0) : a = 0 ∧ b = 0 ∧ c = 0 ∧ d = 0 := by
  unfold or4 at h
  by_cases h1 : a = 0
  · rw [if_pos h1] at h
    by_cases h2 : b = 0
    · rw [if_pos h2] at h
      by_cases h3 : c = 0
      · rw [if_pos h3] at h; exact ⟨h1, h2, h3, h⟩
      · rw [if_neg h3] at h; exact absurd h h3
    · rw [if_neg h2] at h; exact absurd h h2
  · rw [if_neg h1] at h; exact absurd h h1
theorem frac_eq {A B C C' n d : Int} (hd : d ≠ 0) (h : A * d = n * C) (h' : B * d = n * C') : A * C' = B * C :=
  Int.eq_of_mul_eq_mul_right hd (by rw [Int.mul_right_comm A, h, Int.mul_right_comm B, h', Int.mul_right_comm n])
theorem ring11 (P c m z : Int) : P * (c * m) * z = (P * (c * z)) * m := by grind
theorem ring12 (a b x y P m : Int) : ((a * x - b * y) * P) * m = (a * (x * m) - b * (y * m)) * P := by grind
theorem ring13 (a b M N P z : Int) : (a * (M * z) - b * (N * z)) * P = ((a * M - b * N) * P) * z := by grind
theorem ring14 (a b x y P m : Int) : ((a * y + b * x) * P) * m = (a * (y * m) + b * (x * m)) * P := by grind
theorem ring15 (a b M N P z : Int) : (a * (N * z) + b * (M * z)) * P = ((a * N + b * M) * P) * z := by grind
theorem step1 {x y M N z m c P P3 a b : Int} (hz : z ≠ 0) (h1 : M * z = x * m) (h2 : N * z = y * m) (h3 : (a * x - b * y) * P3 = P * (c * z)) : P * (c * m) = (a * M - b * N) * P3 :=
  Int.eq_of_mul_eq_mul_right hz (by rw [ring11, ← h3, ring12, ← h1, ← h2, ring13])
theorem step2 {x y M N z m c P P3 a b : Int} (hz : z ≠ 0) (h1 : M * z = x * m) (h2 : N * z = y * m) (h3 : (a * y + b * x) * P3 = P * (c * z)) : P * (c * m) = (a * N + b * M) * P3 :=
  Int.eq_of_mul_eq_mul_right hz (by rw [ring11, ← h3, ring14, ← h1, ← h2, ring15])
theorem ring16 (a b p q s t : Int) : a * (p * s - q * t) - b * (p * t + q * s) = p * (a * s - b * t) - q * (a * t + b * s) := by grind
theorem ring17 (a b p q s t : Int) : a * (p * t + q * s) + b * (p * s - q * t) = p * (a * t + b * s) + q * (a * s - b * t) := by grind
theorem ring18 (c r u : Int) : r * (c * u) = c * (r * u) := by grind
theorem same_of {P Q W P3 Q3 m : Int} (hm : m ≠ 0) (h : P * m = W * P3) (h' : Q * m = W * Q3) : P * Q3 = Q * P3 :=
  Int.eq_of_mul_eq_mul_right hm (by rw [Int.mul_right_comm P, h, Int.mul_right_comm Q, h', Int.mul_right_comm W])
theorem ring19 (x y m : Int) : (x * x + y * y) * (m * m) = (x * m) * (x * m) + (y * m) * (y * m) := by grind
theorem ring20 (M N z : Int) : (M * z) * (M * z) + (N * z) * (N * z) = (M * M + N * N) * (z * z) := by grind
theorem ring21 (p q s t : Int) : (p * s - q * t) * (p * s - q * t) + (p * t + q * s) * (p * t + q * s) = (p * p + q * q) * (s * s + t * t) := by grind
theorem norm_prod {p q s t x y z m : Int} (h1 : (p * s - q * t) * z = x * m) (h2 : (p * t + q * s) * z = y * m) : (x * x + y * y) * (m * m) = (p * p + q * q) * (s * s + t * t) * (z * z) := by
  rw [ring19, ← h1, ← h2, ring20, ring21]
theorem imm (a b c d : Int) : a * b * (c * d) = a * c * (b * d) := by grind
/-- The norm of a product is the norm of the first factor if the other's is 1, and only then. -/
theorem norm_case {p q r s t u x y z n d n1 d1 n2 d2 : Int} (hp : p * p + q * q ≠ 0) (hr : r ≠ 0) (hu : u ≠ 0) (hz : z ≠ 0)
    (h1 : (p * s - q * t) * z = x * (r * u)) (h2 : (p * t + q * s) * z = y * (r * u))
    (k : (s * s + t * t) * d = n * (u * u)) (kd : 1 ≤ d) (kg : Nat.gcd n.natAbs d.natAbs = 1)
    (k1 : (p * p + q * q) * d1 = n1 * (r * r)) (kd1 : 1 ≤ d1) (kg1 : Nat.gcd n1.natAbs d1.natAbs = 1)
    (k2 : (x * x + y * y) * d2 = n2 * (z * z)) (kd2 : 1 ≤ d2) (kg2 : Nat.gcd n2.natAbs d2.natAbs = 1) :
    (n1 = n2 ∧ d1 = d2) ↔ (n = 1 ∧ d = 1) := by
  have e := norm_prod h1 h2
  have huu : u * u ≠ 0 := Int.mul_ne_zero hu hu
  have hrr : r * r ≠ 0 := Int.mul_ne_zero hr hr
  have hzz : z * z ≠ 0 := Int.mul_ne_zero hz hz
  rw [show (r * u) * (r * u) = (r * r) * (u * u) by rw [imm]] at e
  generalize p * p + q * q = A at *
  generalize x * x + y * y = B at *
  generalize s * s + t * t = S at *
  generalize r * r = R at *
  generalize z * z = Z at *
  generalize u * u = U at *
  clear h1 h2
  constructor
  · rintro ⟨rfl, rfl⟩
    have f := frac_eq (show d1 ≠ 0 by omega) k1 k2
    -- A * Z = B * R
    have e2 : U * (A * Z) = S * (A * Z) := by
      have : B * (R * U) = U * (B * R) := by rw [← Int.mul_assoc, Int.mul_comm]
      rw [this, ← f] at e
      rw [e, Int.mul_comm A S, Int.mul_assoc]
    have e3 : U = S := Int.eq_of_mul_eq_mul_right (Int.mul_ne_zero hp hzz) e2
    rw [← e3, Int.mul_comm n] at k
    have e4 := Int.eq_of_mul_eq_mul_left huu k
    subst e4
    rw [Nat.gcd_self] at kg
    omega
  · rintro ⟨rfl, rfl⟩
    rw [Int.mul_one, Int.one_mul] at k
    subst k
    have f : B * R = A * Z := Int.eq_of_mul_eq_mul_right huu (by rw [Int.mul_assoc, e, Int.mul_right_comm])
    refine frac_uniq ?_ kd1 kd2 kg1 kg2
    have g1 : (B * R) * (d1 * d2) = (n2 * d1) * (R * Z) := by
      rw [show (B * R) * (d1 * d2) = (B * d2) * (R * d1) by rw [Int.mul_comm d1 d2, imm], k2, Int.mul_comm R d1, imm, Int.mul_comm Z R]
    have g2 : (A * Z) * (d1 * d2) = (n1 * d2) * (R * Z) := by
      rw [imm, k1, Int.mul_comm Z d2, imm]
    rw [f, g2] at g1
    exact Int.eq_of_mul_eq_mul_right (Int.mul_ne_zero hrr hzz) g1
end Go.Proofs.Ytnlaklkneaaakaa.Pure
