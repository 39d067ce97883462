/- Small fractions on the plain side: what package cx answers, and the reference with it. -/
import Derived.Test.YtnlaklkneaaakaaQ6
import Derived.Test.YtnlaklkneaaakaaQ4
import Derived.Test.YtnlaklkneaaakaaQ8
import Derived.Test.YtnlaklkneaaakaaQ9
import Derived.Test.YtnlaklkneaaakaaAid
import Derived.Test.YtnlaklkneaaakaaQT
namespace Go.Proofs.Ytnlaklkneaaakaa.Pure
open Go.RowKit Go.Proofs.YtnlaklkneaaakaaW.PrintWords Go.Proofs.YtnlaklkneaaakaaW.PrintLast Go.Proofs.YtnlaklkneaaakaaW.PrintMore Go.Proofs.Ytnlaklkneaaakaa.Open Go.Proofs.Ytnlaklkneaaakaa.Q Go.Proofs.Ytnlaklkneaaakaa.Aid
/-! ### greatest common divisors, small fractions -/
theorem gcd_l1 (r : Int) (l : List Int) (n : Int) (i : Nat) (hi : i < 1000) : ∀ d : Nat, ∀ x3 x5 : Int, x5.natAbs ≤ d →
    (∀ g : Int, g.natAbs = Nat.gcd x3.natAbs x5.natAbs → Ev (fun k => cx_gcd.l0 k g l n ((i + 1 : Nat) : Int)) r) → Ev (fun k => cx_gcd.l1 k x3 x5 l n i) r
  | 0, x3, x5, h, hk => by
    refine Ev.step (fun k => by simp only [cx_gcd.l1]; rfl) ?_
    have h0 : x5 = 0 := by omega
    refine Ev.iteT h0 ?_
    rw [wr1 i (by omega)]
    refine hk x3 ?_
    rw [h0]
    simp
  | d + 1, x3, x5, h, hk => by
    refine Ev.step (fun k => by simp only [cx_gcd.l1]; rfl) ?_
    refine Ev.ite (fun h0 => ?_) (fun h0 => ?_)
    · rw [wr1 i (by omega)]
      refine hk x3 ?_
      rw [h0]
      simp
    · have e : (Int.tmod x3 x5).natAbs = x3.natAbs % x5.natAbs := Int.natAbs_tmod x3 x5
      have hlt : x3.natAbs % x5.natAbs < x5.natAbs := Nat.mod_lt _ (by omega)
      refine gcd_l1 r l n i hi d x5 (Int.tmod x3 x5) (by omega) (fun g hg => hk g ?_)
      rw [hg, e, Nat.gcd_comm x5.natAbs, ← Nat.gcd_rec, Nat.gcd_comm]
theorem gcd_l0 (l : List Int) (hl : l.length ≤ 100) (hb : ∀ x ∈ l, x.natAbs ≤ 9223372036854775807) : ∀ d i : Nat, l.length = i + d → ∀ x3 : Int, x3.natAbs ≤ 9223372036854775807 →
    Ev (fun k => cx_gcd.l0 k x3 l l.length i) (((l.drop i).foldl (fun g a => Nat.gcd g a.natAbs) x3.natAbs : Nat) : Int)
  | 0, i, h, x3, hx => by
    refine Ev.step (fun k => by simp only [cx_gcd.l0]; rfl) ?_
    refine Ev.iteF (by omega) ?_
    rw [List.drop_eq_nil_of_le (by omega)]
    refine Ev.some_of ?_
    rw [List.foldl_nil, wr (by omega) (by omega)]
    unfold mx
    split <;> omega
  | d + 1, i, h, x3, hx => by
    refine Ev.step (fun k => by simp only [cx_gcd.l0]; rfl) ?_
    refine Ev.iteT (by omega) (Ev.iteT (by omega) (Ev.iteT (by omega) ?_))
    have e : rd l (i : Int) = l.getD i 0 := rfl
    have hm := hb _ (mem_getD l 0 i (by omega))
    rw [drop_get l 0 i (by omega), List.foldl_cons, e]
    generalize l.getD i 0 = a at hm
    refine gcd_l1 _ l l.length i (by omega) a.natAbs x3 a (Nat.le_refl _) (fun g hg => ?_)
    have hle : g.natAbs ≤ 9223372036854775807 := by
      rw [hg]
      by_cases h0 : x3.natAbs = 0
      · rw [h0, Nat.gcd_zero_left]; exact hm
      · exact Nat.le_trans (Nat.gcd_le_left _ (by omega)) hx
    rw [← hg]
    exact gcd_l0 l hl hb d (i + 1) (by omega) g hle
theorem gcd3_ev {a b c : Int} (ha : a.natAbs ≤ 9223372036854775807) (hb : b.natAbs ≤ 9223372036854775807) (hc : c.natAbs ≤ 9223372036854775807) : Ev (fun k => cx_gcd.f k [a, b, c]) ((Nat.gcd (Nat.gcd a.natAbs b.natAbs) c.natAbs : Nat) : Int) := by
  simp only [cx_gcd.f]
  have := gcd_l0 [a, b, c] (by simp) (by intro x hx; simp at hx; rcases hx with rfl | rfl | rfl <;> assumption) 3 0 (by simp) 0 (by simp)
  simpa using this
def cxOk (a b c : Int) : Bool := decide (1 ≤ c ∧ c ≤ 1000000000 ∧ -1000000000 ≤ a ∧ a ≤ 1000000000 ∧ -1000000000 ≤ b ∧ b ≤ 1000000000 ∧ Nat.gcd (Nat.gcd a.natAbs b.natAbs) c.natAbs = 1)
theorem Check1_eq (x : Int) : cx_Check_1.f x = some (decide (-1000000000 ≤ x ∧ x ≤ 1000000000)) := by
  unfold cx_Check_1.f
  by_cases h : x ≥ -1000000000
  · rw [if_pos h]; congr 1; rw [decide_eq_decide]; omega
  · rw [if_neg h]; congr 1; symm; rw [decide_eq_false_iff_not]; omega
theorem cxCheck_ev (a b c : Int) : Ev (fun k => cx_Check.f k a b c) (if cxOk a b c then 0 else 8) := by
  simp only [cx_Check.f, Check1_eq, Option.bind_some]
  by_cases h : cxOk a b c = true
  · rw [if_pos h]
    simp only [cxOk, decide_eq_true_eq] at h
    obtain ⟨h1, h2, h3, h4, h5, h6, h7⟩ := h
    refine Ev.iteF (by omega) (Ev.iteT (by simp; omega) (Ev.iteT (by simp; omega) (Ev.iteT (by simp; omega) (Ev.bind (gcd3_ev (by omega) (by omega) (by omega)) ?_))))
    rw [h7]
    exact Ev.iteT (by simp) (Ev.now _)
  · rw [if_neg h]
    simp only [cxOk, decide_eq_true_eq] at h
    refine Ev.ite (fun _ => Ev.now _) (fun c1 => Ev.ite (fun c2 => Ev.ite (fun c3 => Ev.ite (fun c4 => ?_) (fun _ => Ev.now _)) (fun _ => Ev.now _)) (fun _ => Ev.now _))
    simp only [decide_eq_true_eq] at c2 c3 c4
    refine Ev.bind (gcd3_ev (by omega) (by omega) (by omega)) (Ev.iteF (fun h7 => h ?_) (Ev.now _))
    exact ⟨by omega, by omega, by omega, by omega, by omega, by omega, by omega⟩
theorem or2_ev (a b : Int) : Ev (fun k => cmp_Or__api_Errno.f k [a, b]) (if a = 0 then b else a) := by
  simp only [cmp_Or__api_Errno.f]
  have e2 : Ev (fun k => cmp_Or__api_Errno.l0 k 0 [a, b] 2 2) 0 := by
    refine Ev.step (fun k => by simp only [cmp_Or__api_Errno.l0]; rfl) ?_
    exact Ev.iteF (by omega) (Ev.now _)
  have e1 : Ev (fun k => cmp_Or__api_Errno.l0 k 0 [a, b] 2 1) b := by
    refine Ev.step (fun k => by simp only [cmp_Or__api_Errno.l0]; rfl) ?_
    have r : rd [a, b] 1 = b := rfl
    rw [r]
    refine Ev.iteT (by omega) (Ev.iteT (by omega) (Ev.iteT (by simp) (Ev.ite (fun h => ?_) (fun _ => Ev.now _))))
    rw [h, show wrap64 (1 + 1) = 2 from wr (by omega) (by omega)]
    subst h
    exact e2
  refine Ev.step (fun k => by simp only [cmp_Or__api_Errno.l0]; rfl) ?_
  have r : rd [a, b] 0 = a := rfl
  rw [r]
  refine Ev.iteT (by simp) (Ev.iteT (by omega) (Ev.iteT (by simp) (Ev.ite (fun h => ?_) (fun h => ?_))))
  · rw [if_pos h, show wrap64 (0 + 1) = 1 from wr (by omega) (by omega)]; exact e1
  · rw [if_neg h]; exact Ev.now _

theorem cxOk_iff {a b c : Int} : cxOk a b c = true ↔ (1 ≤ c ∧ c ≤ 1000000000 ∧ -1000000000 ≤ a ∧ a ≤ 1000000000 ∧ -1000000000 ≤ b ∧ b ≤ 1000000000 ∧ Nat.gcd (Nat.gcd a.natAbs b.natAbs) c.natAbs = 1) := by simp only [cxOk, decide_eq_true_eq]
theorem check2_ev (a b c a' b' c' : Int) : Ev (fun k => cx_check.f k a b c a' b' c') (if cxOk a b c ∧ cxOk a' b' c' then 0 else 8) := by
  simp only [cx_check.f]
  refine Ev.bind (cxCheck_ev a b c) (Ev.bind (cxCheck_ev a' b' c') (Ev.bind (or2_ev _ _) (Ev.some_of ?_)))
  by_cases h : cxOk a b c = true <;> by_cases h' : cxOk a' b' c' = true <;> simp [h, h']
/-! ### the reference's -/
theorem rgcd_l0 : ∀ d : Nat, ∀ x y : Nat, y ≤ d → Ev (fun k => fringeref25_Gcd.l0 k x y) ((Nat.gcd x y : Nat) : Int)
  | 0, x, y, h => by
    refine Ev.step (fun k => by simp only [fringeref25_Gcd.l0]; rfl) ?_
    have h0 : y = 0 := by omega
    subst h0
    exact Ev.iteT rfl (Ev.some_of (by rw [Nat.gcd_zero_right]))
  | d + 1, x, y, h => by
    refine Ev.step (fun k => by simp only [fringeref25_Gcd.l0]; rfl) ?_
    refine Ev.ite (fun h0 => ?_) (fun h0 => ?_)
    · have h0 : y = 0 := by omega
      subst h0
      exact Ev.some_of (by rw [Nat.gcd_zero_right])
    · have e : Int.tmod (x : Int) (y : Int) = ((x % y : Nat) : Int) := Int.ofNat_tmod x y ▸ rfl
      have hlt : x % y < y := Nat.mod_lt _ (by omega)
      have e2 : Nat.gcd x y = Nat.gcd y (x % y) := by rw [Nat.gcd_comm x y, Nat.gcd_rec y x, Nat.gcd_comm]
      rw [e, e2]
      exact rgcd_l0 d y (x % y) (by omega)
theorem mx_abs {x : Int} (h : x.natAbs ≤ 9223372036854775807) : mx x (wrap64 (-x)) = ((x.natAbs : Nat) : Int) := by
  rw [wr (by omega) (by omega)]
  unfold mx
  split <;> omega
theorem rgcd_ev {a b : Int} (ha : a.natAbs ≤ 9223372036854775807) (hb : b.natAbs ≤ 9223372036854775807) : Ev (fun k => fringeref25_Gcd.f k a b) ((Nat.gcd a.natAbs b.natAbs : Nat) : Int) := by
  simp only [fringeref25_Gcd.f, mx_abs ha, mx_abs hb]
  exact rgcd_l0 b.natAbs _ _ (Nat.le_refl _)
theorem rgcd3_ev {a b c : Int} (ha : a.natAbs ≤ 9223372036854775807) (hb : b.natAbs ≤ 9223372036854775807) (hc : c.natAbs ≤ 9223372036854775807) {γ : Type} {F : Nat → Int → Option γ} {r : γ} (h : Ev (fun k => F k ((Nat.gcd (Nat.gcd a.natAbs b.natAbs) c.natAbs : Nat) : Int)) r) :
    Ev (fun k => (fringeref25_Gcd.f k a b).bind fun t => (fringeref25_Gcd.f k t c).bind (F k)) r := by
  have hg : Nat.gcd a.natAbs b.natAbs ≤ 9223372036854775807 := by
    by_cases h0 : a.natAbs = 0
    · rw [h0, Nat.gcd_zero_left]; exact hb
    · exact Nat.le_trans (Nat.gcd_le_left _ (by omega)) ha
  have h2 := rgcd_ev (a := ((Nat.gcd a.natAbs b.natAbs : Nat) : Int)) (b := c) (by rw [Int.natAbs_natCast]; exact hg) hc
  rw [Int.natAbs_natCast] at h2
  exact Ev.bind (rgcd_ev ha hb) (Ev.bind h2 h)
theorem rCheck_ev (a b c : Int) : Ev (fun k => fringeref25_Check.f k a b c) (if cxOk a b c then 0 else 8) := by
  simp only [fringeref25_Check.f]
  by_cases h : cxOk a b c = true
  · rw [if_pos h]
    obtain ⟨h1, h2, h3, h4, h5, h6, h7⟩ := cxOk_iff.1 h
    refine Ev.iteF (by omega) (Ev.iteF (by omega) (Ev.iteF (by omega) (Ev.iteF (by omega) (Ev.iteF (by omega) (Ev.iteF (by omega) (rgcd3_ev (by omega) (by omega) (by omega) ?_))))))
    rw [h7]
    exact Ev.iteT (by simp) (Ev.now _)
  · rw [if_neg h]
    rw [cxOk_iff] at h
    refine Ev.ite (fun _ => Ev.now _) (fun c1 => Ev.ite (fun _ => Ev.now _) (fun c2 => Ev.ite (fun _ => Ev.now _) (fun c3 => Ev.ite (fun _ => Ev.now _) (fun c4 => Ev.ite (fun _ => Ev.now _) (fun c5 => Ev.ite (fun _ => Ev.now _) (fun c6 => ?_))))))
    refine rgcd3_ev (by omega) (by omega) (by omega) (Ev.iteF (fun h7 => h ?_) (Ev.now _))
    exact ⟨by omega, by omega, by omega, by omega, by omega, by omega, by omega⟩
/-! ### reduced -/
def gc (a b c : Int) : Nat := Nat.gcd (Nat.gcd a.natAbs b.natAbs) c.natAbs
def redS (a b c : Int) : Int × Int × Int × Int := if cxOk (Int.tdiv a (gc a b c)) (Int.tdiv b (gc a b c)) (Int.tdiv c (gc a b c)) then (Int.tdiv a (gc a b c), Int.tdiv b (gc a b c), Int.tdiv c (gc a b c), 0) else (0, 0, 0, 16)
theorem gc_pos {a b c : Int} (h : 1 ≤ c) : 0 < gc a b c := Nat.gcd_pos_of_pos_right _ (by omega)
theorem tdiv_bd {a : Int} (n : Nat) (h : a.natAbs ≤ 9223372036854775807) : wrap64 (Int.tdiv a n) = Int.tdiv a n := by
  have h1 : (Int.tdiv a n).natAbs = a.natAbs / n := by rw [Int.natAbs_tdiv, Int.natAbs_natCast]; rfl
  have h2 : a.natAbs / n ≤ a.natAbs := Nat.div_le_self _ _
  rw [wr (by omega) (by omega)]
theorem reduced_ev {a b c : Int} (ha : a.natAbs ≤ 9223372036854775807) (hb : b.natAbs ≤ 9223372036854775807) (hc : c.natAbs ≤ 9223372036854775807) (h1 : 1 ≤ c) : Ev (fun k => cx_reduced.f k a b c) (redS a b c) := by
  simp only [cx_reduced.f]
  refine Ev.bind (gcd3_ev ha hb hc) ?_
  have hp := gc_pos (a := a) (b := b) h1
  simp only [cx_reduced.g]
  rw [if_neg (show ¬ c < 0 by omega)]
  refine Ev.iteF (by unfold gc at hp; omega) ?_
  rw [show ((Nat.gcd (Nat.gcd a.natAbs b.natAbs) c.natAbs : Nat) : Int) = ((gc a b c : Nat) : Int) from rfl, tdiv_bd _ ha, tdiv_bd _ hb, tdiv_bd _ hc]
  refine Ev.bind (cxCheck_ev _ _ _) ?_
  unfold redS
  split
  · exact Ev.iteT rfl (Ev.now _)
  · exact Ev.iteF (by omega) (Ev.now _)
/-! ### products -/
def mulS (a b c a' b' c' : Int) : Int × Int × Int × Int := if cxOk a b c ∧ cxOk a' b' c' then redS (a * a' - b * b') (a * b' + b * a') (c * c') else (0, 0, 0, 8)
theorem prod_bd {a b : Int} (h : -1000000000 ≤ a ∧ a ≤ 1000000000) (h' : -1000000000 ≤ b ∧ b ≤ 1000000000) : -1000000000000000000 ≤ a * b ∧ a * b ≤ 1000000000000000000 := by
  have := mul_bd (A := 1000000000) (B := 1000000000) h h'
  omega
theorem mul_args {a b c a' b' c' : Int} (h : cxOk a b c = true) (h' : cxOk a' b' c' = true) :
    wrap64 (wrap64 (a * a') - wrap64 (b * b')) = a * a' - b * b' ∧ wrap64 (wrap64 (a * b') + wrap64 (b * a')) = a * b' + b * a' ∧ wrap64 (c * c') = c * c' ∧
    (a * a' - b * b').natAbs ≤ 9223372036854775807 ∧ (a * b' + b * a').natAbs ≤ 9223372036854775807 ∧ (c * c').natAbs ≤ 9223372036854775807 ∧ 1 ≤ c * c' := by
  obtain ⟨h1, h2, h3, h4, h5, h6, _⟩ := cxOk_iff.1 h
  obtain ⟨g1, g2, g3, g4, g5, g6, _⟩ := cxOk_iff.1 h'
  have p1 := prod_bd ⟨h3, h4⟩ ⟨g3, g4⟩
  have p2 := prod_bd ⟨h5, h6⟩ ⟨g5, g6⟩
  have p3 := prod_bd ⟨h3, h4⟩ ⟨g5, g6⟩
  have p4 := prod_bd ⟨h5, h6⟩ ⟨g3, g4⟩
  have p5 := prod_bd (a := c) (b := c') (by omega) (by omega)
  have p6 : 1 ≤ c * c' := by
    have := Int.mul_pos (a := c) (b := c') (by omega) (by omega)
    omega
  rw [wr (x := a * a') (by omega) (by omega), wr (x := b * b') (by omega) (by omega), wr (x := a * b') (by omega) (by omega), wr (x := b * a') (by omega) (by omega), wr (x := c * c') (by omega) (by omega), wr (x := a * a' - b * b') (by omega) (by omega), wr (x := a * b' + b * a') (by omega) (by omega)]
  exact ⟨rfl, rfl, rfl, by omega, by omega, by omega, p6⟩
theorem cxMul_ev (a b c a' b' c' : Int) : Ev (fun k => cx_Mul.f k a b c a' b' c') (mulS a b c a' b' c') := by
  simp only [cx_Mul.f]
  refine Ev.bind (check2_ev a b c a' b' c') ?_
  unfold mulS
  by_cases h : cxOk a b c = true ∧ cxOk a' b' c' = true
  · rw [if_pos h, if_pos h]
    obtain ⟨e1, e2, e3, e4, e5, e6, e7⟩ := mul_args h.1 h.2
    rw [e1, e2, e3]
    exact Ev.iteT rfl (Ev.bind (reduced_ev e4 e5 e6 e7) (Ev.now _))
  · rw [if_neg h, if_neg h]; exact Ev.iteF (by omega) (Ev.now _)
theorem times_ev (a b c a' b' c' : Int) : Ev (fun k => gain_times.f k a b c a' b' c') (mulS a b c a' (wrap64 (-b')) c') := by
  simp only [gain_times.f]
  exact Ev.bind (cxMul_ev _ _ _ _ _ _) (Ev.now _)
/-! ### a gain of stations -/
def gOk (x : S36) : Bool := cxOk x.f0 x.f1 x.f2 && !(decide (x.f0 = 0) && (x.f1 == 0))
def gChk (l : List S36) : Int := if l.length > 8 then 4 else if l.length = 0 then 8 else if l.all gOk then 0 else 8
theorem any_ev {p : Nat → S36 → Option Bool} {q : S36 → Bool} (h : ∀ x, Ev (fun k => p k x) (q x)) : ∀ (l : List S36) (i : Int), 0 ≤ i → ∀ r : Bool, r = l.any q → Ev (fun k => (fnCx.idx (p k) l i).bind fun r => some (decide (r ≥ 0))) r
  | [], i, hi, r, hr => by
    subst hr
    simp only [fnCx.idx]
    exact Ev.now _
  | x :: t, i, hi, r, hr => by
    simp only [fnCx.idx, Option.bind_assoc]
    refine Ev.bind (h x) ?_
    rw [List.any_cons] at hr
    by_cases c : q x = true
    · rw [c, Bool.true_or] at hr
      rw [c, hr]
      refine Ev.some_of ?_
      simp [hi]
    · have c' : q x = false := by simpa using c
      rw [c', Bool.false_or] at hr
      rw [c']
      exact any_ev h t (i + 1) (by omega) r hr
theorem gain_Check_ev (l : List S36) : Ev (fun k => gain_Check.f k l) (gChk l) := by
  simp only [gain_Check.f]
  unfold gChk
  refine Ev.ite (fun h => ?_) (fun h => ?_)
  · rw [if_pos h]; exact Ev.now _
  · rw [if_neg h]
    refine Ev.ite (fun h0 => ?_) (fun h0 => ?_)
    · rw [if_pos h0]; exact Ev.now _
    · rw [if_neg h0]
      have h1 := any_ev (p := fun k x => gain_Check_1.f k x.f0 x.f1 x.f2) (q := fun x => !gOk x) (fun x => by
        simp only [gain_Check_1.f]
        refine Ev.bind (cxCheck_ev _ _ _) ?_
        unfold gOk
        by_cases c : cxOk x.f0 x.f1 x.f2 = true
        · rw [if_pos c]
          refine Ev.iteT rfl ?_
          simp only [gain_zero.f]
          by_cases c0 : x.f0 = 0
          · rw [if_pos c0]; exact Ev.some_of (by simp only [c, Bool.true_and, decide_eq_true c0, Bool.not_not])
          · rw [if_neg c0]; exact Ev.some_of (by simp [c, c0])
        · rw [if_neg c]
          exact Ev.iteF (by omega) (Ev.some_of (by simp [c]))) l 0 (by omega) _ rfl
      simp only [fnCx.any, if_pos (show l.length < 9223372036854775807 by omega)]
      refine Ev.bind h1 ?_
      have e : l.any (fun x => !gOk x) = !(l.all gOk) := by rw [List.not_all_eq_any_not]
      rw [e]
      by_cases c : l.all gOk = true
      · rw [if_pos c, c]; exact Ev.now _
      · have c' : l.all gOk = false := by simpa using c
        rw [if_neg c, c']; exact Ev.now _
theorem rgChk_l0 (l : List S36) (hl : l.length ≤ 1000) : ∀ d i : Nat, l.length = i + d → Ev (fun k => fringeref26_Check.l0 k l i) (if (l.drop i).all gOk then 0 else 8)
  | 0, i, h => by
    refine Ev.step (fun k => by simp only [fringeref26_Check.l0]; rfl) ?_
    rw [List.drop_eq_nil_of_le (by omega)]
    exact Ev.iteF (by omega) (Ev.now _)
  | d + 1, i, h => by
    refine Ev.step (fun k => by simp only [fringeref26_Check.l0]; rfl) ?_
    refine Ev.iteT (by omega) (Ev.iteT (by omega) ?_)
    have e : rd_T36 l (i : Int) = l.getD i z36 := rfl
    rw [drop_get l z36 i (by omega), List.all_cons, e, wr1 i (by omega)]
    have ih := rgChk_l0 l hl d (i + 1) (by omega)
    generalize l.getD i z36 = x
    refine Ev.bind (rCheck_ev _ _ _) ?_
    unfold gOk
    by_cases c : cxOk x.f0 x.f1 x.f2 = true
    · rw [if_pos c]
      refine Ev.iteT rfl ?_
      simp only [fringeref25_Zero.f]
      by_cases c0 : x.f0 = 0
      · rw [if_pos c0]
        by_cases c1 : x.f1 = 0
        · have e2 : (cxOk x.f0 x.f1 x.f2 && !(decide (x.f0 = 0) && (x.f1 == 0))) = false := by simp [c0, c1]
          rw [e2, c1]
          exact Ev.bind_some (Ev.iteT (by simp) (Ev.some_of (by simp)))
        · have e2 : (cxOk x.f0 x.f1 x.f2 && !(decide (x.f0 = 0) && (x.f1 == 0))) = true := by simp [c, c1]
          rw [e2, Bool.true_and]
          exact Ev.bind_some (Ev.iteF (by simp [c1]) ih)
      · rw [if_neg c0]
        have e2 : (cxOk x.f0 x.f1 x.f2 && !(decide (x.f0 = 0) && (x.f1 == 0))) = true := by simp [c, c0]
        rw [e2, Bool.true_and]
        exact Ev.bind_some (Ev.iteF (by simp) ih)
    · rw [if_neg c]
      exact Ev.iteF (by omega) (Ev.some_of (by simp [c]))
theorem rgChk_ev (l : List S36) : Ev (fun k => fringeref26_Check.f k l) (gChk l) := by
  simp only [fringeref26_Check.f]
  unfold gChk
  refine Ev.ite (fun h => ?_) (fun h => ?_)
  · rw [if_pos (by omega)]; exact Ev.now _
  · rw [if_neg (by omega)]
    refine Ev.ite (fun h0 => ?_) (fun h0 => ?_)
    · rw [if_pos (by omega)]; exact Ev.now _
    · rw [if_neg (by omega)]
      have := rgChk_l0 l (by omega) l.length 0 (by omega)
      rw [List.drop_zero] at this
      exact this
/-! ### the same -/
theorem gsame_l0 (m : List S38) (hm : m.length ≤ 100000) : ∀ d i : Nat, m.length = i + d → Ev (fun k => fringeref26_Same.l0 k m m i) true
  | 0, i, h => by
    refine Ev.step (fun k => by simp only [fringeref26_Same.l0]; rfl) ?_
    exact Ev.iteF (by omega) (Ev.now _)
  | d + 1, i, h => by
    refine Ev.step (fun k => by simp only [fringeref26_Same.l0]; rfl) ?_
    refine Ev.iteT (by omega) (Ev.iteT (by omega) (Ev.iteT (by omega) (Ev.iteF (by simp) ?_)))
    rw [wr1 i (by omega)]
    exact gsame_l0 m hm d (i + 1) (by omega)
theorem gsame_ev (m : List S38) (hm : m.length ≤ 100000) : Ev (fun k => fringeref26_Same.f k m m) true := by
  simp only [fringeref26_Same.f]
  exact Ev.iteT (by simp) (gsame_l0 m hm m.length 0 (by omega))
end Go.Proofs.Ytnlaklkneaaakaa.Pure
