/- The plain statement of the law GainRefer. -/
import Derived.Test.YtnlaklkneaaakaaQ26
import Derived.Test.YtnlaklkneaaakaaQ24
import Derived.Test.YtnlaklkneaaakaaQ25
import Derived.Test.YtnlaklkneaaakaaQT
import Derived.Test.YtnlaklkneaaakaaGainB
import Derived.Test.YtnlaklkneaaakaaGainR
import Derived.KernelRfl
namespace Go.Proofs.Ytnlaklkneaaakaa.Pure
open Go.RowKit Go.Proofs.YtnlaklkneaaakaaW.PrintWords Go.Proofs.YtnlaklkneaaakaaW.PrintLast Go.Proofs.YtnlaklkneaaakaaW.PrintMore Go.Proofs.Ytnlaklkneaaakaa.Open Go.Proofs.Ytnlaklkneaaakaa.Q Go.Proofs.Ytnlaklkneaaakaa.Aid
theorem alive_ev : Ev (fun k => fringelaw26_alive.f k) true := Ev.of (fun k => fringelaw26_alive.mono k) (k := 120) (by kernel_rfl)
theorem ok_ne {a b c : Int} (h : cxOk a b c = true) : c ≠ 0 := by have := (cxOk_iff.1 h).1; omega
theorem neg_wr {a b c : Int} (h : cxOk a b c = true) : wrap64 (-b) = -b := by
  have := cxOk_iff.1 h
  exact wr (by omega) (by omega)
theorem g_ok {g : List S36} (h : gChk g = 0) {j : Nat} (hj : j < g.length) : gOk (g.getD j z36) = true := (gChk_ok h).2.2 _ (mem_getD g z36 j hj)
/-! ### referred to a station -/
theorem ray_eq {x y x' y' m n : Int} (hm : 0 < m) (hn : 0 < n) (h1 : x' * m = x * n) (h2 : y' * m = y * n) (h0 : ¬ (x = 0 ∧ y = 0)) :
    Int.tdiv x ((Nat.gcd x.natAbs y.natAbs : Nat) : Int) = Int.tdiv x' ((Nat.gcd x'.natAbs y'.natAbs : Nat) : Int) ∧ Int.tdiv y ((Nat.gcd x.natAbs y.natAbs : Nat) : Int) = Int.tdiv y' ((Nat.gcd x'.natAbs y'.natAbs : Nat) : Int) := by
  have g : ((Nat.gcd x'.natAbs y'.natAbs : Nat) : Int) * m = ((Nat.gcd x.natAbs y.natAbs : Nat) : Int) * n := by
    have e : Nat.gcd x'.natAbs y'.natAbs * m.natAbs = Nat.gcd x.natAbs y.natAbs * n.natAbs := by
      rw [← Nat.gcd_mul_right, ← Nat.gcd_mul_right, ← Int.natAbs_mul, ← Int.natAbs_mul, ← Int.natAbs_mul, ← Int.natAbs_mul, h1, h2]
    have e1 : ((m.natAbs : Nat) : Int) = m := by omega
    have e2 : ((n.natAbs : Nat) : Int) = n := by omega
    rw [← e1, ← e2, ← Int.natCast_mul, ← Int.natCast_mul, e]
  have hp : 0 < Nat.gcd x.natAbs y.natAbs := by
    rcases Nat.eq_zero_or_pos (Nat.gcd x.natAbs y.natAbs) with c | c
    · have := Nat.gcd_eq_zero_iff.1 c
      omega
    · exact c
  have d1 := Int.mul_tdiv_cancel' (show ((Nat.gcd x.natAbs y.natAbs : Nat) : Int) ∣ x from Int.ofNat_dvd_left.2 (Nat.gcd_dvd_left _ _))
  have d2 := Int.mul_tdiv_cancel' (show ((Nat.gcd x.natAbs y.natAbs : Nat) : Int) ∣ y from Int.ofNat_dvd_left.2 (Nat.gcd_dvd_right _ _))
  have d3 := Int.mul_tdiv_cancel' (show ((Nat.gcd x'.natAbs y'.natAbs : Nat) : Int) ∣ x' from Int.ofNat_dvd_left.2 (Nat.gcd_dvd_left _ _))
  have d4 := Int.mul_tdiv_cancel' (show ((Nat.gcd x'.natAbs y'.natAbs : Nat) : Int) ∣ y' from Int.ofNat_dvd_left.2 (Nat.gcd_dvd_right _ _))
  have hp2 : ((Nat.gcd x.natAbs y.natAbs : Nat) : Int) * n ≠ 0 := Int.mul_ne_zero (by omega) (by omega)
  generalize Int.tdiv x ((Nat.gcd x.natAbs y.natAbs : Nat) : Int) = u at *
  generalize Int.tdiv y ((Nat.gcd x.natAbs y.natAbs : Nat) : Int) = v at *
  generalize Int.tdiv x' ((Nat.gcd x'.natAbs y'.natAbs : Nat) : Int) = u' at *
  generalize Int.tdiv y' ((Nat.gcd x'.natAbs y'.natAbs : Nat) : Int) = v' at *
  generalize ((Nat.gcd x.natAbs y.natAbs : Nat) : Int) = G at *
  generalize ((Nat.gcd x'.natAbs y'.natAbs : Nat) : Int) = G' at *
  rw [← d3, ← d1, Int.mul_right_comm, g, Int.mul_right_comm G u] at h1
  rw [← d4, ← d2, Int.mul_right_comm, g, Int.mul_right_comm G v] at h2
  exact ⟨(Int.eq_of_mul_eq_mul_left hp2 h1).symm, (Int.eq_of_mul_eq_mul_left hp2 h2).symm⟩
theorem rq1 (a b d e : Int) : (a * d + b * e) * d - (b * d - a * e) * e = a * (d * d + e * e) := by grind
theorem rq2 (a b d e : Int) : (a * d + b * e) * e + (b * d - a * e) * d = b * (d * d + e * e) := by grind
def timT (x y : S36) : S36 × Int := mulT x ⟨y.f0, wrap64 (-y.f1), y.f2⟩
def ReferS (g : List S36) (st : Int) : List S36 × Int := if gChk g = 0 then (if st < 0 then ([], 2) else if st ≥ g.length then ([], 2) else goC (fun _ x => timT x (rd_T36 g st)) g 0 []) else ([], gChk g)
theorem refer_one_ev (g : List S36) (st : Nat) (x : S36) (h : st < g.length) : Ev (fun k => refer_one k g st x) (timT x (rd_T36 g st)) := by
  simp only [refer_one]
  exact Ev.iteT h (Ev.bind (times_ev _ _ _ _ _ _) (Ev.now _))
theorem gain_Refer_ev (g : List S36) (st : Int) : Ev (fun k => gain_Refer.f k g st) (ReferS g st) := by
  simp only [gain_Refer.f]
  refine Ev.bind (gain_Check_ev g) ?_
  unfold ReferS
  by_cases c : gChk g = 0
  · have := (gChk_ok c).1
    rw [if_pos c]
    refine Ev.iteT c (Ev.ite (fun c1 => ?_) (fun c1 => Ev.ite (fun c2 => ?_) (fun c2 => ?_)))
    · rw [if_pos c1]; exact Ev.now _
    · rw [if_neg c1, if_pos c2]; exact Ev.now _
    · rw [if_neg c1, if_neg c2]
      have e : ((st.toNat : Nat) : Int) = st := by omega
      have k := goC_ev (p := fun k _ x => refer_one k g st.toNat x) (one := fun _ x => timT x (rd_T36 g (st.toNat : Nat))) (N := g.length) (fun i x _ => refer_one_ev g st.toNat x (by omega)) g 0 [] (by omega) (by simp; omega)
      rw [e] at k
      exact Ev.iteT (by omega) k
  · rw [if_neg c]; exact Ev.iteF c (Ev.now _)
theorem tim_ok {x y z : S36} (hy : gOk y = true) (h : timT x y = (z, 0)) : cxOk x.f0 x.f1 x.f2 = true ∧ cxOk z.f0 z.f1 z.f2 = true ∧ (x.f0 * y.f0 + x.f1 * y.f1) * z.f2 = z.f0 * (x.f2 * y.f2) ∧ (x.f1 * y.f0 - x.f0 * y.f1) * z.f2 = z.f1 * (x.f2 * y.f2) := by
  unfold timT at h
  rw [neg_wr (gOk_iff.1 hy).1] at h
  obtain ⟨h1, _, h3, h4, h5⟩ := mul_ok (mulT_ok h)
  refine ⟨h1, h3, ?_, ?_⟩
  · rw [← h4, Int.mul_neg, Int.sub_neg]
  · rw [← h5, Int.mul_neg, Int.add_comm, ← Int.sub_eq_add_neg]
theorem tim_gOk {x y z : S36} (hx : gOk x = true) (hy : gOk y = true) (h : timT x y = (z, 0)) : gOk z = true := by
  obtain ⟨h1, h2, h3, h4⟩ := tim_ok hy h
  refine gOk_iff.2 ⟨h2, ?_⟩
  rintro ⟨z0, z1⟩
  rw [z0, Int.zero_mul] at h3
  rw [z1, Int.zero_mul] at h4
  have hz := ok_ne h2
  have e1 : x.f0 * y.f0 + x.f1 * y.f1 = 0 := (Int.mul_eq_zero.1 h3).resolve_right hz
  have e2 : x.f1 * y.f0 - x.f0 * y.f1 = 0 := (Int.mul_eq_zero.1 h4).resolve_right hz
  have r1 := rq1 x.f0 x.f1 y.f0 y.f1
  have r2 := rq2 x.f0 x.f1 y.f0 y.f1
  rw [e1, e2, Int.zero_mul, Int.zero_mul, Int.sub_self] at r1
  rw [e1, e2, Int.zero_mul, Int.zero_mul, Int.add_zero] at r2
  have hn := sq_pos (gOk_iff.1 hy).2
  exact (gOk_iff.1 hx).2 ⟨(Int.mul_eq_zero.1 r1.symm).resolve_right hn, (Int.mul_eq_zero.1 r2.symm).resolve_right hn⟩
theorem rq3 (a b d e : Int) : d * (a * d + b * e) - e * (b * d - a * e) = a * (d * d + e * e) := by grind
theorem rq4 (a b d e : Int) : d * (b * d - a * e) + e * (a * d + b * e) = b * (d * d + e * e) := by grind
theorem rq5 (a b d e : Int) : a * (d * d + e * e) - b * (e * d - d * e) = a * (d * d + e * e) := by grind
theorem rq6 (a b d e : Int) : a * (e * d - d * e) + b * (d * d + e * e) = b * (d * d + e * e) := by grind
/-- The two products of the law. -/
theorem refer_same {G S R R' P Q : S36} (hS : gOk S = true) (h1 : timT G S = (R, 0)) (h2 : timT S S = (R', 0)) (p : mulT R S = (P, 0)) (q : mulT R' G = (Q, 0)) : P = Q := by
  obtain ⟨a1, a2, a3, a4⟩ := tim_ok hS h1
  obtain ⟨b1, b2, b3, b4⟩ := tim_ok hS h2
  obtain ⟨_, _, p3, p4, p5⟩ := mul_ok (mulT_ok p)
  obtain ⟨_, _, q3, q4, q5⟩ := mul_ok (mulT_ok q)
  rw [Int.mul_comm R.f0, Int.mul_comm R.f1, Int.mul_comm R.f2] at p4
  rw [Int.mul_comm R.f0, Int.mul_comm R.f1, Int.mul_comm R.f2, Int.add_comm] at p5
  rw [Int.mul_comm R'.f0, Int.mul_comm R'.f1, Int.mul_comm R'.f2] at q4
  rw [Int.mul_comm R'.f0, Int.mul_comm R'.f1, Int.mul_comm R'.f2, Int.add_comm] at q5
  have s1 := step1 (ok_ne a2) a3 a4 p4
  have s2 := step2 (ok_ne a2) a3 a4 p5
  have s3 := step1 (ok_ne b2) b3 b4 q4
  have s4 := step2 (ok_ne b2) b3 b4 q5
  rw [rq3, ring18 G.f2 S.f2 S.f2] at s1
  rw [rq4, ring18 G.f2 S.f2 S.f2] at s2
  rw [rq5] at s3
  rw [rq6] at s4
  have hm : G.f2 * (S.f2 * S.f2) ≠ 0 := Int.mul_ne_zero (ok_ne a1) (Int.mul_ne_zero (ok_ne b1) (ok_ne b1))
  obtain ⟨r1, r2, r3⟩ := ok_uniq p3 q3 (same_of hm s1 s3) (same_of hm s2 s4)
  exact eqS_iff.1 (by unfold eqS; simp [r1, r2, r3])
/-- The station's own gain is positive. -/
theorem own_pos {S R : S36} (hS : gOk S = true) (h : timT S S = (R, 0)) : R.f1 = 0 ∧ 0 < R.f0 := by
  obtain ⟨b1, b2, b3, b4⟩ := tim_ok hS h
  have hf := (cxOk_iff.1 b1).1
  have hr := (cxOk_iff.1 b2).1
  have hff := Int.mul_pos (show 0 < S.f2 by omega) (show 0 < S.f2 by omega)
  constructor
  · rw [Int.mul_comm S.f1 S.f0, Int.sub_self, Int.zero_mul] at b4
    exact (Int.mul_eq_zero.1 b4.symm).resolve_right (by omega)
  · have hn := sq_pos (gOk_iff.1 hS).2
    have h1 : 0 ≤ S.f0 * S.f0 := by rw [← Int.natAbs_mul_self]; omega
    have h2 : 0 ≤ S.f1 * S.f1 := by rw [← Int.natAbs_mul_self]; omega
    have h3 := Int.mul_pos (show 0 < S.f0 * S.f0 + S.f1 * S.f1 by omega) (show 0 < R.f2 by omega)
    rw [b3] at h3
    rcases Int.lt_or_le 0 R.f0 with k | k
    · exact k
    · have := Int.mul_nonpos_of_nonpos_of_nonneg k (show 0 ≤ S.f2 * S.f2 by omega)
      omega
/-- Referring once more changes no ray. -/
theorem twice_ray {R T Z : S36} (hR : gOk R = true) (hT : gOk T = true) (t1 : T.f1 = 0) (t0 : 0 < T.f0) (h : timT R T = (Z, 0)) :
    Int.tdiv R.f0 ((Nat.gcd R.f0.natAbs R.f1.natAbs : Nat) : Int) = Int.tdiv Z.f0 ((Nat.gcd Z.f0.natAbs Z.f1.natAbs : Nat) : Int) ∧ Int.tdiv R.f1 ((Nat.gcd R.f0.natAbs R.f1.natAbs : Nat) : Int) = Int.tdiv Z.f1 ((Nat.gcd Z.f0.natAbs Z.f1.natAbs : Nat) : Int) := by
  obtain ⟨h1, h2, h3, h4⟩ := tim_ok hT h
  rw [t1, Int.mul_zero, Int.add_zero, Int.mul_assoc] at h3
  rw [t1, Int.mul_zero, Int.sub_zero, Int.mul_assoc] at h4
  have r := (cxOk_iff.1 h1).1
  have t := (cxOk_iff.1 (gOk_iff.1 hT).1).1
  have z := (cxOk_iff.1 h2).1
  exact ray_eq (m := R.f2 * T.f2) (n := T.f0 * Z.f2) (Int.mul_pos (by omega) (by omega)) (Int.mul_pos t0 (by omega)) h3.symm h4.symm (gOk_iff.1 hR).2
theorem refer_to {g : List S36} {st : Int} (hg : gChk g = 0) (h0 : 0 ≤ st) (h1 : st < g.length) (h : (ReferS g st).2 = 0) : (ReferS g st).1.length = g.length ∧ ∀ j, j < g.length → timT (g.getD j z36) (rd_T36 g st) = ((ReferS g st).1.getD j z36, 0) := by
  have e : ReferS g st = goC (fun _ x => timT x (rd_T36 g st)) g 0 [] := by unfold ReferS; rw [if_pos hg, if_neg (by omega), if_neg (by omega)]
  obtain ⟨t1, _, t3⟩ := goC_ok (fun _ x => timT x (rd_T36 g st)) g 0 [] (ReferS g st).1 (by rw [← e]; exact Prod.ext rfl h)
  rw [List.length_nil, Nat.zero_add] at t1
  refine ⟨t1, fun j hj => ?_⟩
  have := t3 j hj
  rw [List.length_nil, Nat.zero_add] at this
  exact this
theorem refer_err {g : List S36} {st : Int} (hg : gChk g = 0) (h0 : 0 ≤ st) (h1 : st < g.length) (h : ¬ (ReferS g st).2 = 0) : (ReferS g st).2 = 16 := by
  have e : ReferS g st = goC (fun _ x => timT x (rd_T36 g st)) g 0 [] := by unfold ReferS; rw [if_pos hg, if_neg (by omega), if_neg (by omega)]
  rw [e] at h ⊢
  rcases goC_err (fun _ x => timT x (rd_T36 g st)) g 0 [] with k | k
  · exact absurd k h
  · exact k
theorem gChk_of {r : List S36} (h1 : r.length ≤ 8) (h2 : 0 < r.length) (h : ∀ j, j < r.length → gOk (r.getD j z36) = true) : gChk r = 0 := by
  unfold gChk
  rw [if_neg (by omega), if_neg (by omega), if_pos]
  refine List.all_eq_true.2 (fun x hx => ?_)
  obtain ⟨j, hj, rfl⟩ := List.mem_iff_getElem.1 hx
  have := h j hj
  rw [List.getD_eq_getElem?_getD, List.getElem?_eq_getElem hj] at this
  exact this
theorem zero_ev (a b c : Int) : Ev (fun _ => fringeref25_Zero.f a b c) (decide (a = 0) && (b == 0)) := by
  simp only [fringeref25_Zero.f]
  by_cases h : a = 0
  · rw [if_pos h]; exact Ev.some_of (by simp [h])
  · rw [if_neg h]; exact Ev.some_of (by simp [h])
theorem ray_ev {z : S36} (h : gOk z = true) : Ev (fun k => fringeref25_Ray.f k z.f0 z.f1 z.f2) (Int.tdiv z.f0 ((Nat.gcd z.f0.natAbs z.f1.natAbs : Nat) : Int), Int.tdiv z.f1 ((Nat.gcd z.f0.natAbs z.f1.natAbs : Nat) : Int), 1, 0) := by
  obtain ⟨h1, h2⟩ := gOk_iff.1 h
  obtain ⟨_, _, b1, b2, b3, b4, _⟩ := cxOk_iff.1 h1
  simp only [fringeref25_Ray.f]
  refine Ev.bind (rCheck_ev _ _ _) ?_
  rw [if_pos h1]
  refine Ev.iteT rfl (Ev.bind (zero_ev _ _ _) (Ev.iteF ?_ (Ev.bind (rgcd_ev (by omega) (by omega)) (Ev.iteF ?_ ?_))))
  · simp only [Bool.and_eq_true, decide_eq_true_eq, beq_iff_eq]
    exact h2
  · intro c
    have c2 : Nat.gcd z.f0.natAbs z.f1.natAbs = 0 := by omega
    have := Nat.gcd_eq_zero_iff.1 c2
    omega
  · rw [tdiv_bd _ (by omega), tdiv_bd _ (by omega)]
    exact Ev.now _
theorem rl1 (g r s : List S36) (hg : g.length ≤ 8) (hr : r.length = g.length) (hs : s.length = g.length) (h : ∀ j, j < g.length → gOk (r.getD j z36) = true ∧ gOk (s.getD j z36) = true ∧
    Int.tdiv (r.getD j z36).f0 ((Nat.gcd (r.getD j z36).f0.natAbs (r.getD j z36).f1.natAbs : Nat) : Int) = Int.tdiv (s.getD j z36).f0 ((Nat.gcd (s.getD j z36).f0.natAbs (s.getD j z36).f1.natAbs : Nat) : Int) ∧ Int.tdiv (r.getD j z36).f1 ((Nat.gcd (r.getD j z36).f0.natAbs (r.getD j z36).f1.natAbs : Nat) : Int) = Int.tdiv (s.getD j z36).f1 ((Nat.gcd (s.getD j z36).f0.natAbs (s.getD j z36).f1.natAbs : Nat) : Int)) :
    ∀ d i : Nat, g.length = i + d → Ev (fun k => fringelaw26_GainRefer.l1 k g true r s i) true
  | 0, i, hi => by
    refine Ev.step (fun k => by simp only [fringelaw26_GainRefer.l1]; rfl) ?_
    refine Ev.iteF (by omega) (Ev.step (fun k => by simp only [fringelaw26_GainRefer.j4]; rfl) ?_)
    refine Ev.iteF (by simp) (Ev.iteT trivial (Ev.some_of ?_))
    rw [hs]
    exact beq_self_eq_true _
  | d + 1, i, hi => by
    refine Ev.step (fun k => by simp only [fringelaw26_GainRefer.l1]; rfl) ?_
    refine Ev.iteT (by omega) (Ev.step (fun k => by simp only [fringelaw26_GainRefer.j4]; rfl) ?_)
    have ih := rl1 g r s hg hr hs h d (i + 1) (by omega)
    obtain ⟨o1, o2, e1, e2⟩ := h i (by omega)
    rw [show rd_T36 r (i : Int) = r.getD i z36 from rfl, show rd_T36 s (i : Int) = s.getD i z36 from rfl, wr1 i (by omega)]
    generalize r.getD i z36 = R at *
    generalize s.getD i z36 = S at *
    refine Ev.iteT (decide_eq_true (by omega)) (Ev.iteT (by omega) (Ev.iteT (by omega) (Ev.bind (ray_ev o1) (Ev.iteT (by omega) (Ev.bind (ray_ev o2) (Ev.iteT rfl (Ev.iteT rfl (Ev.iteF ?_ ih))))))))
    rw [e1, e2]
    simp
theorem rl0 (g : List S36) (st : Int) (hg : gChk g = 0) (h0 : 0 ≤ st) (h1 : st < g.length) (c : (ReferS g st).2 = 0) (hr : gChk (ReferS g st).1 = 0) :
    ∀ d i : Nat, g.length = i + d → Ev (fun k => fringelaw26_GainRefer.l0 k g st true (ReferS g st).1 i) true := by
  obtain ⟨hl, key⟩ := refer_to hg h0 h1 c
  have hlen := (gChk_ok hg).1
  have e0 : rd_T36 g st = g.getD st.toNat z36 := rfl
  have oS : gOk (rd_T36 g st) = true := g_ok hg (by omega)
  have kS := key st.toNat (by omega)
  rw [← e0] at kS
  intro d
  induction d with
  | zero =>
    intro i hi
    refine Ev.step (fun k => by simp only [fringelaw26_GainRefer.l0]; rfl) ?_
    refine Ev.iteF (by omega) (Ev.bind (gain_Refer_ev _ st) (Ev.ite (fun c2 => ?_) (fun _ => Ev.now _)))
    obtain ⟨hl2, key2⟩ := refer_to hr h0 (by omega) c2
    refine rl1 g _ _ hlen hl (by omega) (fun j hj => ?_) g.length 0 (by omega)
    have oR := g_ok hr (j := j) (by omega)
    have k2 := key2 j (by omega)
    have oT : gOk (rd_T36 (ReferS g st).1 st) = true := g_ok hr (by omega)
    obtain ⟨t1, t0⟩ := own_pos oS kS
    exact ⟨oR, tim_gOk oR oT k2, twice_ray oR oT t1 t0 k2⟩
  | succ d ih =>
    intro i hi
    refine Ev.step (fun k => by simp only [fringelaw26_GainRefer.l0]; rfl) ?_
    have ih' := ih (i + 1) (by omega)
    have ki := key i (by omega)
    rw [show rd_T36 g (i : Int) = g.getD i z36 from rfl, show rd_T36 (ReferS g st).1 (i : Int) = (ReferS g st).1.getD i z36 from rfl, wr1 i (by omega)]
    have kS' : timT (rd_T36 g st) (rd_T36 g st) = (rd_T36 (ReferS g st).1 st, 0) := kS
    refine Ev.iteT (by omega) (Ev.iteT (by omega) (Ev.iteT (by omega) (Ev.iteT (by omega) (Ev.iteT (by omega) (Ev.bind (rMul_ev _ _ _ _ _ _) (Ev.iteT (by omega) (Ev.bind (rMul_ev _ _ _ _ _ _) (Ev.ite (fun c1 => Ev.ite (fun c2 => Ev.iteF ?_ ih') (fun _ => ih')) (fun _ => ih')))))))))
    have e := refer_same oS ki kS' (P := (mulT _ _).1) (Q := (mulT _ _).1) (Prod.ext rfl c1) (Prod.ext rfl c2)
    have f0 := congrArg S36.f0 e
    have f1 := congrArg S36.f1 e
    have f2 := congrArg S36.f2 e
    simp only [mulT] at f0 f1 f2
    rw [f0, f1, f2]
    simp
theorem GainRefer : ∀ (l0 : List (S36)) (a1 : Int), GL36 l0 → (Lit.int .i64 a1).wf = true → ∃ k, fringelaw26_GainRefer.f k l0 a1 = some true := by
  intro g st _ _
  refine Ev.rounds ?_
  have skip : Ev (fun k => fringelaw26_GainRefer.j0 k g st true true) true := by
    refine Ev.step (fun k => by simp only [fringelaw26_GainRefer.j0]; rfl) ?_
    exact Ev.iteT trivial (Ev.now _)
  simp only [fringelaw26_GainRefer.f]
  refine Ev.bind alive_ev (Ev.bind (rgChk_ev g) (Ev.ite (fun c => Ev.ite (fun _ => skip) (fun c1 => Ev.ite (fun _ => skip) (fun c2 => ?_))) (fun _ => skip)))
  refine Ev.step (fun k => by simp only [fringelaw26_GainRefer.j0]; rfl) ?_
  refine Ev.iteF (by simp) (Ev.bind (gain_Refer_ev g st) (Ev.ite (fun c3 => ?_) (fun c3 => Ev.iteT trivial (Ev.some_of ?_))))
  · obtain ⟨hl, key⟩ := refer_to c (by omega) (by omega) c3
    have hlen := gChk_ok c
    have oS : gOk (rd_T36 g st) = true := g_ok c (j := st.toNat) (by omega)
    have hr : gChk (ReferS g st).1 = 0 := gChk_of (by omega) (by omega) (fun j hj => tim_gOk (g_ok c (j := j) (by omega)) oS (key j (by omega)))
    obtain ⟨t1, t0⟩ := own_pos oS (key st.toNat (by omega))
    refine Ev.bind (rgChk_ev _) (Ev.iteT hr (Ev.iteT (by omega) (Ev.iteT (by omega) (Ev.iteT (by omega) (Ev.iteT t1 ?_)))))
    refine Ev.step (fun k => by simp only [fringelaw26_GainRefer.j1]; rfl) ?_
    refine Ev.iteF ?_ (rl0 g st c (by omega) (by omega) c3 hr g.length 0 (by omega))
    simp only [decide_eq_true_eq]
    exact Int.not_le.2 t0
  · rw [refer_err c (by omega) (by omega) c3]; rfl
end Go.Proofs.Ytnlaklkneaaakaa.Pure
