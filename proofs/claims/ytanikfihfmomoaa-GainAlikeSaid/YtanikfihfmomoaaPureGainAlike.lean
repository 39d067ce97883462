/- The plain statement of the law GainAlike. -/
import Derived.Test.YtanikfihfmomoaaQ22
import Derived.Test.YtanikfihfmomoaaQT
import Derived.Test.YtanikfihfmomoaaGainB
import Derived.Test.YtanikfihfmomoaaGainC
import Derived.KernelRfl
namespace Go.Proofs.Ytanikfihfmomoaa.Pure
open Go.RowKit Go.Proofs.YtanikfihfmomoaaW.PrintWords Go.Proofs.YtanikfihfmomoaaW.PrintLast Go.Proofs.YtanikfihfmomoaaW.PrintMore Go.Proofs.Ytanikfihfmomoaa.Open Go.Proofs.Ytanikfihfmomoaa.Q Go.Proofs.Ytanikfihfmomoaa.Aid
theorem alive_ev : Ev (fun k => fringelaw26_alive.f k) true := Ev.of (fun k => fringelaw26_alive.mono k) (k := 120) (by kernel_rfl)
theorem ok_ne {a b c : Int} (h : cxOk a b c = true) : c ≠ 0 := by have := (cxOk_iff.1 h).1; omega
theorem neg_wr {a b c : Int} (h : cxOk a b c = true) : wrap64 (-b) = -b := by
  have := cxOk_iff.1 h
  exact wr (by omega) (by omega)
/-- What two tables that act alike have in common. -/
theorem alike_to {g h : List S36} (e : AlikeS g h = (true, 0)) : gBoth g h = 0 ∧ ∃ n d, nm (rd_T36 g 0) = (n, d, 0) ∧ nm (rd_T36 h 0) = (n, d, 0) ∧ ∀ j, j < g.length → ∃ z, mulT (g.getD j z36) (rd_T36 h 0) = (z, 0) ∧ mulT (rd_T36 g 0) (h.getD j z36) = (z, 0) := by
  unfold AlikeS at e
  by_cases c : gBoth g h = 0
  · rw [if_pos c] at e
    by_cases c1 : aE g h = 0
    · rw [if_pos c1] at e
      by_cases c2 : (nm (rd_T36 g 0)).1 = (nm (rd_T36 h 0)).1 ∧ (nm (rd_T36 g 0)).2.1 = (nm (rd_T36 h 0)).2.1
      · rw [if_pos c2] at e
        have e1 := eqT_to (congrArg Prod.fst e)
        obtain ⟨o1, o2, o3, o4⟩ := or4_0 c1
        have hl := (gBoth_ok c).2.2
        obtain ⟨p1, p2, p3⟩ := goC_ok _ g 0 [] (aP g h).1 (show aP g h = ((aP g h).1, 0) by rw [← o3])
        obtain ⟨q1, q2, q3⟩ := goC_ok _ h 0 [] (aQ g h).1 (show aQ g h = ((aQ g h).1, 0) by rw [← o4])
        refine ⟨c, (nm (rd_T36 g 0)).1, (nm (rd_T36 g 0)).2.1, Prod.ext rfl (Prod.ext rfl o1), Prod.ext c2.1.symm (Prod.ext c2.2.symm o2), fun j hj => ⟨(aP g h).1.getD (0 + j) z36, p3 j hj, ?_⟩⟩
        have := q3 j (by omega)
        rw [← e1] at this
        exact this
      · rw [if_neg c2] at e; simp at e
    · rw [if_neg c1] at e
      simp at e
  · rw [if_neg c] at e
    simp at e
theorem rd0 (g : List S36) : rd_T36 g 0 = g.getD 0 z36 := rfl
theorem g_ok {g : List S36} (h : gChk g = 0) {j : Nat} (hj : j < g.length) : gOk (g.getD j z36) = true := (gChk_ok h).2.2 _ (mem_getD g z36 j hj)
theorem vis_eq {v : S38} {a b c a' b' c' : Int} (h1 : a = a') (h2 : b = b') (h3 : c = c') : (⟨v.f0, v.f1, ⟨a, b, c⟩, v.f3⟩ : S38) = ⟨v.f0, v.f1, ⟨a', b', c'⟩, v.f3⟩ := by rw [h1, h2, h3]
/-- One visibility: two tables that act alike make the same of it. -/
theorem one_same {g h : List S36} (e : AlikeS g h = (true, 0)) {v a b : S38} (hv : visOk g.length v = true) (ha : oneS g v = (a, 0)) (hb : oneS h v = (b, 0)) : a = b := by
  obtain ⟨c, n, d, n1, n2, key⟩ := alike_to e
  obtain ⟨c1, c2, c3⟩ := gBoth_ok c
  obtain ⟨⟨v1, v2, v3, _⟩, v5⟩ := visOk_iff.1 hv
  obtain ⟨z1, i1, i2⟩ := key v.f0.toNat (by omega)
  obtain ⟨z2, j1, j2⟩ := key v.f1.toNat (by omega)
  have gi := g_ok c1 (j := v.f0.toNat) (by omega)
  have gj := g_ok c1 (j := v.f1.toNat) (by omega)
  have hi := g_ok c2 (j := v.f0.toNat) (by omega)
  have hj := g_ok c2 (j := v.f1.toNat) (by omega)
  have h0 := g_ok c2 (j := 0) (by omega)
  rw [← rd0] at h0
  unfold oneS at ha hb
  rw [show rd_T36 g v.f0 = g.getD v.f0.toNat z36 from rfl, show rd_T36 g v.f1 = g.getD v.f1.toNat z36 from rfl] at ha
  rw [show rd_T36 h v.f0 = h.getD v.f0.toNat z36 from rfl, show rd_T36 h v.f1 = h.getD v.f1.toNat z36 from rfl] at hb
  unfold nm at n1 n2
  generalize g.getD v.f0.toNat z36 = G at *
  generalize g.getD v.f1.toNat z36 = G' at *
  generalize h.getD v.f0.toNat z36 = H at *
  generalize h.getD v.f1.toNat z36 = H' at *
  generalize rd_T36 g 0 = G0 at *
  generalize rd_T36 h 0 = H0 at *
  have oG' := (gOk_iff.1 gj).1
  have oH' := (gOk_iff.1 hj).1
  rw [neg_wr oG'] at ha
  rw [neg_wr oH'] at hb
  by_cases k1 : (mulS G.f0 G.f1 G.f2 v.f2.f0 v.f2.f1 v.f2.f2).2.2.2 = 0
  · rw [if_pos k1] at ha
    by_cases k2 : (mulS H.f0 H.f1 H.f2 v.f2.f0 v.f2.f1 v.f2.f2).2.2.2 = 0
    · rw [if_pos k2] at hb
      simp only [Prod.mk.injEq] at ha hb
      obtain ⟨rfl, ha⟩ := ha
      obtain ⟨rfl, hb⟩ := hb
      obtain ⟨x1, x2, x3⟩ := two_ok (a := G.f0) (b := G.f1) (c := G.f2) (x := v.f2.f0) (y := v.f2.f1) (z := v.f2.f2) (d := G'.f0) (e := G'.f1) (f := G'.f2) (Prod.ext rfl (Prod.ext rfl (Prod.ext rfl k1))) (Prod.ext rfl (Prod.ext rfl (Prod.ext rfl ha)))
      obtain ⟨y1, y2, y3⟩ := two_ok (a := H.f0) (b := H.f1) (c := H.f2) (x := v.f2.f0) (y := v.f2.f1) (z := v.f2.f2) (d := H'.f0) (e := H'.f1) (f := H'.f2) (Prod.ext rfl (Prod.ext rfl (Prod.ext rfl k2))) (Prod.ext rfl (Prod.ext rfl (Prod.ext rfl hb)))
      obtain ⟨m1, m2, m3, m4⟩ := norm_ok n1
      obtain ⟨l1, l2, l3, l4⟩ := norm_ok n2
      obtain ⟨_, _, s3, s4, s5⟩ := mul_ok (mulT_ok i1)
      obtain ⟨_, _, _, t4, t5⟩ := mul_ok (mulT_ok i2)
      obtain ⟨_, _, u3, u4, u5⟩ := mul_ok (mulT_ok j1)
      obtain ⟨_, _, _, w4, w5⟩ := mul_ok (mulT_ok j2)
      have E1 : (G0.f0 * G0.f0 + G0.f1 * G0.f1) * (H0.f2 * H0.f2) = (H0.f0 * H0.f0 + H0.f1 * H0.f1) * (G0.f2 * G0.f2) := frac_eq (show d ≠ 0 by omega) m2 l2
      obtain ⟨U, V⟩ := alg1 (ok_ne m1) (sq_pos (gOk_iff.1 h0).2) E1 (frac_eq (ok_ne s3) s4 t4) (frac_eq (ok_ne s3) s5 t5) (frac_eq (ok_ne u3) u4 w4) (frac_eq (ok_ne u3) u5 w5)
      obtain ⟨r1, r2⟩ := alg2 (ok_ne (gOk_iff.1 gi).1) (ok_ne oG') (ok_ne (gOk_iff.1 hi).1) (ok_ne oH') (ok_ne v5) U V x2 x3 y2 y3
      obtain ⟨q1, q2, q3⟩ := ok_uniq x1 y1 r1 r2
      exact vis_eq q1 q2 q3
    · rw [if_neg k2] at hb
      exact absurd (congrArg Prod.snd hb) k2
  · rw [if_neg k1] at ha
    exact absurd (congrArg Prod.snd ha) k1
theorem go_same {g h : List S36} (e : AlikeS g h = (true, 0)) : ∀ (t acc r r' : List S38), (∀ v ∈ t, visOk g.length v = true) → goS g t acc = (r, 0) → goS h t acc = (r', 0) → r = r'
  | [], acc, r, r', _, h1, h2 => by
    simp only [goS, Prod.mk.injEq, and_true] at h1 h2
    rw [← h1, ← h2]
  | v :: t, acc, r, r', hv, h1, h2 => by
    rw [goS] at h1 h2
    by_cases c1 : (oneS g v).2 = 0
    · rw [if_pos c1] at h1
      by_cases c2 : (oneS h v).2 = 0
      · rw [if_pos c2] at h2
        have hs : (oneS g v).1 = (oneS h v).1 := one_same e (hv v (by simp)) (Prod.ext rfl c1) (Prod.ext rfl c2)
        rw [hs] at h1
        exact go_same e t _ r r' (fun u hu => hv u (by simp [hu])) h1 h2
      · rw [if_neg c2] at h2; simp at h2
    · rw [if_neg c1] at h1; simp at h1
theorem act_same {g h : List S36} {l : List S38} (e : AlikeS g h = (true, 0)) (h1 : (actS g l).2 = 0) (h2 : (actS h l).2 = 0) : (actS g l).1 = (actS h l).1 := by
  obtain ⟨c, _⟩ := alike_to e
  obtain ⟨c1, c2, c3⟩ := gBoth_ok c
  unfold actS at *
  rw [if_pos c1] at h1 ⊢
  rw [if_pos c2] at h2 ⊢
  by_cases k : l.length > 64
  · rw [if_pos k] at h1; simp at h1
  · rw [if_neg k] at h1 ⊢
    rw [if_neg k] at h2 ⊢
    rw [← c3] at h2 ⊢
    by_cases k2 : l.all (visOk g.length) = true
    · rw [if_pos k2] at h1 ⊢
      rw [if_pos k2] at h2 ⊢
      exact go_same e l [] _ _ (List.all_eq_true.1 k2) (Prod.ext rfl h1) (Prod.ext rfl h2)
    · rw [if_neg k2] at h1; simp at h1
/-- A table times one number acts alike if the number's norm is 1, and only then. -/
theorem also_eq {g T : List S36} {C : S36} {n d : Int} (hg : gChk g = 0) (hl : T.length = g.length) (hC : nm C = (n, d, 0)) (hT : ∀ j, j < g.length → mulT (g.getD j z36) C = (T.getD j z36, 0)) (e : (AlikeS g T).2 = 0) : (AlikeS g T).1 = ((n == 1) && (d == 1)) := by
  have hpos := (gChk_ok hg).2.1
  unfold AlikeS at e ⊢
  by_cases c : gBoth g T = 0
  · rw [if_pos c] at e ⊢
    by_cases c1 : aE g T = 0
    · rw [if_pos c1] at e ⊢
      obtain ⟨o1, o2, o3, o4⟩ := or4_0 c1
      obtain ⟨p1, _, p3⟩ := goC_ok _ g 0 [] (aP g T).1 (show aP g T = ((aP g T).1, 0) by rw [← o3])
      obtain ⟨q1, _, q3⟩ := goC_ok _ T 0 [] (aQ g T).1 (show aQ g T = ((aQ g T).1, 0) by rw [← o4])
      rw [List.length_nil, Nat.zero_add] at p1 q1
      obtain ⟨_, _, z0, m1, m2⟩ := mul_ok (mulT_ok (hT 0 hpos))
      rw [← rd0, ← rd0] at m1 m2
      rw [← rd0] at z0
      have gz := g_ok hg hpos
      rw [← rd0] at gz
      obtain ⟨k0, k1, k2, k3⟩ := norm_ok hC
      have heq : eqT (aP g T).1 (aQ g T).1 = true := eqT_of (by omega) (fun j hj => by
        have hj' : j < g.length := by omega
        have P := p3 j hj'
        have Q := q3 j (by omega)
        rw [List.length_nil, Nat.zero_add] at P Q
        obtain ⟨oj, _, zj, m3, m4⟩ := mul_ok (mulT_ok (hT j hj'))
        obtain ⟨_, _, P3, P4, P5⟩ := mul_ok (mulT_ok P)
        obtain ⟨_, _, Q3, Q4, Q5⟩ := mul_ok (mulT_ok Q)
        generalize (aP g T).1.getD j z36 = A at *
        generalize (aQ g T).1.getD j z36 = B at *
        generalize g.getD j z36 = G at *
        generalize T.getD j z36 = U at *
        generalize rd_T36 g 0 = G0 at *
        generalize rd_T36 T 0 = T0 at *
        have s1 := step1 (ok_ne z0) m1 m2 P4
        have s2 := step2 (ok_ne z0) m1 m2 P5
        have s3 := step1 (ok_ne zj) m3 m4 Q4
        have s4 := step2 (ok_ne zj) m3 m4 Q5
        rw [ring18 G.f2 G0.f2 C.f2, ← ring16] at s3
        rw [ring18 G.f2 G0.f2 C.f2, ← ring17] at s4
        have hm : G.f2 * (G0.f2 * C.f2) ≠ 0 := Int.mul_ne_zero (ok_ne oj) (Int.mul_ne_zero (ok_ne (gOk_iff.1 gz).1) (ok_ne k0))
        obtain ⟨r1, r2, r3⟩ := ok_uniq P3 Q3 (same_of hm s1 s3) (same_of hm s2 s4)
        exact eqS_iff.1 (by unfold eqS; simp [r1, r2, r3]))
      obtain ⟨_, w1, w2, w3⟩ := norm_ok (show nm (rd_T36 g 0) = ((nm (rd_T36 g 0)).1, (nm (rd_T36 g 0)).2.1, 0) from Prod.ext rfl (Prod.ext rfl o1))
      obtain ⟨_, v1, v2, v3⟩ := norm_ok (show nm (rd_T36 T 0) = ((nm (rd_T36 T 0)).1, (nm (rd_T36 T 0)).2.1, 0) from Prod.ext rfl (Prod.ext rfl o2))
      have key := norm_case (sq_pos (gOk_iff.1 gz).2) (ok_ne (gOk_iff.1 gz).1) (ok_ne k0) (ok_ne z0) m1 m2 k1 k2 k3 w1 w2 w3 v1 v2 v3
      by_cases c2 : (nm (rd_T36 g 0)).1 = (nm (rd_T36 T 0)).1 ∧ (nm (rd_T36 g 0)).2.1 = (nm (rd_T36 T 0)).2.1
      · rw [if_pos c2, heq]
        obtain ⟨rfl, rfl⟩ := key.1 c2
        rfl
      · rw [if_neg c2]
        symm
        rw [Bool.eq_false_iff]
        intro hh
        rw [Bool.and_eq_true, beq_iff_eq, beq_iff_eq] at hh
        exact c2 (key.2 hh)
    · rw [if_neg c1] at e
      exact absurd e c1
  · rw [if_neg c] at e
    exact absurd e c
theorem zero_ev (a b c : Int) : Ev (fun _ => fringeref25_Zero.f a b c) (decide (a = 0) && (b == 0)) := by
  simp only [fringeref25_Zero.f]
  by_cases h : a = 0
  · rw [if_pos h]; exact Ev.some_of (by simp [h])
  · rw [if_neg h]; exact Ev.some_of (by simp [h])
theorem repl_get (n j : Nat) (C : S36) (h : j < n) : rd_T36 (List.replicate n C) (j : Int) = C := by
  show (List.replicate n C).getD ((j : Int)).toNat z36 = C
  rw [Int.toNat_natCast, List.getD_eq_getElem?_getD, List.getElem?_replicate, if_pos h]
  rfl
theorem al_l0 (g : List S36) (hg : gChk g = 0) (C : S36) : ∀ d i : Nat, g.length = i + d → Ev (fun k => fringelaw26_GainAlike.l0 k g true (List.replicate i C) i C.f0 C.f1 C.f2) true
  | 0, i, h => by
    refine Ev.step (fun k => by simp only [fringelaw26_GainAlike.l0]; rfl) ?_
    refine Ev.iteF (by omega) (Ev.bind (gain_Mul_ev g _) (Ev.bind (rNorm_ev _ _ _) ?_))
    refine Ev.ite (fun c1 => Ev.ite (fun c2 => Ev.bind (gain_Alike_ev g _) (Ev.iteT trivial (Ev.ite (fun c3 => Ev.some_of ?_) (fun _ => Ev.now _)))) (fun _ => Ev.now _)) (fun _ => Ev.now _)
    have hi : i = g.length := by omega
    subst hi
    have hb : gBoth g (List.replicate g.length C) = 0 := by
      by_cases c : gBoth g (List.replicate g.length C) = 0
      · exact c
      · unfold MulS at c1; rw [if_neg c] at c1; exact absurd c1 c
    have hM : MulS g (List.replicate g.length C) = goC (fun i x => mulT x (rd_T36 (List.replicate g.length C) i)) g 0 [] := by unfold MulS; rw [if_pos hb]
    obtain ⟨t1, _, t3⟩ := goC_ok _ g 0 [] (MulS g (List.replicate g.length C)).1 (show _ = ((MulS g (List.replicate g.length C)).1, 0) by rw [← c1, ← hM])
    rw [List.length_nil, Nat.zero_add] at t1
    have := also_eq hg t1 (C := C) (n := (nm C).1) (d := (nm C).2.1) (Prod.ext rfl (Prod.ext rfl c2)) (fun j hj => by
      have k := t3 j hj
      rw [List.length_nil, Nat.zero_add, repl_get _ _ _ hj] at k
      exact k) c3
    rw [this]
    exact beq_self_eq_true _
  | d + 1, i, h => by
    refine Ev.step (fun k => by simp only [fringelaw26_GainAlike.l0]; rfl) ?_
    have := (gChk_ok hg).1
    refine Ev.iteT (by omega) (Ev.iteT (by rw [List.length_replicate]; omega) ?_)
    rw [wr1 i (by omega)]
    have e : List.replicate i C ++ [(⟨C.f0, C.f1, C.f2⟩ : S36)] = List.replicate (i + 1) C := List.replicate_succ'.symm
    rw [e]
    exact al_l0 g hg C d (i + 1) (by omega)
theorem GainAlike : ∀ (l0 : List (S36)) (l1 : List (S36)) (l2 : List (S38)) (x3 : S36), GL36 l0 → GL36 l1 → GL38 l2 → G36 x3 → ∃ k, fringelaw26_GainAlike.f k l0 l1 l2 x3.f0 x3.f1 x3.f2 = some true := by
  intro g h l C _ _ _ _
  refine Ev.rounds ?_
  have skip : Ev (fun k => fringelaw26_GainAlike.j0 k g h l true true C.f0 C.f1 C.f2) true := by
    refine Ev.step (fun k => by simp only [fringelaw26_GainAlike.j0]; rfl) ?_
    exact Ev.iteT trivial (Ev.now _)
  simp only [fringelaw26_GainAlike.f]
  refine Ev.bind alive_ev (Ev.bind (ref_Both_ev g h) (Ev.ite (fun c => Ev.bind (all_ev _ l) (Ev.ite (fun c2 => Ev.bind (rCheck_ev _ _ _) (Ev.ite (fun c3 => Ev.bind (zero_ev _ _ _) (Ev.ite (fun _ => skip) (fun _ => ?_))) (fun _ => skip))) (fun _ => skip))) (fun _ => skip)))
  obtain ⟨c1, c4, c5⟩ := gBoth_ok c
  have hj2 : Ev (fun k => fringelaw26_GainAlike.j2 k g true C.f0 C.f1 C.f2) true := by
    refine Ev.step (fun k => by simp only [fringelaw26_GainAlike.j2]; rfl) ?_
    exact al_l0 g c1 C g.length 0 (by omega)
  have hj1 : ∀ b : Bool, (b = true → AlikeS g h = (true, 0)) → Ev (fun k => fringelaw26_GainAlike.j1 k g h l true b C.f0 C.f1 C.f2) true := by
    intro b hb
    refine Ev.step (fun k => by simp only [fringelaw26_GainAlike.j1]; rfl) ?_
    refine Ev.ite (fun b1 => Ev.bind (gain_Act_ev g l) (Ev.bind (gain_Act_ev h l) (Ev.ite (fun a1 => Ev.ite (fun a2 => ?_) (fun _ => hj2)) (fun _ => hj2)))) (fun _ => hj2)
    rw [act_same (hb b1) a1 a2]
    have hs := actS_len h l
    exact Ev.bind (gsame_ev _ (by omega)) (Ev.iteT rfl hj2)
  refine Ev.step (fun k => by simp only [fringelaw26_GainAlike.j0]; rfl) ?_
  refine Ev.iteF (by simp) (Ev.bind (gain_Alike_ev g h) (Ev.ite (fun e => hj1 _ (fun e1 => Prod.ext e1 e)) (fun _ => hj1 false (fun hc => by cases hc))))
end Go.Proofs.Ytanikfihfmomoaa.Pure
