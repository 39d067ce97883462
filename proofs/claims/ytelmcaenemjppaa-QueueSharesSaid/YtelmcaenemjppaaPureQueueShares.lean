/- The plain statement of the law QueueShares. -/
import Derived.Test.YtelmcaenemjppaaQ19
import Derived.Test.YtelmcaenemjppaaQT
import Derived.Test.YtelmcaenemjppaaQueD
namespace Go.Proofs.Ytelmcaenemjppaa.Pure
open Go.RowKit Go.Proofs.YtelmcaenemjppaaW.PrintWords Go.Proofs.YtelmcaenemjppaaW.PrintLast Go.Proofs.YtelmcaenemjppaaW.PrintMore Go.Proofs.Ytelmcaenemjppaa.Open Go.Proofs.Ytelmcaenemjppaa.Q Go.Proofs.Ytelmcaenemjppaa.Aid
/-- Two projects that waited from the start to the end had what their shares say, but for one observation each. -/
theorem fair {u v a b x y num den num' den' : Int} (hx : 0 < x) (hy : 0 < y) (hd : 0 < den) (hd' : 0 < den')
    (h2 : num * x ≤ (u + 1) * den) (h3 : v * den ≤ num * y)
    (k1 : (u + a) * den' ≤ num' * x) (k4 : num' * y ≤ (v + b + 1) * den') : a * y - b * x ≤ x + y := by
  have e1 : (u + a) * y ≤ (v + b + 1) * x := cross k1 k4 (by omega) hd' (by omega)
  have e2 : v * x ≤ (u + 1) * y := cross h3 h2 (by omega) hd (by omega)
  rw [Int.add_mul] at e1 e2
  rw [Int.add_mul (v + b) 1 x, Int.add_mul v b x] at e1
  omega
theorem sh_l0 (i k : Nat) (l m : List S42) (num den num' den' : Int) (out : List Int) (hv : VQ l num den) (hv' : VQ m num' den') (hs : Served l m out) (ho : out.length ≤ 200) (hi : i < l.length) (hk : k < l.length)
    (wi : 0 < (m.getD i z42).f3) (wk : 0 < (m.getD k z42).f3) : ∀ d j : Nat, out.length = j + d → ∀ a b : Int, 0 ≤ a → 0 ≤ b → a + cnt i (out.drop j) = cnt i out → b + cnt k (out.drop j) = cnt k out → Ev (fun n => fringelaw42_QueueShares.l0 n i k true out a b j l num den m num' den') true
  | 0, j, h, a, b, ha0, hb0, ha, hb => by
    refine Ev.step (fun n => by simp only [fringelaw42_QueueShares.l0]; rfl) ?_
    rw [List.drop_eq_nil_of_le (by omega), cnt, Int.add_zero] at ha hb
    have c1 := cnt_bd i out
    have c2 := cnt_bd k out
    rw [← ha] at c1
    rw [← hb] at c2
    have e1 := hs.each i hi
    have e2 := hs.each k hk
    rw [← ha] at e1
    rw [← hb] at e2
    have p1 := (pj.1 (hv.at_ hi)).2
    have p2 := (pj.1 (hv.at_ hk)).2
    have q1 := (pj.1 (hv'.at_ (i := i) (by rw [hs.len]; exact hi))).2
    have q2 := (pj.1 (hv'.at_ (i := k) (by rw [hs.len]; exact hk))).2
    have r1 : rd_T42 l (i : Int) = l.getD i z42 := rfl
    have r2 : rd_T42 l (k : Int) = l.getD k z42 := rfl
    have r3 : rd_T42 m (i : Int) = m.getD i z42 := rfl
    have hm : m.length = l.length := hs.len
    have d1 := hv.hden
    have d2 := hv'.hden
    refine Ev.iteF (by omega) (Ev.iteT (by omega) (Ev.iteT (by omega) (Ev.iteT (by omega) (Ev.iteT (by omega) (Ev.iteT (by simp) ?_)))))
    rw [r1, r2, r3]
    have w1 : wrap64 (a * (l.getD k z42).f1) = a * (l.getD k z42).f1 := wrP (A := 200) (B := 100) (by omega) (by omega) (by omega)
    have w2 : wrap64 (b * (l.getD i z42).f1) = b * (l.getD i z42).f1 := wrP (A := 200) (B := 100) (by omega) (by omega) (by omega)
    have b1 := mul_bd (a := a) (b := (l.getD k z42).f1) (A := 200) (B := 100) (by omega) (by omega)
    have b2 := mul_bd (a := b) (b := (l.getD i z42).f1) (A := 200) (B := 100) (by omega) (by omega)
    have f1 := q1.2.2.2.2 wi
    have f2 := q2.2.2.2.2 wk
    have g1 := p1.2.2.2.2 (by omega)
    have g2 := p2.2.2.2.2 (by omega)
    have z1 := q1.2.2.2.1
    have z2 := q2.2.2.2.1
    have y1 := p1.2.2.2.1
    have y2 := p2.2.2.2.1
    rw [e1.2.1, e1.2.2.1] at f1 z1
    rw [e2.2.1, e2.2.2.1] at f2 z2
    have F1 := fair (by omega) (by omega) (by omega) (by omega) g1 y2 z1 f2
    have F2 := fair (by omega) (by omega) (by omega) (by omega) g2 y1 z2 f1
    rw [w1, w2, wr (x := a * (l.getD k z42).f1 - b * (l.getD i z42).f1) (by omega) (by omega), wr (x := -(a * (l.getD k z42).f1 - b * (l.getD i z42).f1)) (by omega) (by omega), wr (x := (l.getD i z42).f1 + (l.getD k z42).f1) (by omega) (by omega), wr (x := (l.getD i z42).f2 + a) (by omega) (by omega), wr (x := (l.getD i z42).f3 - a) (by omega) (by omega)]
    refine Ev.iteT ?_ (Ev.iteT (by omega) (Ev.iteT e1.2.2.1 (Ev.some_of ?_)))
    · unfold mx; split <;> omega
    · rw [e1.2.2.2]; simp
  | d + 1, j, h, a, b, ha0, hb0, ha, hb => by
    refine Ev.step (fun n => by simp only [fringelaw42_QueueShares.l0]; rfl) ?_
    have c1 := cnt_bd i out
    have c2 := cnt_bd k out
    rw [drop_get out 0 j (by omega), cnt] at ha hb
    have c3 := cnt_bd i (out.drop (j + 1))
    have c4 := cnt_bd k (out.drop (j + 1))
    have r : rd out (j : Int) = out.getD j 0 := rfl
    have ih := fun a b => sh_l0 i k l m num den num' den' out hv hv' hs ho hi hk wi wk d (j + 1) (by omega) a b
    have wa : wrap64 (a + 1) = a + 1 := wr (by split at ha <;> omega) (by split at ha <;> omega)
    have wb : wrap64 (b + 1) = b + 1 := wr (by split at hb <;> omega) (by split at hb <;> omega)
    rw [r, wr1 j (by omega), wa, wb]
    refine Ev.iteT (by omega) (Ev.iteT (by omega) (Ev.ite (fun h1 => ?_) (fun h1 => ?_)))
    · rw [if_pos h1] at ha
      refine Ev.ite (fun h2 => ?_) (fun h2 => ?_)
      · rw [if_pos h2] at hb
        exact ih _ _ (by omega) (by omega) (by omega) (by omega)
      · rw [if_neg h2] at hb
        exact ih _ _ (by omega) (by omega) (by omega) (by omega)
    · rw [if_neg h1] at ha
      refine Ev.ite (fun h2 => ?_) (fun h2 => ?_)
      · rw [if_pos h2] at hb
        exact ih _ _ (by omega) (by omega) (by omega) (by omega)
      · rw [if_neg h2] at hb
        exact ih _ _ (by omega) (by omega) (by omega) (by omega)
theorem sh_j0 (i k n : Int) (l : List S42) (num den : Int) : Ev (fun f => fringelaw42_QueueShares.j0 f i k n true true l num den) true := by
  refine Ev.step (fun f => by simp only [fringelaw42_QueueShares.j0]; rfl) ?_
  exact Ev.iteT (by simp) (Ev.now _)
theorem sh_j (i k : Nat) (n : Int) (l : List S42) (num den : Int) (hn : NB l) (hv : VQ l num den) (hi : i < l.length) (hk : k < l.length) (h : 0 ≤ n ∧ n ≤ 200) : Ev (fun f => fringelaw42_QueueShares.j0 f i k n true false l num den) true := by
  refine Ev.step (fun f => by simp only [fringelaw42_QueueShares.j0]; rfl) ?_
  refine Ev.iteF (by simp) (Ev.bind (impl_Serve l num den n hn) ?_)
  have hS : ServeS l num den n = srv n.toNat l num den [] := by unfold ServeS; rw [if_pos (vq_iff.2 hv), if_pos ⟨h.1, by omega⟩]
  rw [hS]
  rcases srv_err n.toNat l num den [] hv with he | he
  · refine Ev.iteT he ?_
    obtain ⟨hv', o, ho, hl, hs⟩ := srv_ok n.toNat l num den [] hv he
    rw [List.nil_append] at ho
    rw [ho]
    generalize srv n.toNat l num den [] = t at *
    refine Ev.bind (ref_Check t.1 t.2.1 t.2.2.1) ?_
    rw [vq_iff.2 hv', hs.len]
    refine Ev.iteT (by simp) (Ev.iteT (by simp) ?_)
    rw [decide_eq_false (show ¬ (o.length : Int) > n by omega)]
    refine Ev.step (fun f => by simp only [fringelaw42_QueueShares.j1]; rfl) ?_
    have r1 : rd_T42 t.1 (i : Int) = t.1.getD i z42 := rfl
    have r2 : rd_T42 t.1 (k : Int) = t.1.getD k z42 := rfl
    have hm := hs.len
    have q1 := (pj.1 (hv'.at_ (i := i) (by omega))).2
    have q2 := (pj.1 (hv'.at_ (i := k) (by omega))).2
    rw [r1, r2]
    have hT : Ev (fun f => fringelaw42_QueueShares.j2 f i k true o true l num den t.1 t.2.1 t.2.2.1) true := by
      refine Ev.step (fun f => by simp only [fringelaw42_QueueShares.j2]; rfl) ?_
      exact Ev.iteT (by simp) (Ev.now _)
    refine Ev.iteF (by simp) (Ev.iteT (by omega) (Ev.iteT (by omega) (Ev.ite (fun _ => hT) (fun w1 => Ev.iteT (by omega) (Ev.iteT (by omega) ?_)))))
    by_cases w2 : (t.1.getD k z42).f3 = 0
    · rw [w2]; exact hT
    · rw [beq_false_of_ne w2]
      refine Ev.step (fun f => by simp only [fringelaw42_QueueShares.j2]; rfl) ?_
      exact Ev.iteF (by simp) (sh_l0 i k l t.1 num den t.2.1 t.2.2.1 o hv hv' hs (by omega) hi hk (by omega) (by omega) o.length 0 (by omega) 0 0 (by omega) (by omega) (by simp) (by simp))
  · refine Ev.iteF (by omega) (Ev.iteT (by simp) ?_)
    rw [he]
    exact Ev.now _
theorem QueueShares : ∀ (x0 : S24) (a1 : Int) (a2 : Int) (a3 : Int), G24 x0 → (Lit.int .i64 a1).wf = true → (Lit.int .i64 a2).wf = true → (Lit.int .i64 a3).wf = true → ∃ k, fringelaw42_QueueShares.f k x0.f0 x0.f1 x0.f2 a1 a2 a3 = some true := by
  intro x i k n hx _ _ _
  have hl : x.f0.length ≤ 9223372036854775806 := by have := hx.1.1; omega
  refine Ev.rounds ?_
  simp only [fringelaw42_QueueShares.f]
  refine Ev.bind alive_ev (Ev.bind (Great_ev x.f0 x.f1 x.f2 hl) ?_)
  refine Ev.ite (fun _ => sh_j0 _ _ _ _ _ _) (fun hg => Ev.bind (ref_Check x.f0 x.f1 x.f2) (Ev.ite (fun hc => Ev.ite (fun _ => sh_j0 _ _ _ _ _ _) (fun c1 => Ev.ite (fun _ => sh_j0 _ _ _ _ _ _) (fun c2 => Ev.ite (fun _ => sh_j0 _ _ _ _ _ _) (fun c3 => Ev.ite (fun _ => sh_j0 _ _ _ _ _ _) (fun c4 => Ev.ite (fun _ => sh_j0 _ _ _ _ _ _) (fun c5 => Ev.ite (fun _ => sh_j0 _ _ _ _ _ _) (fun c6 => ?_))))))) (fun _ => sh_j0 _ _ _ _ _ _)))
  have := sh_j i.toNat k.toNat n x.f0 x.f1 x.f2 (great_NB (Bool.eq_false_iff.mpr hg)).1 (vq_iff.1 hc) (by omega) (by omega) ⟨by omega, by omega⟩
  rw [show ((i.toNat : Nat) : Int) = i by omega, show ((k.toNat : Nat) : Int) = k by omega] at this
  exact this
end Go.Proofs.Ytelmcaenemjppaa.Pure
