/- The plain statement of the law QueueLevel. -/
import Derived.Test.YtelmcaenemjppaaQ24
import Derived.Test.YtelmcaenemjppaaQT
import Derived.Test.YtelmcaenemjppaaQueE
namespace Go.Proofs.Ytelmcaenemjppaa.Pure
open Go.RowKit Go.Proofs.YtelmcaenemjppaaW.PrintWords Go.Proofs.YtelmcaenemjppaaW.PrintLast Go.Proofs.YtelmcaenemjppaaW.PrintMore Go.Proofs.Ytelmcaenemjppaa.Open Go.Proofs.Ytelmcaenemjppaa.Q Go.Proofs.Ytelmcaenemjppaa.Aid
theorem lev_j3 {l : List S42} {num den : Int} (h : VQ l num den) {i : Nat} (hi : i < l.length) (n : Int) (hn : 1 ≤ n ∧ n ≤ 1000) :
    Ev (fun k => fringelaw42_QueueLevel.j3 k i n true false l num den (l.getD i z42).f0 (l.getD i z42).f1 (l.getD i z42).f2 (l.getD i z42).f3 (l.set i (askP num den n (l.getD i z42))) num den) true := by
  have hl := h.len
  have r : rd_T42 (l.set i (askP num den n (l.getD i z42))) (i : Int) = askP num den n (l.getD i z42) := by
    show (l.set i (askP num den n (l.getD i z42))).getD i z42 = _
    rw [getD_set hi, if_pos rfl]
  have e : (l.set i (askP num den n (l.getD i z42))).set (i : Int).toNat (⟨(l.getD i z42).f0, (l.getD i z42).f1, (l.getD i z42).f2, (l.getD i z42).f3⟩ : S42) = l := by
    show (l.set i (askP num den n (l.getD i z42))).set i (l.getD i z42) = l
    rw [List.set_set, set_self hi]
  have hb := newU_bd (h.at_ hi) h.hden.1
  have hp := (pj.1 (h.at_ hi)).2
  have hm := h.hnum
  have hd := h.hden
  have hset : ((l.set i (askP num den n (l.getD i z42))).length : Int) = l.length := by rw [List.length_set]
  refine Ev.step (fun k => by simp only [fringelaw42_QueueLevel.j3]; rfl) ?_
  rw [e, r]
  show Ev _ _
  have a1 : (askP num den n (l.getD i z42)).f1 = (l.getD i z42).f1 := rfl
  have a2 : (askP num den n (l.getD i z42)).f2 = newU num den (l.getD i z42) := rfl
  have a3 : (askP num den n (l.getD i z42)).f3 = (l.getD i z42).f3 + n := rfl
  rw [a1, a2, a3, wr (x := (l.getD i z42).f3 + n) (by omega) (by omega)]
  refine Ev.iteF (by simp) (Ev.iteT (by omega) (Ev.iteT (by omega) (Ev.iteT (by simp) (Ev.ite (fun c => ?_) (fun c => ?_)))))
  · refine Ev.iteT (hb.2.2.2.2 c) (Ev.iteF (by omega) (Ev.iteT (by simp) ?_))
    exact Ev.bind (same_refl l num den (by omega)) (Ev.now _)
  · have c0 : (l.getD i z42).f3 = 0 := by omega
    -- what is used then is at most what the level says
    have hlt := hb.2.2.2.1 c0
    have b1 := mul_bd (a := num) (b := (l.getD i z42).f1) (A := 1000000) (B := 100) (by omega) (by omega)
    have hbig : newU num den (l.getD i z42) ≤ 100000000 := by
      have : newU num den (l.getD i z42) * 1 ≤ newU num den (l.getD i z42) * den := Int.mul_le_mul_of_nonneg_left (by omega) (by omega)
      omega
    have w1 : wrap64 (newU num den (l.getD i z42) * den) = newU num den (l.getD i z42) * den := wrP (A := 100000000) (B := 100) (by omega) (by omega) (by omega)
    have w2 : wrap64 (num * (l.getD i z42).f1) = num * (l.getD i z42).f1 := wrP (A := 1000000) (B := 100) (by omega) (by omega) (by omega)
    have w3 : wrap64 (wrap64 (newU num den (l.getD i z42) + 1) * den) = (newU num den (l.getD i z42) + 1) * den := by
      rw [wr (x := newU num den (l.getD i z42) + 1) (by omega) (by omega)]
      exact wrP (A := 100000001) (B := 100) (by omega) (by omega) (by omega)
    rw [w1, w2, w3]
    refine Ev.iteT c0 (Ev.iteF (by omega) (Ev.iteF (by omega) (Ev.iteF (by omega) (Ev.iteT (by simp) ?_))))
    exact Ev.bind (same_refl l num den (by omega)) (Ev.now _)
theorem lev_j1 {l : List S42} {num den : Int} (h : VQ l num den) {i : Nat} (hi : i < l.length) (n : Int) : Ev (fun k => fringelaw42_QueueLevel.j1 k i n true false l num den) true := by
  have hl := h.len
  have r : rd_T42 l (i : Int) = l.getD i z42 := rfl
  have rm : rd_T42 (l.set i (dropP (l.getD i z42))) (i : Int) = dropP (l.getD i z42) := by
    show (l.set i (dropP (l.getD i z42))).getD i z42 = _
    rw [getD_set hi, if_pos rfl]
  have hset : ∀ y, ((l.set i y).length : Int) = l.length := fun y => by rw [List.length_set]
  refine Ev.step (fun k => by simp only [fringelaw42_QueueLevel.j1]; rfl) ?_
  rw [r]
  refine Ev.iteF (by simp) (Ev.iteT (by omega) (Ev.iteT (by omega) (Ev.bind (Drop_ev h hi) ?_)))
  dsimp only
  refine Ev.iteT (by simp) (Ev.bind (ref_Check _ _ _) ?_)
  rw [vq_iff.2 (drop_vq h hi), rm, hset]
  refine Ev.iteT (by simp) (Ev.iteT (by simp) (Ev.iteT (by omega) ?_))
  have e0 : ((dropP (l.getD i z42)).f3 != 0) = false := by simp [dropP]
  rw [e0]
  refine Ev.step (fun k => by simp only [fringelaw42_QueueLevel.j2]; rfl) ?_
  rw [rm]
  have e : (l.set i (dropP (l.getD i z42))).set (i : Int).toNat (⟨(dropP (l.getD i z42)).f0, (dropP (l.getD i z42)).f1, (dropP (l.getD i z42)).f2, (l.getD i z42).f3⟩ : S42) = l := by
    show (l.set i (dropP (l.getD i z42))).set i (l.getD i z42) = l
    rw [List.set_set, set_self hi]
  rw [e]
  refine Ev.iteF (by simp) (Ev.iteT (by omega) (Ev.iteT (by have := hset (dropP (l.getD i z42)); omega) (Ev.bind (same_refl l num den (by omega)) (Ev.iteT (by simp) (Ev.bind (Ask_ev h hi n) ?_)))))
  rcases ask_cases h hi n with c | c | c | ⟨c, hv, hn⟩
  · exact Ev.iteF (by omega) (Ev.iteT (by simp) (Ev.iteT c (Ev.now _)))
  · exact Ev.iteF (by omega) (Ev.iteT (by simp) (Ev.iteF (by omega) (Ev.iteT c (Ev.now _))))
  · refine Ev.iteF (by omega) (Ev.iteT (by simp) (Ev.iteF (by omega) (Ev.iteF (by omega) ?_)))
    rw [c]
    exact Ev.now _
  · rw [c]
    dsimp only
    refine Ev.iteT (by simp) (Ev.bind (ref_Check _ _ _) ?_)
    rw [vq_iff.2 hv, hset, bne_self_eq_false]
    exact Ev.iteT (by simp) (lev_j3 h hi n hn)
theorem lev_j0 (i n : Int) (l : List S42) (num den : Int) : Ev (fun f => fringelaw42_QueueLevel.j0 f i n true true l num den) true := by
  refine Ev.step (fun f => by simp only [fringelaw42_QueueLevel.j0]; rfl) ?_
  exact Ev.iteT (by simp) (Ev.now _)
theorem lev_j {l : List S42} {num den : Int} (h : VQ l num den) {i : Nat} (hi : i < l.length) (n : Int) : Ev (fun k => fringelaw42_QueueLevel.j0 k i n true false l num den) true := by
  refine Ev.step (fun f => by simp only [fringelaw42_QueueLevel.j0]; rfl) ?_
  refine Ev.iteF (by simp) (Ev.bind (impl_Next l num den h.NB) ?_)
  have hN : NextS l num den = if (serveS l num den).2.1 = 0 then ((serveS l num den).2.2.1, (serveS l num den).2.2.2.1, (serveS l num den).2.2.2.2, (serveS l num den).1, 0) else ([], 0, 0, 0, (serveS l num den).2.1) := by unfold NextS; rw [if_pos (vq_iff.2 h)]
  rw [hN]
  rcases serve_cases h with ⟨e, _⟩ | ⟨j, hj, _, e, _⟩ | ⟨j, hj, _, e, _, hu, _, hv, hlev⟩
  · rw [e]
    dsimp only
    rw [if_neg (show ¬ (6 : Int) = 0 by omega)]
    exact Ev.iteF (by simp) (lev_j1 h hi n)
  · rw [e]
    dsimp only
    rw [if_neg (show ¬ (16 : Int) = 0 by omega)]
    exact Ev.iteF (by simp) (lev_j1 h hi n)
  · rw [e]
    dsimp only
    rw [if_pos rfl]
    have hp := (pj.1 (h.at_ hj)).2
    have hm := h.hnum
    have hd := h.hden
    refine Ev.iteT (by simp) (Ev.bind (impl_Check _ _ _ hv.NB) ?_)
    rw [vq_iff.2 hv]
    refine Ev.iteT (by simp) (Ev.bind (ref_Check _ _ _) ?_)
    rw [vq_iff.2 hv]
    refine Ev.iteT (by simp) ?_
    dsimp only
    have w1 : wrap64 (((l.getD j z42).f2 + 1) * den) = ((l.getD j z42).f2 + 1) * den := wrP (A := 1000001) (B := 100) (by omega) (by omega) (by omega)
    have w2 : wrap64 (num * (l.getD j z42).f1) = num * (l.getD j z42).f1 := wrP (A := 1000000) (B := 100) (by omega) (by omega) (by omega)
    rw [w1, w2, decide_eq_false (by omega)]
    exact lev_j1 h hi n
theorem QueueLevel : ∀ (x0 : S24) (a1 : Int) (a2 : Int), G24 x0 → (Lit.int .i64 a1).wf = true → (Lit.int .i64 a2).wf = true → ∃ k, fringelaw42_QueueLevel.f k x0.f0 x0.f1 x0.f2 a1 a2 = some true := by
  intro x i n hx _ _
  have hl : x.f0.length ≤ 9223372036854775806 := by have := hx.1.1; omega
  refine Ev.rounds ?_
  simp only [fringelaw42_QueueLevel.f]
  refine Ev.bind alive_ev (Ev.bind (Great_ev x.f0 x.f1 x.f2 hl) ?_)
  refine Ev.ite (fun _ => lev_j0 _ _ _ _ _) (fun _ => Ev.bind (ref_Check x.f0 x.f1 x.f2) (Ev.ite (fun hc => Ev.ite (fun _ => lev_j0 _ _ _ _ _) (fun c1 => Ev.ite (fun _ => lev_j0 _ _ _ _ _) (fun c2 => ?_))) (fun _ => lev_j0 _ _ _ _ _)))
  have := lev_j (vq_iff.1 hc) (i := i.toNat) (by omega) n
  rw [show ((i.toNat : Nat) : Int) = i by omega] at this
  exact this
end Go.Proofs.Ytelmcaenemjppaa.Pure
