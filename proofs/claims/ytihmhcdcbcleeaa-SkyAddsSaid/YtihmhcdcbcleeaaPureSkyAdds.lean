/- The plain statement of the law SkyAdds. -/
import Derived.Test.YtihmhcdcbcleeaaQ31
import Derived.Test.YtihmhcdcbcleeaaSkyV
namespace Go.Proofs.Ytihmhcdcbcleeaa.Pure
open Go.RowKit Go.Proofs.YtihmhcdcbcleeaaW.PrintWords Go.Proofs.YtihmhcdcbcleeaaW.PrintLast Go.Proofs.YtihmhcdcbcleeaaW.PrintMore Go.Proofs.Ytihmhcdcbcleeaa.Open Go.Proofs.Ytihmhcdcbcleeaa.Q Go.Proofs.Ytihmhcdcbcleeaa.Aid
theorem ad_rd (p : List S41) (l : List S33) (x y : Int) (i : Nat) (h : i < (allOf 0 p).length) : rd_T47 (visOf p l x y) (i : Int) = visB l x y ((allOf 0 p).getD i z85) := by
  show ((allOf 0 p).map (visB l x y)).getD i z47 = _
  rw [List.getD_eq_getElem?_getD, List.getD_eq_getElem?_getD, List.getElem?_map, List.getElem?_eq_getElem h]
  rfl
theorem ad_len (p : List S41) (l : List S33) (x y : Int) : (visOf p l x y).length = (allOf 0 p).length := by unfold visOf; rw [List.length_map]
theorem adds_end (p : List S41) (b : List S33) (hb : bth p b = 0) (V1 V2 : List S47) (n : Int) (hn : ¬ n < (V1.length : Int)) :
    Ev (fun k => fringelaw41_SkyAdds.l0 k p true V1 V2 b (visOf p b 0 0) n) true := by
  have hc := bth_chk hb
  have hp := bth_plc hb
  have hR := R2_ok (bth_ok hb).2.2.1
  have hg := (chk_ok hc).2
  refine Ev.step (fun k => by simp only [fringelaw41_SkyAdds.l0]; rfl) ?_
  refine Ev.iteF hn (Ev.bind (sky_Merge_ev b) ?_)
  by_cases ha : (List.range 64).all (fun n => decide (fl b n ≤ 1000)) = true
  · have e : MergeS b = (merged b, 0) := by unfold MergeS; rw [if_pos hc, if_pos ha]
    have hc2 := (merged_chk hc).2 ha
    have e2 : MergeS (merged b) = (merged b, 0) := by
      unfold MergeS
      rw [if_pos hc2, merged_merged hg, if_pos ((merged_chk hc2).1 (by rw [merged_merged hg]; exact hc2))]
    rw [e]
    refine Ev.iteT (by simp) (Ev.bind (sky_See_ev p (merged b) hR) (Ev.bind (sky_Merge_ev (merged b)) ?_))
    rw [SeeS_ok (plc_chk hp hc2), e2, visOf_merged p hg]
    refine Ev.iteT (by simp) (Ev.iteT (by simp) (Ev.bind (same_vis _ (visOf_le 0 0 hb)) (Ev.iteT rfl (Ev.iteT (by simp) (Ev.bind (same_ev _ ?_) (Ev.now _))))))
    have := merged_len hg
    have := (chk_ok hc).1
    simp only
    omega
  · have e : MergeS b = ([], 16) := by unfold MergeS; rw [if_pos hc, if_neg ha]
    rw [e]
    exact Ev.iteF (by simp) (Ev.iteT (by simp) (Ev.some_of (by simp)))
theorem adds_l0 (p : List S41) (l m : List S33) (hl : bth p l = 0) (hm : bth p m = 0) (hb : bth p (l ++ m) = 0) : ∀ d i : Nat, (allOf 0 p).length = i + d →
    Ev (fun k => fringelaw41_SkyAdds.l0 k p true (visOf p l 0 0) (visOf p m 0 0) (l ++ m) (visOf p (l ++ m) 0 0) i) true
  | 0, i, hi => adds_end p (l ++ m) hb _ _ i (by rw [ad_len]; omega)
  | d + 1, i, hi => by
    obtain ⟨h1, _, h2, h3, h4⟩ := bth_ok hl
    obtain ⟨_, _, _, h5, h6⟩ := bth_ok hm
    have hle := allOf_le h1 0
    have hmm := mem_getD (allOf 0 p) z85 i (by omega)
    have hbo := allOf_ok 0 p h2 _ hmm
    have e1 := ad_rd p l 0 0 i (by omega)
    have e2 := ad_rd p m 0 0 i (by omega)
    have e3 := ad_rd p (l ++ m) 0 0 i (by omega)
    have l1 := ad_len p l 0 0
    have l2 := ad_len p m 0 0
    have l3 := ad_len p (l ++ m) 0 0
    refine Ev.step (fun k => by simp only [fringelaw41_SkyAdds.l0]; rfl) ?_
    rw [e1, e2, e3]
    generalize (allOf 0 p).getD i z85 = b at hbo
    obtain ⟨b0, b1, b2, b3, b4⟩ := hbo
    have s1 := sm_bd b.f2 b.f3 0 0 l h4
    have s2 := sm_bd b.f2 b.f3 0 0 m h6
    have s3 := sm_append b.f2 b.f3 0 0 l m
    refine Ev.iteT (by omega) (Ev.iteT (by omega) (Ev.iteT (by omega) (Ev.bind (cxAdd1 (a := (sm b.f2 b.f3 l 0 0).1) (b := (sm b.f2 b.f3 l 0 0).2) (c := (sm b.f2 b.f3 m 0 0).1) (d := (sm b.f2 b.f3 m 0 0).2) (by omega) (by omega) (by omega) (by omega)) ?_)))
    refine Ev.iteT rfl (Ev.iteT (by omega) (Ev.iteF (by simp [visB, s3]) (Ev.iteT rfl (Ev.iteT rfl (Ev.iteT rfl (Ev.iteT rfl (Ev.iteF (by show ¬ (b.f0 ≥ b.f1); omega) (Ev.iteT rfl ?_))))))))
    rw [wr1 i (by omega)]
    exact adds_l0 p l m hl hm hb d (i + 1) (by omega)
theorem SkyAdds : ∀ (l0 : List (S41)) (l1 : List (S33)) (l2 : List (S33)), GL41 l0 → GL33 l1 → GL33 l2 → ∃ k, fringelaw41_SkyAdds.f k l0 l1 l2 = some true := by
  intro p l m hp hl hm
  refine Ev.rounds ?_
  have hR := GL41_R2 hp
  have hj : Ev (fun k => fringelaw41_SkyAdds.j0 k p l m true true) true := by
    refine Ev.step (fun k => by simp only [fringelaw41_SkyAdds.j0]; rfl) ?_
    exact Ev.iteT (by simp) (Ev.now _)
  simp only [fringelaw41_SkyAdds.f]
  refine Ev.bind alive_ev (Ev.bind (valid_ev p l) (Ev.ite (fun h => Ev.bind (valid_ev p m) (Ev.ite (fun h' => ?_) (fun _ => hj))) (fun _ => hj)))
  rw [decide_eq_true_eq] at h h'
  obtain ⟨g1, g2, g3, g4, g5⟩ := bth_ok h
  obtain ⟨_, _, _, g6, g7⟩ := bth_ok h'
  rw [wr (by omega) (by omega)]
  refine Ev.ite (fun _ => hj) (fun c1 => ?_)
  have hb : bth p (l ++ m) = 0 := plc_chk (bth_plc h) (ok_chk (by rw [List.length_append]; omega) (fun s hs => (List.mem_append.1 hs).elim (g5 s) (g7 s)))
  refine Ev.step (fun k => by simp only [fringelaw41_SkyAdds.j0]; rfl) ?_
  simp only [Option.bind_some, List.nil_append]
  refine Ev.iteF (by simp) (Ev.bind (sky_See_ev p l hR) (Ev.bind (sky_See_ev p m hR) (Ev.iteT (by simp; omega) (Ev.iteT (by omega) (Ev.bind (sky_See_ev p (l ++ m) hR) ?_)))))
  rw [SeeS_ok h, SeeS_ok h', SeeS_ok hb]
  have hlen : ((visOf p l 0 0).length : Int) = wrap64 (Int.tdiv (wrap64 ((p.length : Int) * wrap64 ((p.length : Int) - 1))) 2) := by
    rw [ad_len]
    have h8 := allOf_len 0 p
    have hm1 := mul_bd (a := (p.length : Int)) (b := (p.length : Int) - 1) (A := 8) (B := 8) (by omega) (by omega)
    rw [wr (x := (p.length : Int) - 1) (by omega) (by omega), wr (x := (p.length : Int) * ((p.length : Int) - 1)) (by omega) (by omega)]
    have e : (p.length : Int) * ((p.length : Int) - 1) = ((allOf 0 p).length : Int) * 2 := by
      rw [show ((allOf 0 p).length : Int) * 2 = ((((allOf 0 p).length * 2 : Nat)) : Int) by omega, h8]
      rcases Nat.eq_zero_or_pos p.length with h0 | h0
      · rw [h0]; rfl
      · rw [Int.natCast_mul, Int.natCast_sub (by omega)]; rfl
    have hle := allOf_le g1 0
    rw [e, Int.mul_tdiv_cancel _ (by omega), wr (by omega) (by omega)]
  refine Ev.iteT rfl (Ev.iteT rfl (Ev.iteT rfl (Ev.iteT hlen (Ev.iteT (by simp only [ad_len]) ?_))))
  have e : (((visOf p (l ++ m) 0 0).length : Int) != ((visOf p l 0 0).length : Int)) = false := by simp [ad_len]
  rw [e]
  refine Ev.step (fun k => by simp only [fringelaw41_SkyAdds.j1]; rfl) ?_
  exact Ev.iteF (by simp) (adds_l0 p l m h h' hb (allOf 0 p).length 0 (by omega))
end Go.Proofs.Ytihmhcdcbcleeaa.Pure
