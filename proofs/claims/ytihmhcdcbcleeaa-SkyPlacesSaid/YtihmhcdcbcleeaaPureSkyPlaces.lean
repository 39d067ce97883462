/- The plain statement of the law SkyPlaces. -/
import Derived.Test.YtihmhcdcbcleeaaQ14
import Derived.Test.YtihmhcdcbcleeaaSkyD
import Derived.Test.YtihmhcdcbcleeaaSkyM
namespace Go.Proofs.Ytihmhcdcbcleeaa.Pure
open Go.RowKit Go.Proofs.YtihmhcdcbcleeaaW.PrintWords Go.Proofs.YtihmhcdcbcleeaaW.PrintLast Go.Proofs.YtihmhcdcbcleeaaW.PrintMore Go.Proofs.Ytihmhcdcbcleeaa.Open Go.Proofs.Ytihmhcdcbcleeaa.Q Go.Proofs.Ytihmhcdcbcleeaa.Aid
theorem rd47_see (p : List S41) (l : List S33) (x y : Int) (i : Nat) (h : i < (allOf 0 p).length) : rd_T47 (visOf p l x y) (i : Int) = visB l x y ((allOf 0 p).getD i z85) := by
  show ((allOf 0 p).map (visB l x y)).getD i z47 = _
  rw [List.getD_eq_getElem?_getD, List.getD_eq_getElem?_getD, List.getElem?_map, List.getElem?_eq_getElem h]
  rfl
theorem see_len (p : List S41) (l : List S33) (x y : Int) : (visOf p l x y).length = (allOf 0 p).length := by unfold visOf; rw [List.length_map]
theorem places_l1 (p : List S41) (l : List S33) (h : bth p l = 0) : ∀ d i : Nat, (allOf 0 p).length = i + d →
    Ev (fun k => fringelaw41_SkyPlaces.l1 k p l true (visOf p l 0 0) i) true
  | 0, i, hi => by
    refine Ev.step (fun k => by simp only [fringelaw41_SkyPlaces.l1]; rfl) ?_
    exact Ev.iteF (by rw [see_len]; omega) (Ev.now _)
  | d + 1, i, hi => by
    have hc := bth_chk h
    obtain ⟨h1, _, h2, h3, h4⟩ := bth_ok h
    have hle := allOf_le h1 0
    have hm := mem_getD (allOf 0 p) z85 i (by omega)
    have hb := allOf_ok 0 p h2 _ hm
    have hat := allOf_at p p.length 0 (by omega) _ (by rw [List.drop_zero]; exact hm)
    rw [Nat.zero_add] at hb
    have e1 := rd47_see p l 0 0 i (by omega)
    have ll := see_len p l 0 0
    refine Ev.step (fun k => by simp only [fringelaw41_SkyPlaces.l1]; rfl) ?_
    rw [e1]
    generalize (allOf 0 p).getD i z85 = b at hb hat e1
    obtain ⟨b0, b1, b2, b3, b4⟩ := hb
    have q1 : (visB l 0 0 b).f0 = b.f0 := rfl
    have q2 : (visB l 0 0 b).f1 = b.f1 := rfl
    rw [q1, q2]
    refine Ev.iteT (by omega) (Ev.iteT (by omega) (Ev.iteF (by omega) (Ev.iteF (by omega) ?_)))
    refine Ev.step (fun k => by simp only [fringelaw41_SkyPlaces.j5]; rfl) ?_
    rw [e1, q1, q2]
    refine Ev.iteF (by simp; omega) (Ev.iteT (by omega) (Ev.iteT (by omega) (Ev.iteT (by omega) (Ev.iteT (by omega) (Ev.iteT (by omega) (Ev.iteT (by omega) ?_))))))
    have hs := h2 _ (mem_getD p z41 b.f0.toNat (by omega))
    have ht := h2 _ (mem_getD p z41 b.f1.toNat (by omega))
    have es : rd_T41 p b.f0 = p.getD b.f0.toNat z41 := rfl
    have et : rd_T41 p b.f1 = p.getD b.f1.toNat z41 := rfl
    rw [es, et] at hat
    rw [es, et]
    generalize p.getD b.f0.toNat z41 = s at hs hat
    generalize p.getD b.f1.toNat z41 = t at ht hat
    have hall : ∀ u ∈ [s, t], placeOk u = true := by
      intro u hu
      simp at hu
      rcases hu with rfl | rfl <;> assumption
    have hz : bth [s, t] l = 0 := ok_bth ⟨by simp, by simp, hall, (chk_ok hc).1, (chk_ok hc).2⟩
    refine Ev.bind (sky_See_ev [s, t] l (R2_ok hall)) ?_
    rw [SeeS_ok hz]
    have ev : visOf [s, t] l 0 0 = [visB l 0 0 ⟨0, 1, t.f0 - s.f0, t.f1 - s.f1⟩] := rfl
    rw [ev, ← hat.1, ← hat.2]
    have er : rd_T47 [visB l 0 0 ⟨0, 1, b.f2, b.f3⟩] 0 = visB l 0 0 ⟨0, 1, b.f2, b.f3⟩ := rfl
    rw [er]
    refine Ev.iteT (by simp) (Ev.iteT (by simp) (Ev.iteT (by simp) (Ev.iteF (by simp [visB]) ?_)))
    rw [wr1 i (by omega)]
    exact places_l1 p l h d (i + 1) (by omega)
theorem places_j3 (p : List S41) (l : List S33) (h : bth p l = 0) : Ev (fun k => fringelaw41_SkyPlaces.j3 k p l true (visOf p l 0 0)) true := by
  refine Ev.step (fun k => by simp only [fringelaw41_SkyPlaces.j3]; rfl) ?_
  exact places_l1 p l h (allOf 0 p).length 0 (by omega)
theorem R2_of {s : S41} {B : Nat} (hB : B ≤ 100000) (h : (-(B : Int) ≤ s.f0 ∧ s.f0 ≤ B) ∧ (-(B : Int) ≤ s.f1 ∧ s.f1 ≤ B)) : R2 s := ⟨by omega, by omega⟩
theorem places_j2 (p : List S41) (l : List S33) (h : bth p l = 0) (m : List S41) (hm : ∀ s ∈ m, R2 s) (hc : Cong 0 0 m p) : Ev (fun k => fringelaw41_SkyPlaces.j2 k p l true (visOf p l 0 0) m) true := by
  refine Ev.step (fun k => by simp only [fringelaw41_SkyPlaces.j2]; rfl) ?_
  refine Ev.bind (ref_Places_ev m) (Ev.ite (fun hp => ?_) (fun _ => places_j3 p l h))
  refine Ev.bind (sky_See_ev m l hm) ?_
  have e : visOf m l 0 0 = visOf p l 0 0 := allOf_cong l 0 0 0 0 0 m p hc
  rw [SeeS_ok (plc_chk hp (bth_chk h)), e]
  exact Ev.iteT (by simp) (Ev.bind (same_vis _ (visOf_le 0 0 h)) (Ev.iteT (by simp) (places_j3 p l h)))
def mv (x y : Int) (s : S41) : S41 := ⟨s.f0 + x, s.f1 + y⟩
theorem places_l0 (p : List S41) (l : List S33) (h : bth p l = 0) (x y : Int) (hx : -20 ≤ x ∧ x ≤ 20) (hy : -20 ≤ y ∧ y ≤ 20) (n : Int) (h0 : 0 ≤ n) (hn : n < p.length) : ∀ d i : Nat, p.length = i + d → ∀ A : List S41, A.length = i →
    A ++ (p.drop i).map (mv x y) = p.map (mv x y) → Ev (fun k => fringelaw41_SkyPlaces.l0 k p l x y n true (visOf p l 0 0) (A ++ p.drop i) p i) true
  | 0, i, hi, A, hA, hAp => by
    obtain ⟨h1, _, h2, h3, h4⟩ := bth_ok h
    rw [List.drop_eq_nil_of_le (by omega), List.map_nil] at hAp
    refine Ev.step (fun k => by simp only [fringelaw41_SkyPlaces.l0]; rfl) ?_
    refine Ev.iteF (by omega) (Ev.iteT (by omega) (Ev.iteT (by omega) (Ev.iteT (by omega) ?_)))
    rw [List.drop_eq_nil_of_le (by omega), hAp]
    simp only [Option.bind_some]
    have hs := ok41 (h2 _ (mem_getD p z41 n.toNat (by omega)))
    have es : rd_T41 p n = p.getD n.toNat z41 := rfl
    rw [es, wr (x := 4 * x) (by omega) (by omega), wr (x := 4 * y) (by omega) (by omega), wr (x := (p.getD n.toNat z41).f0 + 4 * x) (by omega) (by omega), wr (x := (p.getD n.toNat z41).f1 - 4 * y) (by omega) (by omega)]
    have hj : Ev (fun k => fringelaw41_SkyPlaces.j2 k p l true (visOf p l 0 0) (p.set n.toNat ⟨(p.getD n.toNat z41).f0 + 4 * x, (p.getD n.toNat z41).f1 - 4 * y⟩)) true := by
      refine places_j2 p l h _ (fun s hm => ?_) (cong_set _ p n.toNat (by omega) (by simp only; omega) (by simp only; omega))
      rcases List.mem_or_eq_of_mem_set hm with hm | rfl
      · exact R2_ok h2 s hm
      · exact ⟨by simp only; omega, by simp only; omega⟩
    refine Ev.bind (ref_Places_ev _) (Ev.ite (fun hp => ?_) (fun _ => hj))
    refine Ev.bind (sky_See_ev _ l (R2_ok ?_)) ?_
    · exact (bth_ok (plc_chk hp (bth_chk h))).2.2.1
    · have e : visOf (p.map (mv x y)) l 0 0 = visOf p l 0 0 := allOf_cong l 0 0 x y 0 (p.map (mv x y)) p (cong_map x y p)
      rw [SeeS_ok (plc_chk hp (bth_chk h)), e]
      exact Ev.iteT (by simp) (Ev.bind (same_vis _ (visOf_le 0 0 h)) (Ev.iteT (by simp) hj))
  | d + 1, i, hi, A, hA, hAp => by
    obtain ⟨h1, _, h2, h3, h4⟩ := bth_ok h
    refine Ev.step (fun k => by simp only [fringelaw41_SkyPlaces.l0]; rfl) ?_
    refine Ev.iteT (by omega) (Ev.iteT (by omega) (Ev.iteT (by rw [List.length_append, List.length_drop]; omega) ?_))
    rw [drop_get p z41 i (by omega), List.map_cons] at hAp
    have hs := ok41 (h2 _ (mem_getD p z41 i (by omega)))
    have es : rd_T41 p (i : Int) = p.getD i z41 := rfl
    rw [drop_get p z41 i (by omega), es, Int.toNat_natCast, wr1 i (by omega)]
    generalize p.getD i z41 = s at hs hAp
    rw [set_mid A _ _ _ hA, wr (x := s.f0 + x) (by omega) (by omega), wr (x := s.f1 + y) (by omega) (by omega)]
    have ih := places_l0 p l h x y hx hy n h0 hn d (i + 1) (by omega) (A ++ [mv x y s]) (by rw [List.length_append, List.length_singleton, hA]) (by rw [List.append_assoc, List.singleton_append]; exact hAp)
    rw [List.append_assoc, List.singleton_append] at ih
    exact ih
theorem SkyPlaces : ∀ (l0 : List (S41)) (l1 : List (S33)) (a2 : Int) (a3 : Int) (a4 : Int), GL41 l0 → GL33 l1 → (Lit.int .i64 a2).wf = true → (Lit.int .i64 a3).wf = true → (Lit.int .i64 a4).wf = true → ∃ k, fringelaw41_SkyPlaces.f k l0 l1 a2 a3 a4 = some true := by
  intro p l x y n hp _ _ _ _
  refine Ev.rounds ?_
  have hR := GL41_R2 hp
  have hj : Ev (fun k => fringelaw41_SkyPlaces.j0 k p l x y n true true) true := by
    refine Ev.step (fun k => by simp only [fringelaw41_SkyPlaces.j0]; rfl) ?_
    exact Ev.iteT (by simp) (Ev.now _)
  simp only [fringelaw41_SkyPlaces.f]
  refine Ev.bind alive_ev (Ev.bind (valid_ev p l) (Ev.ite (fun h => ?_) (fun _ => hj)))
  rw [decide_eq_true_eq] at h
  refine Ev.ite (fun _ => hj) (fun c1 => Ev.ite (fun _ => hj) (fun c2 => Ev.ite (fun _ => hj) (fun c3 => Ev.ite (fun _ => hj) (fun c4 => Ev.ite (fun _ => hj) (fun c5 => Ev.ite (fun _ => hj) (fun c6 => ?_))))))
  refine Ev.step (fun k => by simp only [fringelaw41_SkyPlaces.j0]; rfl) ?_
  refine Ev.iteF (by simp) (Ev.bind (sky_See_ev p l hR) ?_)
  rw [SeeS_ok h]
  have h1 := (bth_ok h).1
  refine Ev.iteT (by simp) ?_
  simp only [Option.bind_some, List.nil_append, List.length_nil]
  refine Ev.iteT (by omega) (Ev.iteT (by omega) ?_)
  have := places_l0 p l h x y (by omega) (by omega) n (by omega) (by omega) p.length 0 (by omega) [] rfl (by rw [List.drop_zero, List.nil_append])
  rw [List.drop_zero, List.nil_append] at this
  exact this
end Go.Proofs.Ytihmhcdcbcleeaa.Pure
