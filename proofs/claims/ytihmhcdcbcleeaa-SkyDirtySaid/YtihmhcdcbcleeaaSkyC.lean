/- What the function Dirty of the sky comes to: images. -/
import Derived.Test.YtihmhcdcbcleeaaQ10
import Derived.Test.YtihmhcdcbcleeaaQ11
import Derived.Test.YtihmhcdcbcleeaaSkyB
import Derived.Test.YtihmhcdcbcleeaaSkyM
namespace Go.Proofs.Ytihmhcdcbcleeaa.Pure
open Go.RowKit Go.Proofs.YtihmhcdcbcleeaaW.PrintWords Go.Proofs.YtihmhcdcbcleeaaW.PrintLast Go.Proofs.YtihmhcdcbcleeaaW.PrintMore Go.Proofs.Ytihmhcdcbcleeaa.Open Go.Proofs.Ytihmhcdcbcleeaa.Q Go.Proofs.Ytihmhcdcbcleeaa.Aid
/-! ### pixels -/
def pxs (l : List S33) (x y : Int) : List S85 → Int
  | [] => 0
  | b :: t => (sm b.f2 b.f3 l (-x) (-y)).1 + pxs l x y t
def pix (p : List S41) (l : List S33) (x y : Nat) : Int := pxs l x y (allOf 0 p)
def rowP (p : List S41) (l : List S33) (n y : Nat) : List Int := (List.range' 0 n).map (fun x => pix p l x y)
def imgP (p : List S41) (l : List S33) (n : Nat) : List (List Int) := (List.range' 0 n).map (rowP p l n)
theorem smw {l : List S33} (hl : l.length ≤ 16) (hg : ∀ s ∈ l, lampOk s = true) (u v x y : Int) : -16000 ≤ (sm u v l x y).1 ∧ (sm u v l x y).1 ≤ 16000 := by
  have := sm_bd u v x y l hg
  omega
theorem sd_l2 (p : List S41) (l : List S33) (hl : l.length ≤ 16) (hg : ∀ s ∈ l, lampOk s = true) (n : Int) (y x : Nat) (hy : y < 8) (hx : x < 8) (A T : List (List Int)) (P Z : List Int) (hA : A.length = y) (hP : P.length = x)
    (N : Nat) (bl : List S85) (hb : ∀ b ∈ bl, baseOk N b) (hbl : bl.length ≤ 1000) (r : List (List Int) × Int) : ∀ d i : Nat, bl.length = i + d → ∀ v : Int, (-(16000 * i : Int) ≤ v ∧ v ≤ 16000 * i) →
    Ev (fun k => sky_Dirty.l1 k p l n (A ++ (P ++ (v + pxs l x y (bl.drop i)) :: Z) :: T) y n y n ((x + 1 : Nat) : Int)) r →
    Ev (fun k => sky_Dirty.l2 k p l n (A ++ (P ++ v :: Z) :: T) y x n y n x bl bl.length i) r
  | 0, i, h, v, _, hk => by
    refine Ev.step (fun k => by simp only [sky_Dirty.l2]; rfl) ?_
    refine Ev.iteF (by omega) ?_
    rw [List.drop_eq_nil_of_le (by omega), pxs, Int.add_zero] at hk
    rw [wr1 x (by omega)]
    exact hk
  | d + 1, i, h, v, hv, hk => by
    have e1 : rd_L6 (A ++ (P ++ v :: Z) :: T) (y : Int) = P ++ v :: Z := getD_mid [] A _ T hA
    have e2 : rd (P ++ v :: Z) (x : Int) = v := getD_mid 0 P _ Z hP
    refine Ev.step (fun k => by simp only [sky_Dirty.l2]; rfl) ?_
    rw [e1, e2, Int.toNat_natCast, Int.toNat_natCast]
    refine Ev.iteT (by omega) (Ev.iteT (by omega) (Ev.iteT (by omega) (Ev.iteT (by omega) (Ev.iteT (by rw [List.length_append, List.length_cons]; omega) (Ev.iteT (by omega) (Ev.iteT (by rw [List.length_append, List.length_cons]; omega) ?_))))))
    rw [drop_get bl z85 i (by omega), pxs] at hk
    have hm := hb _ (mem_getD bl z85 i (by omega))
    have e3 : rd_T85 bl (i : Int) = bl.getD i z85 := rfl
    rw [e3]
    generalize bl.getD i z85 = b at hm hk ⊢
    have hs := smw hl hg b.f2 b.f3 (-x) (-y)
    rw [wr (x := -(x : Int)) (by omega) (by omega), wr (x := -(y : Int)) (by omega) (by omega)]
    refine Ev.bind (sky_see_ev l hl hg (-x) (-y) b.f0 b.f1 b.f2 b.f3 hm.2.2.2.1 hm.2.2.2.2 (by omega) (by omega)) ?_
    rw [wr1 i (by omega), wr (x := v + (sm b.f2 b.f3 l (-x) (-y)).1) (by omega) (by omega), set_mid P v _ Z hP, set_mid A _ _ T hA]
    refine sd_l2 p l hl hg n y x hy hx A T P Z hA hP N bl hb hbl r d (i + 1) (by omega) (v + (sm b.f2 b.f3 l (-x) (-y)).1) (by omega) ?_
    rw [Int.add_assoc]
    exact hk
theorem sd_l1 (p : List S41) (l : List S33) (hpl : p.length ≤ 8) (hp : ∀ s ∈ p, placeOk s = true) (hl : l.length ≤ 16) (hg : ∀ s ∈ l, lampOk s = true) (n : Nat) (hn : n ≤ 8) (y : Nat) (hy : y < 8) (A T : List (List Int)) (hA : A.length = y) (r : List (List Int) × Int) :
    ∀ d x : Nat, n = x + d → ∀ P : List Int, P.length = x →
    Ev (fun k => sky_Dirty.l0 k p l n (A ++ (P ++ (List.range' x d).map (fun x => pix p l x y)) :: T) n ((y + 1 : Nat) : Int)) r →
    Ev (fun k => sky_Dirty.l1 k p l n (A ++ (P ++ List.replicate d 0) :: T) y n y n x) r
  | 0, x, h, P, _, hk => by
    refine Ev.step (fun k => by simp only [sky_Dirty.l1]; rfl) ?_
    refine Ev.iteF (by omega) ?_
    rw [wr1 y (by omega)]
    exact hk
  | d + 1, x, h, P, hP, hk => by
    refine Ev.step (fun k => by simp only [sky_Dirty.l1]; rfl) ?_
    refine Ev.iteT (by omega) (Ev.bind (sky_baselines_ev p hpl hp) ?_)
    rw [List.replicate_succ]
    refine sd_l2 p l hl hg n y x hy (by omega) A T P (List.replicate d 0) hA hP (0 + p.length) (allOf 0 p) (allOf_ok 0 p hp) (by have := allOf_le hpl 0; omega) r (allOf 0 p).length 0 (by omega) 0 (by omega) ?_
    rw [List.drop_zero, Int.zero_add]
    have h1 := sd_l1 p l hpl hp hl hg n hn y hy A T hA r d (x + 1) (by omega) (P ++ [pix p l x y]) (by rw [List.length_append, List.length_singleton, hP])
    rw [List.append_assoc, List.append_assoc, List.singleton_append, List.singleton_append] at h1
    refine h1 ?_
    rw [List.range'_succ, List.map_cons] at hk
    exact hk
theorem sd_l0 (p : List S41) (l : List S33) (hpl : p.length ≤ 8) (hp : ∀ s ∈ p, placeOk s = true) (hl : l.length ≤ 16) (hg : ∀ s ∈ l, lampOk s = true) (n : Nat) (hn : n ≤ 8) :
    ∀ d y : Nat, n = y + d → ∀ A : List (List Int), A.length = y → Ev (fun k => sky_Dirty.l0 k p l n (A ++ List.replicate d []) n y) (A ++ (List.range' y d).map (rowP p l n), 0)
  | 0, y, h, A, _ => by
    refine Ev.step (fun k => by simp only [sky_Dirty.l0]; rfl) ?_
    refine Ev.iteF (by omega) ?_
    exact Ev.now _
  | d + 1, y, h, A, hA => by
    refine Ev.step (fun k => by simp only [sky_Dirty.l0]; rfl) ?_
    refine Ev.iteT (by omega) (Ev.iteT (by omega) (Ev.iteT (by omega) (Ev.iteT (by omega) (Ev.iteT (by rw [List.length_append, List.length_replicate]; omega) ?_))))
    rw [Int.toNat_natCast, Int.toNat_natCast, List.replicate_succ, set_mid A _ _ _ hA]
    have h1 := sd_l1 p l hpl hp hl hg n hn y (by omega) A (List.replicate d []) hA (A ++ (List.range' y (d + 1)).map (rowP p l n), 0) n 0 (by omega) [] rfl
    rw [List.nil_append, List.nil_append] at h1
    refine h1 ?_
    have h2 := sd_l0 p l hpl hp hl hg n hn d (y + 1) (by omega) (A ++ [rowP p l n y]) (by rw [List.length_append, List.length_singleton, hA])
    rw [List.append_assoc, List.append_assoc, List.singleton_append, List.singleton_append] at h2
    rw [List.range'_succ, List.map_cons]
    exact h2
def DirtyS (p : List S41) (l : List S33) (n : Int) : List (List Int) × Int := if bth p l = 0 then (if 1 ≤ n ∧ n ≤ 8 then (imgP p l n.toNat, 0) else ([], 2)) else ([], bth p l)
theorem sky_Dirty_ev (p : List S41) (l : List S33) (n : Int) (hp : ∀ s ∈ p, R2 s) : Ev (fun k => sky_Dirty.f k p l n) (DirtyS p l n) := by
  unfold DirtyS
  simp only [sky_Dirty.f]
  refine Ev.bind (sky_both_ev p l hp) ?_
  by_cases h : bth p l = 0
  · obtain ⟨h1, _, h2, h3, h4⟩ := bth_ok h
    rw [if_pos h]
    refine Ev.iteT h ?_
    by_cases hc : 1 ≤ n ∧ n ≤ 8
    · rw [if_pos hc]
      refine Ev.iteF (by omega) (Ev.step (fun k => by simp only [sky_Dirty.j0]; rfl) (Ev.iteF (by simp; omega) (Ev.iteT (by omega) (Ev.iteT (by omega) ?_))))
      have e : n = (n.toNat : Int) := by omega
      have := sd_l0 p l h1 h2 h3 h4 n.toNat (by omega) n.toNat 0 (by omega) [] rfl
      rw [List.nil_append, List.nil_append, ← e] at this
      exact this
    · rw [if_neg hc]
      refine Ev.ite (fun c1 => ?_) (fun c1 => ?_)
      · refine Ev.step (fun k => by simp only [sky_Dirty.j0]; rfl) ?_
        exact Ev.iteT (by simp) (Ev.now _)
      · refine Ev.step (fun k => by simp only [sky_Dirty.j0]; rfl) ?_
        exact Ev.iteT (by simp; omega) (Ev.now _)
  · rw [if_neg h]; exact Ev.iteF h (Ev.now _)

mutual
theorem same_img_l0 (m : List (List Int)) (hm : m.length ≤ 100000) (hr : ∀ s ∈ m, s.length ≤ 100000) : ∀ d i : Nat, m.length = i + d → Ev (fun k => fringeref41_SameImage.l0 k m m i) true
  | 0, i, h => by
    refine Ev.step (fun k => by simp only [fringeref41_SameImage.l0]; rfl) ?_
    exact Ev.iteF (by omega) (Ev.now _)
  | d + 1, i, h => by
    refine Ev.step (fun k => by simp only [fringeref41_SameImage.l0]; rfl) ?_
    refine Ev.iteT (by omega) (Ev.iteT (by omega) (Ev.iteT (by omega) (Ev.iteT (by simp) ?_)))
    exact same_img_l1 m hm hr d i (by omega) (m.getD i []).length 0 (by omega)
theorem same_img_l1 (m : List (List Int)) (hm : m.length ≤ 100000) (hr : ∀ s ∈ m, s.length ≤ 100000) (d i : Nat) (h : m.length = i + (d + 1)) : ∀ e j : Nat, (m.getD i []).length = j + e → Ev (fun k => fringeref41_SameImage.l1 k m m i j) true
  | 0, j, hj => by
    have e1 : rd_L6 m (i : Int) = m.getD i [] := rfl
    refine Ev.step (fun k => by simp only [fringeref41_SameImage.l1]; rfl) ?_
    rw [e1]
    refine Ev.iteT (by omega) (Ev.iteT (by omega) (Ev.iteF (by omega) ?_))
    rw [wr1 i (by omega)]
    exact same_img_l0 m hm hr d (i + 1) (by omega)
  | e + 1, j, hj => by
    have e1 : rd_L6 m (i : Int) = m.getD i [] := rfl
    have hq := hr _ (mem_getD m [] i (by omega))
    refine Ev.step (fun k => by simp only [fringeref41_SameImage.l1]; rfl) ?_
    rw [e1]
    refine Ev.iteT (by omega) (Ev.iteT (by omega) (Ev.iteT (by omega) (Ev.iteT (by omega) (Ev.iteT (by omega) (Ev.iteT (by omega) (Ev.iteT (by simp) ?_))))))
    rw [wr1 j (by omega)]
    exact same_img_l1 m hm hr d i h e (j + 1) (by omega)
end
theorem same_img (m : List (List Int)) (hm : m.length ≤ 100000) (hr : ∀ s ∈ m, s.length ≤ 100000) : Ev (fun k => fringeref41_SameImage.f k m m) true := by
  simp only [fringeref41_SameImage.f]
  exact Ev.iteT (by simp) (same_img_l0 m hm hr m.length 0 (by omega))

theorem imgP_le (p : List S41) (l : List S33) {n : Nat} (hn : n ≤ 8) : (imgP p l n).length ≤ 100000 ∧ ∀ s ∈ imgP p l n, s.length ≤ 100000 := by
  refine ⟨by unfold imgP; rw [List.length_map, List.length_range']; omega, ?_⟩
  intro s hs
  obtain ⟨y, _, rfl⟩ := List.mem_map.1 hs
  unfold rowP
  rw [List.length_map, List.length_range']
  omega
theorem DirtyS_le (p : List S41) (l : List S33) (n : Int) : (DirtyS p l n).1.length ≤ 100000 ∧ ∀ s ∈ (DirtyS p l n).1, s.length ≤ 100000 := by
  unfold DirtyS
  by_cases h : bth p l = 0
  · rw [if_pos h]
    by_cases hn : 1 ≤ n ∧ n ≤ 8
    · rw [if_pos hn]; exact imgP_le p l (by omega)
    · rw [if_neg hn]; simp
  · rw [if_neg h]; simp
end Go.Proofs.Ytihmhcdcbcleeaa.Pure
