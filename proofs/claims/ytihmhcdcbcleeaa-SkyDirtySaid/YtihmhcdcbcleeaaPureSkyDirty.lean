/- The plain statement of the law SkyDirty. -/
import Derived.Test.YtihmhcdcbcleeaaQ16
import Derived.Test.YtihmhcdcbcleeaaSkyC
import Derived.Test.YtihmhcdcbcleeaaSkyD
namespace Go.Proofs.Ytihmhcdcbcleeaa.Pure
open Go.RowKit Go.Proofs.YtihmhcdcbcleeaaW.PrintWords Go.Proofs.YtihmhcdcbcleeaaW.PrintLast Go.Proofs.YtihmhcdcbcleeaaW.PrintMore Go.Proofs.Ytihmhcdcbcleeaa.Open Go.Proofs.Ytihmhcdcbcleeaa.Q Go.Proofs.Ytihmhcdcbcleeaa.Aid
theorem img_len (p : List S41) (l : List S33) (n : Nat) : (imgP p l n).length = n := by unfold imgP; rw [List.length_map, List.length_range']
theorem row_len (p : List S41) (l : List S33) (n y : Nat) : (rowP p l n y).length = n := by unfold rowP; rw [List.length_map, List.length_range']
theorem getD_range {α : Type} (f : Nat → α) (z : α) (n i : Nat) (h : i < n) : ((List.range' 0 n).map f).getD i z = f i := by
  rw [List.getD_eq_getElem?_getD, List.getElem?_map, List.getElem?_range' h]
  simp
theorem rd_img (p : List S41) (l : List S33) (n y : Nat) (h : y < n) : rd_L6 (imgP p l n) (y : Int) = rowP p l n y := getD_range (rowP p l n) [] n y h
theorem rd_row (p : List S41) (l : List S33) (n x y : Nat) (h : x < n) : rd (rowP p l n y) (x : Int) = pix p l x y := getD_range (fun x => pix p l x y) 0 n x h
theorem DirtyS_ok {p : List S41} {l : List S33} {n : Nat} (h : bth p l = 0) (hn : 1 ≤ n ∧ n ≤ 8) : DirtyS p l n = (imgP p l n, 0) := by
  unfold DirtyS
  rw [if_pos h, if_pos (by omega), Int.toNat_natCast]
theorem square_l0 (p : List S41) (l : List S33) (n : Nat) (hn : n ≤ 8) : ∀ d i : Nat, n = i + d → Ev (fun k => fringelaw41_square.l0 k (imgP p l n) n i) true
  | 0, i, h => by
    refine Ev.step (fun k => by simp only [fringelaw41_square.l0]; rfl) ?_
    exact Ev.iteF (by omega) (Ev.now _)
  | d + 1, i, h => by
    refine Ev.step (fun k => by simp only [fringelaw41_square.l0]; rfl) ?_
    rw [rd_img p l n i (by omega), row_len, img_len, wr1 i (by omega)]
    exact Ev.iteT (by omega) (Ev.iteT (by omega) (Ev.iteT (by omega) (Ev.iteT (by simp) (square_l0 p l n hn d (i + 1) (by omega)))))
theorem square_ev (p : List S41) (l : List S33) (n : Nat) (hn : n ≤ 8) : Ev (fun k => fringelaw41_square.f k (imgP p l n) n) true := by
  simp only [fringelaw41_square.f]
  rw [img_len]
  exact Ev.iteT (by simp) (square_l0 p l n hn n 0 (by omega))
theorem pxs_append (l m : List S33) (x y : Int) : ∀ bl : List S85, pxs (l ++ m) x y bl = pxs l x y bl + pxs m x y bl
  | [] => rfl
  | b :: t => by
    rw [pxs, pxs, pxs, sm_append, pxs_append l m x y t]
    simp only
    omega
theorem pxs_bd {l : List S33} (hl : l.length ≤ 16) (hg : ∀ s ∈ l, lampOk s = true) (x y : Int) : ∀ bl : List S85, -(16000 * bl.length : Int) ≤ pxs l x y bl ∧ pxs l x y bl ≤ 16000 * bl.length
  | [] => by simp [pxs]
  | b :: t => by
    have h1 := smw hl hg b.f2 b.f3 (-x) (-y)
    have h2 := pxs_bd hl hg x y t
    rw [pxs, List.length_cons]
    omega
theorem pix_bd {p : List S41} {l : List S33} (h : bth p l = 0) (x y : Nat) : -448000 ≤ pix p l x y ∧ pix p l x y ≤ 448000 := by
  obtain ⟨h1, _, h2, h3, h4⟩ := bth_ok h
  have h5 := pxs_bd h3 h4 x y (allOf 0 p)
  have h6 := allOf_le h1 0
  unfold pix
  omega
theorem one_bd (s : S33) (hs : lampOk s = true) (x y : Int) : ∀ bl : List S85, -(s.f2 * bl.length) ≤ pxs [s] x y bl ∧ pxs [s] x y bl ≤ s.f2 * bl.length
  | [] => by simp [pxs]
  | b :: t => by
    have h1 := ok33 hs
    have h2 := one_bd s hs x y t
    have h3 := rot_bd (q := b.f2 * (s.f0 + -x) + b.f3 * (s.f1 + -y)) (g := (s.f2, 0)) (B := s.f2) (by simp only; omega) (by simp only; omega)
    have e : (sm b.f2 b.f3 [s] (-x) (-y)).1 = (rot (b.f2 * (s.f0 + -x) + b.f3 * (s.f1 + -y)) (s.f2, 0)).1 := by
      rw [sm_cons]
      show _ + 0 = _
      rw [Int.add_zero]
    rw [pxs, List.length_cons, e]
    have e2 : s.f2 * ((t.length + 1 : Nat) : Int) = s.f2 * (t.length : Int) + s.f2 := by
      rw [show ((t.length + 1 : Nat) : Int) = (t.length : Int) + 1 by omega, Int.mul_add, Int.mul_one]
    rw [e2]
    omega
theorem one_top (s : S33) : ∀ bl : List S85, pxs [s] s.f0 s.f1 bl = s.f2 * bl.length
  | [] => by simp [pxs]
  | b :: t => by
    have e : (sm b.f2 b.f3 [s] (-s.f0) (-s.f1)).1 = s.f2 := by
      rw [sm_cons]
      show (rot (b.f2 * (s.f0 + -s.f0) + b.f3 * (s.f1 + -s.f1)) (s.f2, 0)).1 + 0 = _
      rw [Int.add_right_neg, Int.add_right_neg, Int.mul_zero, Int.mul_zero, Int.add_zero]
      simp [rot]
    rw [pxs, List.length_cons, e, one_top s t]
    rw [show ((t.length + 1 : Nat) : Int) = (t.length : Int) + 1 by omega, Int.mul_add, Int.mul_one]
    omega
theorem half_eq (P : Int) (h : 0 ≤ P ∧ P ≤ 56000) : wrap64 (Int.tdiv (wrap64 P) 2) = P / 2 := by
  rw [wr (x := P) (by omega) (by omega), Int.tdiv_eq_ediv_of_nonneg (by omega), wr (by omega) (by omega)]
theorem peak_eq (p : List S41) (hp : p.length ≤ 8) (f : Int) (hf : 0 ≤ f ∧ f ≤ 1000) : wrap64 (Int.tdiv (wrap64 ((wrap64 (f * (p.length : Int))) * (wrap64 ((p.length : Int) - 1)))) 2) = f * ((allOf 0 p).length : Int) := by
  have h := allOf_len 0 p
  generalize (allOf 0 p).length = m at h
  generalize p.length = n at h hp
  have hn : (n = 0 ∧ m = 0) ∨ (n = 1 ∧ m = 0) ∨ (n = 2 ∧ m = 1) ∨ (n = 3 ∧ m = 3) ∨ (n = 4 ∧ m = 6) ∨ (n = 5 ∧ m = 10) ∨ (n = 6 ∧ m = 15) ∨ (n = 7 ∧ m = 21) ∨ (n = 8 ∧ m = 28) := by
    have h8 : n = 0 ∨ n = 1 ∨ n = 2 ∨ n = 3 ∨ n = 4 ∨ n = 5 ∨ n = 6 ∨ n = 7 ∨ n = 8 := by omega
    rcases h8 with rfl | rfl | rfl | rfl | rfl | rfl | rfl | rfl | rfl <;> simp only [Nat.reduceMul, Nat.reduceSub] at h <;> omega
  have hm1 := mul_bd (a := f) (b := (n : Int)) (A := 1000) (B := 8) (by omega) (by omega)
  rw [wr (x := f * (n : Int)) (by omega) (by omega), wr (x := (n : Int) - 1) (by omega) (by omega)]
  rcases hn with ⟨rfl, rfl⟩ | ⟨rfl, rfl⟩ | ⟨rfl, rfl⟩ | ⟨rfl, rfl⟩ | ⟨rfl, rfl⟩ | ⟨rfl, rfl⟩ | ⟨rfl, rfl⟩ | ⟨rfl, rfl⟩ | ⟨rfl, rfl⟩
  all_goals
    rw [half_eq _ (by omega)]
    omega
mutual
theorem dirt_l2 (p : List S41) (s : S33) (h : bth p [s] = 0) (n : Nat) (hn : n ≤ 8) : ∀ d y : Nat, n = y + d → Ev (fun k => fringelaw41_SkyDirty.l2 k [s] n true (imgP p [s] n) (s.f2 * ((allOf 0 p).length : Int)) y) true
  | 0, y, hy => by
    refine Ev.step (fun k => by simp only [fringelaw41_SkyDirty.l2]; rfl) ?_
    exact Ev.iteF (by omega) (Ev.now _)
  | d + 1, y, hy => by
    refine Ev.step (fun k => by simp only [fringelaw41_SkyDirty.l2]; rfl) ?_
    exact Ev.iteT (by omega) (dirt_l3 p s h n hn d y hy n 0 (by omega))
theorem dirt_l3 (p : List S41) (s : S33) (h : bth p [s] = 0) (n : Nat) (hn : n ≤ 8) (d y : Nat) (hy : n = y + (d + 1)) : ∀ e x : Nat, n = x + e → Ev (fun k => fringelaw41_SkyDirty.l3 k [s] n true (imgP p [s] n) (s.f2 * ((allOf 0 p).length : Int)) y x) true
  | 0, x, hx => by
    refine Ev.step (fun k => by simp only [fringelaw41_SkyDirty.l3]; rfl) ?_
    rw [wr1 y (by omega)]
    exact Ev.iteF (by omega) (dirt_l2 p s h n hn d (y + 1) (by omega))
  | e + 1, x, hx => by
    refine Ev.step (fun k => by simp only [fringelaw41_SkyDirty.l3]; rfl) ?_
    have hs := (bth_ok h).2.2.2.2 s (by simp)
    have h33 := ok33 hs
    have hal := allOf_le (bth_ok h).1 0
    have hb := one_bd s hs x y (allOf 0 p)
    have hm := mul_bd (a := s.f2) (b := ((allOf 0 p).length : Int)) (A := 1000) (B := 28) (by omega) (by omega)
    have ht := one_top s (allOf 0 p)
    have hq : rd (rd_L6 (imgP p [s] n) (y : Int)) (x : Int) = pxs [s] x y (allOf 0 p) := by rw [rd_img p [s] n y (by omega), rd_row p [s] n x y (by omega)]; rfl
    have hz : rd_T33 [s] 0 = s := rfl
    rw [hq, hz, rd_img p [s] n y (by omega), row_len, img_len, wr1 x (by omega)]
    generalize hP : s.f2 * ((allOf 0 p).length : Int) = P at hb hm ht
    rw [wr (x := -P) (by omega) (by omega)]
    have ih := dirt_l3 p s h n hn d y hy e (x + 1) (by omega)
    rw [hP] at ih
    refine Ev.iteT (by omega) (Ev.iteT (by omega) (Ev.iteT (by omega) (Ev.iteT (by omega) (Ev.iteT (by omega) (Ev.iteF (by omega) (Ev.iteF (by omega) (Ev.iteT (by simp) ?_)))))))
    refine Ev.ite (fun c1 => Ev.ite (fun c2 => ?_) (fun _ => ih)) (fun _ => ih)
    refine Ev.iteT ?_ ih
    rw [c1, c2]
    exact ht
end
mutual
theorem dirt_l0 (p : List S41) (l m : List S33) (h : bth p l = 0) (h' : bth p m = 0) (n : Nat) (hn : n ≤ 8) (hs : bth p (l ++ m) = 0) : ∀ d y : Nat, n = y + d → Ev (fun k => fringelaw41_SkyDirty.l0 k p l n true (imgP p l n) (imgP p m n) (imgP p (l ++ m) n) y) true
  | 0, y, hy => by
    refine Ev.step (fun k => by simp only [fringelaw41_SkyDirty.l0]; rfl) ?_
    refine Ev.iteF (by omega) (Ev.ite (fun c => Ev.iteT (by omega) ?_) (fun _ => Ev.now _))
    match l, c, h with
    | [s], _, h =>
      have hz : rd_T33 [s] 0 = s := rfl
      have h33 := ok33 ((bth_ok h).2.2.2.2 s (by simp))
      rw [hz, peak_eq p (bth_ok h).1 s.f2 (by omega)]
      exact dirt_l2 p s h n hn n 0 (by omega)
  | d + 1, y, hy => by
    refine Ev.step (fun k => by simp only [fringelaw41_SkyDirty.l0]; rfl) ?_
    exact Ev.iteT (by omega) (dirt_l1 p l m h h' n hn hs d y hy n 0 (by omega))
theorem dirt_l1 (p : List S41) (l m : List S33) (h : bth p l = 0) (h' : bth p m = 0) (n : Nat) (hn : n ≤ 8) (hs : bth p (l ++ m) = 0) (d y : Nat) (hy : n = y + (d + 1)) : ∀ e x : Nat, n = x + e → Ev (fun k => fringelaw41_SkyDirty.l1 k p l n true (imgP p l n) (imgP p m n) (imgP p (l ++ m) n) y x) true
  | 0, x, hx => by
    refine Ev.step (fun k => by simp only [fringelaw41_SkyDirty.l1]; rfl) ?_
    rw [wr1 y (by omega)]
    exact Ev.iteF (by omega) (dirt_l0 p l m h h' n hn hs d (y + 1) (by omega))
  | e + 1, x, hx => by
    refine Ev.step (fun k => by simp only [fringelaw41_SkyDirty.l1]; rfl) ?_
    have b1 := pix_bd h x y
    have b2 := pix_bd h' x y
    have ea : pix p l x y + pix p m x y = pix p (l ++ m) x y := by unfold pix; rw [pxs_append]
    rw [rd_img p l n y (by omega), rd_img p m n y (by omega), rd_img p (l ++ m) n y (by omega), rd_row p l n x y (by omega), rd_row p m n x y (by omega), rd_row p (l ++ m) n x y (by omega), row_len, row_len, row_len, img_len, img_len, img_len, wr1 x (by omega), wr (x := pix p l x y + pix p m x y) (by omega) (by omega)]
    have ih := dirt_l1 p l m h h' n hn hs d y hy e (x + 1) (by omega)
    exact Ev.iteT (by omega) (Ev.iteT (by omega) (Ev.iteT (by omega) (Ev.iteT (by omega) (Ev.iteT (by omega) (Ev.iteT (by omega) (Ev.iteT (by omega) (Ev.iteT (by omega) (Ev.iteT (by omega) (Ev.iteT ea ih)))))))))
end
theorem SkyDirty : ∀ (l0 : List (S41)) (l1 : List (S33)) (l2 : List (S33)) (a3 : Int), GL41 l0 → GL33 l1 → GL33 l2 → (Lit.int .i64 a3).wf = true → ∃ k, fringelaw41_SkyDirty.f k l0 l1 l2 a3 = some true := by
  intro p l m n hp hl hm _
  refine Ev.rounds ?_
  have hR := GL41_R2 hp
  have hj : Ev (fun k => fringelaw41_SkyDirty.j0 k p l m n true true) true := by
    refine Ev.step (fun k => by simp only [fringelaw41_SkyDirty.j0]; rfl) ?_
    exact Ev.iteT (by simp) (Ev.now _)
  simp only [fringelaw41_SkyDirty.f]
  refine Ev.bind alive_ev (Ev.bind (valid_ev p l) (Ev.ite (fun h => ?_) (fun _ => hj)))
  refine Ev.bind (valid_ev p m) (Ev.ite (fun h' => ?_) (fun _ => hj))
  rw [decide_eq_true_eq] at h h'
  obtain ⟨h1, h1', h2, h3, h4⟩ := bth_ok h
  obtain ⟨_, _, _, h5, h6⟩ := bth_ok h'
  rw [wr (x := (l.length : Int) + (m.length : Int)) (by omega) (by omega)]
  refine Ev.ite (fun _ => hj) (fun c1 => Ev.ite (fun _ => hj) (fun c2 => Ev.ite (fun _ => hj) (fun c3 => ?_)))
  have hs : bth p (l ++ m) = 0 := ok_bth ⟨h1, h1', h2, by rw [List.length_append]; omega, fun s hs => by rcases List.mem_append.1 hs with hs | hs; exact h4 s hs; exact h6 s hs⟩
  obtain ⟨N, rfl⟩ : ∃ N : Nat, n = N := ⟨n.toNat, by omega⟩
  have hN : 1 ≤ N ∧ N ≤ 8 := by omega
  refine Ev.step (fun k => by simp only [fringelaw41_SkyDirty.j0]; rfl) ?_
  refine Ev.iteF (by simp) (Ev.bind (sky_Dirty_ev p l N hR) (Ev.bind (sky_Dirty_ev p m N hR) ?_))
  simp only [Option.bind_some, List.nil_append, List.length_nil]
  refine Ev.iteT (by omega) (Ev.iteT (by omega) (Ev.bind (sky_Dirty_ev p (l ++ m) N hR) ?_))
  rw [DirtyS_ok h hN, DirtyS_ok h' hN, DirtyS_ok hs hN]
  refine Ev.iteT (by simp) (Ev.iteT (by simp) (Ev.iteT (by simp) ?_))
  refine Ev.bind (square_ev p l N hN.2) (Ev.iteT (by simp) (Ev.bind (square_ev p m N hN.2) (Ev.iteT (by simp) (Ev.bind (square_ev p (l ++ m) N hN.2) ?_))))
  refine Ev.step (fun k => by simp only [fringelaw41_SkyDirty.j1]; rfl) ?_
  exact Ev.iteF (by simp) (dirt_l0 p l m h h' N hN.2 hs N 0 (by omega))
end Go.Proofs.Ytihmhcdcbcleeaa.Pure
