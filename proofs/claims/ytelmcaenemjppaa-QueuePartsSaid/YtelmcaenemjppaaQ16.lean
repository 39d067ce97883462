-- Written by qprint.py (a program of this session) over the program of the kit that prints contracts. Not trusted: Lean checks it.
import Derived.Test.YtelmcaenemjppaaQ0
import Derived.Test.YtelmcaenemjppaaQ4
import Derived.Test.YtelmcaenemjppaaQ5
namespace Go.Proofs.Ytelmcaenemjppaa.Q
open Go.RowKit Go.Proofs.YtelmcaenemjppaaW.PrintWords Go.Proofs.YtelmcaenemjppaaW.PrintLast Go.Proofs.YtelmcaenemjppaaW.PrintMore
attribute [local go_sem] max2_int min2_int max_two min_two max_three min_three max_four min_four   -- for this text's walks alone
set_option linter.unusedVariables false
set_option linter.unusedSimpArgs false

/-! ### queue_Ask: function 26 (by hand) -/
def queue_Ask.put (l : List S42) (i : Int) (u : Int) (n : Int) : List S42 := l.set i.toNat ⟨(rd_T42 l i).f0, (rd_T42 l i).f1, u, wrap64 ((rd_T42 l i).f3 + n)⟩
def queue_Ask.g (l : List S42) (num den : Int) (i : Int) (n : Int) (t : List S42) (t2 t3 : Int) : Option (List S42 × Int × Int × Int) := if i.toNat < t.length then (if (rd_T42 t i).f3 = 0 then (if den = 0 then none else (if mx ((rd_T42 t i).f2) (wrap64 (Int.tdiv (wrap64 (num * (rd_T42 t i).f1)) den)) > 1000000 then some ([], 0, 0, 16) else some (queue_Ask.put t i (mx ((rd_T42 t i).f2) (wrap64 (Int.tdiv (wrap64 (num * (rd_T42 t i).f1)) den))) n, t2, t3, 0)))
  else (if (rd_T42 t i).f2 > 1000000 then some ([], 0, 0, 16) else some (queue_Ask.put t i (rd_T42 t i).f2 n, t2, t3, 0))) else none
def queue_Ask.f (k : Nat) (l0_0 : List S42) (a0_1 : Int) (a0_2 : Int) (a1 : ByteArray) (a2 : Int) : Option (List S42 × Int × Int × Int) := (queue_Check.f k l0_0 a0_1 a0_2).bind fun e => if e = 0 then (queue_index.f l0_0 a0_1 a0_2 a1).bind fun i => if i < 0 then some ([], 0, 0, 6) else if a2 < 1 then some ([], 0, 0, 2) else if a2 > 1000 then some ([], 0, 0, 4) else if i.toNat < l0_0.length then (if wrap64 (a2 + (rd_T42 l0_0 i).f3) > 1000 then some ([], 0, 0, 4) else (queue_twin.f l0_0 a0_1 a0_2).bind fun t => queue_Ask.g l0_0 a0_1 a0_2 i a2 t.1 t.2.1 t.2.2) else none else some ([], 0, 0, e)
theorem queue_Ask.mono : ∀ a b c d e k, LeO (queue_Ask.f k a b c d e) (queue_Ask.f (k + 1) a b c d e) := by
 intro a b c d e k
 unfold queue_Ask.f
 exact LeO.bind (queue_Check.mono _ _ _ _) (fun _ => LeO.refl _)
theorem queue_Ask.own {w : World} {base : Nat} {ok : Nat → Prop} {v : Value} {l : List S42} (HO : Kd.R k42 42 w base ok v l) (hne : l ≠ []) : ∃ g c, v = .slice (some ⟨g, 0, none⟩) l.length c ∧ base ≤ g := by
 obtain ⟨A, c, rfl⟩ := Kd.R_slice HO
 obtain ⟨_, inner, ho, _⟩ := HO
 rcases ho.2 with ⟨hv, _⟩ | ⟨g', cap', cur, hv, hb', _⟩
 ·injection hv with h1 h2 h3
  exact absurd (List.length_eq_zero_iff.1 h2) hne
 ·injection hv with h1 h2 h3
  exact ⟨g', c, by rw [h1], hb'⟩
theorem queue_Ask.set3 {W : World} {base n c g : Nat} {l : List S42} {a : Nat} {x : S42} (HO : Kd.R k42 42 W base (fun _ => True) (.slice (some ⟨g, 0, none⟩) n c) l) (h0 : 0 ≤ (a : Int)) (h1 : (a : Int) < (n : Int)) (hx : l.getD a z42 = x) (v : Int) :
  Kd.R k42 42 (W.setCell ⟨g, a * 4 + 3, none⟩ (.int .i64 v)) base (fun _ => True) (.slice (some ⟨g, 0, none⟩) n c) (l.set a ⟨x.f0, x.f1, x.f2, v⟩) := by
 obtain ⟨ce, hcl, hM, hcc, hfr⟩ := Kd.R_elem HO z42 (a : Int) h0 h1
 rw [show l.getD ((a : Int).toNat) z42 = x from hx] at hM
 obtain rfl := k42_openM hM
 exact (Kd.R_seg HO (a : Int) h0 h1 (seg := [.int .i64 v]) (j := 3) hcl hcc (show 3 + 1 ≤ 4 by decide) (x' := (⟨x.f0, x.f1, x.f2, v⟩ : S42)) (k42_mkM _ _ _ (⟨x.f0, x.f1, x.f2, v⟩ : S42)) (fun _ hk => hk)).1
theorem queue_Ask.set2 {W : World} {base n c g : Nat} {l : List S42} {a : Nat} {x : S42} (HO : Kd.R k42 42 W base (fun _ => True) (.slice (some ⟨g, 0, none⟩) n c) l) (h0 : 0 ≤ (a : Int)) (h1 : (a : Int) < (n : Int)) (hx : l.getD a z42 = x) (v : Int) :
  Kd.R k42 42 (W.setCell ⟨g, a * 4 + 2, none⟩ (.int .i64 v)) base (fun _ => True) (.slice (some ⟨g, 0, none⟩) n c) (l.set a ⟨x.f0, x.f1, v, x.f3⟩) := by
 obtain ⟨ce, hcl, hM, hcc, hfr⟩ := Kd.R_elem HO z42 (a : Int) h0 h1
 rw [show l.getD ((a : Int).toNat) z42 = x from hx] at hM
 obtain rfl := k42_openM hM
 exact (Kd.R_seg HO (a : Int) h0 h1 (seg := [.int .i64 v]) (j := 2) hcl hcc (show 2 + 1 ≤ 4 by decide) (x' := (⟨x.f0, x.f1, v, x.f3⟩ : S42)) (k42_mkM _ _ _ (⟨x.f0, x.f1, v, x.f3⟩ : S42)) (fun _ hk => hk)).1
theorem queue_Ask.getSet {l : List S42} {a : Nat} {y : S42} (h : (a : Int) < (l.length : Int)) : (l.set a y).getD a z42 = y := by
 rw [List.getD_eq_getElem?_getD, List.getElem?_set_self (by omega)]; rfl
set_option maxHeartbeats 8000000 in
set_option maxRecDepth 100000 in
theorem queue_Ask.calls (k : Nat) (A0_0 : Option Addr) (c0_0 : Nat) (l0_0 : List (S42)) (a0_1 : Int) (a0_2 : Int) (a1 : ByteArray) (a2 : Int) (r1 : List (S42)) (r2 : Int) (r3 : Int) (r4 : Int) (w : World) (hr0_0 : Kd.C k42 w A0_0 l0_0.length l0_0) (hc0_0 : l0_0.length ≤ c0_0) (h : queue_Ask.f k l0_0 a0_1 a0_2 a1 a2 = some (r1, r2, r3, r4)) :
  Calls Try.prog 26 #[.agg #[.slice A0_0 l0_0.length c0_0, .int .i64 a0_1, .int .i64 a0_2], .string a1, .int .i64 a2] w fun e w' => ∃ v0_ : Value, e = .returned (.tuple #[.agg #[v0_, .int .i64 r2, .int .i64 r3], .int .i64 r4]) ∧ Kd.R k42 42 w' w.heap.size (fun _ => True) v0_ r1 ∧ Below w.heap.size w w' := by
 have hu24 := Try.underlying24
 have HR0 := Aside0.mk hr0_0
 have HC0 := Aside0.mk hc0_0
 replace h := Option.bind_eq_some_iff.mp h
 obtain ⟨e0, he0, H⟩ := h
 have HE := Aside0.mk he0
 clear he0 hr0_0 hc0_0
 have hb1 : Below w.heap.size w (w.alloc (.cells #[.slice A0_0 l0_0.length c0_0, .int .i64 a0_1, .int .i64 a0_2] 24)) := (Below.refl _ w).alloc (Nat.le_refl _) _
 have hb2 := hb1.alloc hb1.size (.cells #[.slice none 0 0, .int .i64 0, .int .i64 0] 24)
 have hk1 := blk_alloc (blk_new w (.cells #[.slice A0_0 l0_0.length c0_0, .int .i64 a0_1, .int .i64 a0_2] 24)) (.cells #[.slice none 0 0, .int .i64 0, .int .i64 0] 24)
 have hk2 := blk_new (w.alloc (.cells #[.slice A0_0 l0_0.length c0_0, .int .i64 a0_1, .int .i64 a0_2] 24)) (.cells #[.slice none 0 0, .int .i64 0, .int .i64 0] 24)
 have hsz : (w.alloc (.cells #[.slice A0_0 l0_0.length c0_0, .int .i64 a0_1, .int .i64 a0_2] 24)).heap.size = w.heap.size + 1 := by simp
 rw [hsz] at hk2
 have HB2 := Aside0.mk hb2
 have HK1 := Aside0.mk hk1
 have HK2 := Aside0.mk hk2
 have HCH := Aside0.mk (queue_Check.calls k A0_0 c0_0 l0_0 a0_1 a0_2 e0 _ (Kd.C_below HR0.out hb2) HC0.out HE.out)
 clear hb1 hb2 hk1 hk2 hsz
 try dsimp only at H
 by_cases c0 : e0 = 0
 ·rw [if_pos c0] at H
  subst c0
  replace H := Option.bind_eq_some_iff.mp H
  obtain ⟨ti, hti, H⟩ := H
  try dsimp only at H
  have HTU := Aside0.mk (fun W (hW : Below w.heap.size w W) => queue_index.calls A0_0 c0_0 l0_0 a0_1 a0_2 a1 ti W (Kd.C_below HR0.out hW) HC0.out hti)
  clear hti
  by_cases c1 : ti < 0
  ·rw [if_pos c1] at H
   have f1 : decide (ti < 0) = true := decide_eq_true c1
   clear c1
   simp only [Option.some.injEq, Prod.mk.injEq, Int.toNat_natCast] at H
   obtain ⟨rfl, rfl, rfl, rfl⟩ := H
   go_enter Try.func26, Try.ntmps26
   go_wp2_with (fail)
   refine HCH.out.mono ?_
   rintro e w1 ⟨rfl, hb⟩
   have HB3 := Aside0.mk (below_step HB2.out hb)
   have hk := blk_below HK1.out hb
   have d0 := (blk_cell hk 0).trans rfl
   have d1 := (blk_cell hk 1).trans rfl
   have d2 := (blk_cell hk 2).trans rfl
   have HK3a := Aside0.mk hk
   have HK3 := Aside0.mk (blk_below HK2.out hb)
   clear hb hk
   go_wp2_with (fail)
   refine (HTU.out _ HB3.out).mono ?_
   rintro e w4 ⟨rfl, hb⟩
   have HB4 := Aside0.mk (below_step HB3.out hb)
   have HK4 := Aside0.mk (blk_below HK3.out hb)
   clear d0 d1 d2
   have hk := blk_below HK3a.out hb
   have HK4a := Aside0.mk hk
   have d0 := (blk_cell hk 0).trans rfl
   have d1 := (blk_cell hk 1).trans rfl
   have d2 := (blk_cell hk 2).trans rfl
   have hk4 := blk_below HK3.out hb
   have b0 := (blk_cell hk4 0).trans rfl
   have b1 := (blk_cell hk4 1).trans rfl
   have b2 := (blk_cell hk4 2).trans rfl
   have z0 := blk_frozen hk4 0
   have z1 := blk_frozen hk4 1
   have z2 := blk_frozen hk4 2
   clear hb hk hk4 HCH HTU
   go_wp2_with (fail)
   refine bodyPost_ret (results_ct rfl _ _ (w.heap.size + 1) 24 _ (0, 0) _ rfl (blk_put (blk_put (blk_put HK4.out 0 _ rfl) 1 _ rfl) 2 _ rfl) Try.underlying24 rfl (by kernel_rfl)) rfl ?_
   exact ⟨_, rfl, Kd.R_nil _ _ _ _ _, below_set (below_set (below_set HB4.out (by simp)) (by simp)) (by simp)⟩
  ·rw [if_neg c1] at H
   have f1 : decide (ti < 0) = false := decide_eq_false c1
   obtain ⟨a, rfl⟩ := Int.eq_ofNat_of_zero_le (show 0 ≤ ti by omega)
   clear c1
   by_cases g1 : a2 < 1
   ·rw [if_pos g1] at H
    have f2 : decide (a2 < 1) = true := decide_eq_true g1
    clear g1
    simp only [Option.some.injEq, Prod.mk.injEq, Int.toNat_natCast] at H
    obtain ⟨rfl, rfl, rfl, rfl⟩ := H
    go_enter Try.func26, Try.ntmps26
    go_wp2_with (fail)
    refine HCH.out.mono ?_
    rintro e w1 ⟨rfl, hb⟩
    have HB3 := Aside0.mk (below_step HB2.out hb)
    have hk := blk_below HK1.out hb
    have d0 := (blk_cell hk 0).trans rfl
    have d1 := (blk_cell hk 1).trans rfl
    have d2 := (blk_cell hk 2).trans rfl
    have HK3a := Aside0.mk hk
    have HK3 := Aside0.mk (blk_below HK2.out hb)
    clear hb hk
    go_wp2_with (fail)
    refine (HTU.out _ HB3.out).mono ?_
    rintro e w4 ⟨rfl, hb⟩
    have HB4 := Aside0.mk (below_step HB3.out hb)
    have HK4 := Aside0.mk (blk_below HK3.out hb)
    clear d0 d1 d2
    have hk := blk_below HK3a.out hb
    have HK4a := Aside0.mk hk
    have d0 := (blk_cell hk 0).trans rfl
    have d1 := (blk_cell hk 1).trans rfl
    have d2 := (blk_cell hk 2).trans rfl
    have hk4 := blk_below HK3.out hb
    have b0 := (blk_cell hk4 0).trans rfl
    have b1 := (blk_cell hk4 1).trans rfl
    have b2 := (blk_cell hk4 2).trans rfl
    have z0 := blk_frozen hk4 0
    have z1 := blk_frozen hk4 1
    have z2 := blk_frozen hk4 2
    clear hb hk hk4 HCH HTU
    go_wp2_with (fail)
    refine bodyPost_ret (results_ct rfl _ _ (w.heap.size + 1) 24 _ (0, 0) _ rfl (blk_put (blk_put (blk_put HK4.out 0 _ rfl) 1 _ rfl) 2 _ rfl) Try.underlying24 rfl (by kernel_rfl)) rfl ?_
    exact ⟨_, rfl, Kd.R_nil _ _ _ _ _, below_set (below_set (below_set HB4.out (by simp)) (by simp)) (by simp)⟩
   ·rw [if_neg g1] at H
    have f2 : decide (a2 < 1) = false := decide_eq_false g1
    clear g1
    by_cases g2 : a2 > 1000
    ·rw [if_pos g2] at H
     have f3 : decide (1000 < a2) = true := decide_eq_true g2
     clear g2
     simp only [Option.some.injEq, Prod.mk.injEq, Int.toNat_natCast] at H
     obtain ⟨rfl, rfl, rfl, rfl⟩ := H
     go_enter Try.func26, Try.ntmps26
     go_wp2_with (fail)
     refine HCH.out.mono ?_
     rintro e w1 ⟨rfl, hb⟩
     have HB3 := Aside0.mk (below_step HB2.out hb)
     have hk := blk_below HK1.out hb
     have d0 := (blk_cell hk 0).trans rfl
     have d1 := (blk_cell hk 1).trans rfl
     have d2 := (blk_cell hk 2).trans rfl
     have HK3a := Aside0.mk hk
     have HK3 := Aside0.mk (blk_below HK2.out hb)
     clear hb hk
     go_wp2_with (fail)
     refine (HTU.out _ HB3.out).mono ?_
     rintro e w4 ⟨rfl, hb⟩
     have HB4 := Aside0.mk (below_step HB3.out hb)
     have HK4 := Aside0.mk (blk_below HK3.out hb)
     clear d0 d1 d2
     have hk := blk_below HK3a.out hb
     have HK4a := Aside0.mk hk
     have d0 := (blk_cell hk 0).trans rfl
     have d1 := (blk_cell hk 1).trans rfl
     have d2 := (blk_cell hk 2).trans rfl
     have hk4 := blk_below HK3.out hb
     have b0 := (blk_cell hk4 0).trans rfl
     have b1 := (blk_cell hk4 1).trans rfl
     have b2 := (blk_cell hk4 2).trans rfl
     have z0 := blk_frozen hk4 0
     have z1 := blk_frozen hk4 1
     have z2 := blk_frozen hk4 2
     clear hb hk hk4 HCH HTU
     go_wp2_with (fail)
     refine bodyPost_ret (results_ct rfl _ _ (w.heap.size + 1) 24 _ (0, 0) _ rfl (blk_put (blk_put (blk_put HK4.out 0 _ rfl) 1 _ rfl) 2 _ rfl) Try.underlying24 rfl (by kernel_rfl)) rfl ?_
     exact ⟨_, rfl, Kd.R_nil _ _ _ _ _, below_set (below_set (below_set HB4.out (by simp)) (by simp)) (by simp)⟩
    ·rw [if_neg g2] at H
     have f3 : decide (1000 < a2) = false := decide_eq_false g2
     clear g2
     by_cases c2 : ((a : Int)).toNat < l0_0.length
     ·rw [if_pos c2] at H
      have p1 : 0 ≤ (a : Int) := by omega
      have q1 : (a : Int) < (l0_0.length : Int) := by omega
      obtain ⟨ad, e1, hx0, hx1, hx2, hx3⟩ := at_T42 HR0.out a p1 q1
      subst e1
      simp only [Int.toNat_natCast] at hx3
      clear hx0 hx1 hx2
      have HP := Aside0.mk p1
      have HQ := Aside0.mk q1
      replace p1 := eq_true p1
      replace q1 := eq_true q1
      clear c2
      have HX3 := Aside0.mk (fun W (hW : Below w.heap.size w W) => (hW.cell (World.block_lt_of_cell? w _ hx3)).trans hx3)
      clear hx3
      generalize (rd_T42 l0_0 (a : Int)).f3 = u at HX3 H
      by_cases c3 : wrap64 (a2 + u) > 1000
      ·rw [if_pos c3] at H
       have f4 : decide (1000 < wrap64 (a2 + u)) = true := decide_eq_true c3
       clear c3
       simp only [Option.some.injEq, Prod.mk.injEq, Int.toNat_natCast] at H
       obtain ⟨rfl, rfl, rfl, rfl⟩ := H
       go_enter Try.func26, Try.ntmps26
       go_wp2_with (fail)
       refine HCH.out.mono ?_
       rintro e w1 ⟨rfl, hb⟩
       have HB3 := Aside0.mk (below_step HB2.out hb)
       have hk := blk_below HK1.out hb
       have d0 := (blk_cell hk 0).trans rfl
       have d1 := (blk_cell hk 1).trans rfl
       have d2 := (blk_cell hk 2).trans rfl
       have HK3a := Aside0.mk hk
       have HK3 := Aside0.mk (blk_below HK2.out hb)
       clear hb hk
       go_wp2_with (fail)
       refine (HTU.out _ HB3.out).mono ?_
       rintro e w4 ⟨rfl, hb⟩
       have HB4 := Aside0.mk (below_step HB3.out hb)
       have HK4 := Aside0.mk (blk_below HK3.out hb)
       clear d0 d1 d2
       have hk := blk_below HK3a.out hb
       have HK4a := Aside0.mk hk
       have d0 := (blk_cell hk 0).trans rfl
       have d1 := (blk_cell hk 1).trans rfl
       have d2 := (blk_cell hk 2).trans rfl
       have hk4 := blk_below HK3.out hb
       have b0 := (blk_cell hk4 0).trans rfl
       have b1 := (blk_cell hk4 1).trans rfl
       have b2 := (blk_cell hk4 2).trans rfl
       have z0 := blk_frozen hk4 0
       have z1 := blk_frozen hk4 1
       have z2 := blk_frozen hk4 2
       clear hb hk hk4 HCH HTU
       have hx3 := HX3.out _ HB4.out
       go_wp2_with (fail)
       refine bodyPost_ret (results_ct rfl _ _ (w.heap.size + 1) 24 _ (0, 0) _ rfl (blk_put (blk_put (blk_put HK4.out 0 _ rfl) 1 _ rfl) 2 _ rfl) Try.underlying24 rfl (by kernel_rfl)) rfl ?_
       exact ⟨_, rfl, Kd.R_nil _ _ _ _ _, below_set (below_set (below_set HB4.out (by simp)) (by simp)) (by simp)⟩
      ·rw [if_neg c3] at H
       have f4 : decide (1000 < wrap64 (a2 + u)) = false := decide_eq_false c3
       clear c3
       replace H := Option.bind_eq_some_iff.mp H
       obtain ⟨⟨t1, t2, t3⟩, ht, H⟩ := H
       have HTW := Aside0.mk (fun W (hW : Below w.heap.size w W) => queue_twin.calls (some ad) c0_0 l0_0 a0_1 a0_2 t1 t2 t3 W (Kd.C_below HR0.out hW) HC0.out ht)
       clear ht
       replace H : queue_Ask.g l0_0 a0_1 a0_2 (a : Int) a2 t1 t2 t3 = some (r1, r2, r3, r4) := H
       unfold queue_Ask.g queue_Ask.put at H
       by_cases c4 : ((a : Int)).toNat < t1.length
       ·rw [if_pos c4] at H
        have p2 : 0 ≤ (a : Int) := HP.out
        have q2 : (a : Int) < (t1.length : Int) := by omega
        have HQ2 := Aside0.mk q2
        have HNE := Aside0.mk (show t1 ≠ [] by rintro rfl; simp at c4)
        clear c4
        have hrd : rd_T42 t1 (a : Int) = t1.getD a z42 := rfl
        rw [hrd] at H
        generalize hx : t1.getD a z42 = x at H
        have HX := Aside0.mk hx
        clear hx hrd
        replace p2 := eq_true p2
        replace q2 := eq_true q2
        by_cases c5 : x.f3 = 0
        ·rw [if_pos c5] at H
         have f5 : (x.f3 == 0) = true := beq_iff_eq.mpr c5
         clear c5
         by_cases c6 : a0_2 = 0
         ·rw [if_pos c6] at H; exact absurd H (by simp)
         ·rw [if_neg c6] at H
          generalize hmx : mx x.f2 (wrap64 (Int.tdiv (wrap64 (a0_1 * x.f1)) a0_2)) = m at H
          have z6 : (a0_2 == 0) = false := beq_eq_false_iff_ne.mpr c6
          unfold mx at hmx
          by_cases c7 : m > 1000000
          ·rw [if_pos c7] at H
           have f6 : decide (1000000 < m) = true := decide_eq_true c7
           clear c7
           simp only [Option.some.injEq, Prod.mk.injEq, Int.toNat_natCast] at H
           obtain ⟨rfl, rfl, rfl, rfl⟩ := H
           go_enter Try.func26, Try.ntmps26
           go_wp2_with (fail)
           refine HCH.out.mono ?_
           rintro e w1 ⟨rfl, hb⟩
           have HB3 := Aside0.mk (below_step HB2.out hb)
           have hk := blk_below HK1.out hb
           have d0 := (blk_cell hk 0).trans rfl
           have d1 := (blk_cell hk 1).trans rfl
           have d2 := (blk_cell hk 2).trans rfl
           have HK3a := Aside0.mk hk
           have HK3 := Aside0.mk (blk_below HK2.out hb)
           clear hb hk
           go_wp2_with (fail)
           refine (HTU.out _ HB3.out).mono ?_
           rintro e w4 ⟨rfl, hb⟩
           have HB4 := Aside0.mk (below_step HB3.out hb)
           have HK4 := Aside0.mk (blk_below HK3.out hb)
           clear d0 d1 d2
           have hk := blk_below HK3a.out hb
           have HK4a := Aside0.mk hk
           have d0 := (blk_cell hk 0).trans rfl
           have d1 := (blk_cell hk 1).trans rfl
           have d2 := (blk_cell hk 2).trans rfl
           have hk4 := blk_below HK3.out hb
           have b0 := (blk_cell hk4 0).trans rfl
           have b1 := (blk_cell hk4 1).trans rfl
           have b2 := (blk_cell hk4 2).trans rfl
           have z0 := blk_frozen hk4 0
           have z1 := blk_frozen hk4 1
           have z2 := blk_frozen hk4 2
           clear hb hk hk4 HCH HTU
           have hx3 := HX3.out _ HB4.out
           go_wp2_with (fail)
           refine (HTW.out _ HB4.out).mono ?_
           rintro e w5 ⟨v0, rfl, ho, hb⟩
           obtain ⟨g, co, rfl, hgb⟩ := queue_Ask.own ho HNE.out
           have HO5 := Aside0.mk ho
           have HB5 := Aside0.mk (below_step HB4.out hb)
           have HK5 := Aside0.mk (blk_below HK4.out hb)
           have HK5a := Aside0.mk (blk_below HK4a.out hb)
           have hgl := own_lt (Kd.R_own ho).choose_spec g rfl
           have hg1' : w5.heap.size ≠ g := by omega
           have HGB := Aside0.mk (Nat.le_trans HB4.out.size hgb)
           have hgk' : w.heap.size + 1 ≠ g := by have := blk_lt HK4.out; omega
           have hgk0 : w.heap.size ≠ g := by have := blk_lt HK4.out; omega
           clear d0 d1 d2 b0 b1 b2 z0 z1 z2 hx3
           have ho6 := Kd.R_alloc ho (.cells #[.slice (some ⟨g, 0, none⟩) t1.length co, .int .i64 t2, .int .i64 t3] 24)
           obtain ⟨ce, hcl, hM, hcc, hfr⟩ := Kd.R_elem ho6 z42 (a : Int) HP.out HQ2.out
           rw [show t1.getD ((a : Int).toNat) z42 = x from HX.out] at hM
           obtain rfl := k42_openM hM
           have hy1 : (w5.alloc (.cells #[.slice (some ⟨g, 0, none⟩) t1.length co, .int .i64 t2, .int .i64 t3] 24)).cell? ⟨g, a * 4 + 1, none⟩ = some (.int .i64 x.f1) := hcc 1 _ rfl
           have hy2 : (w5.alloc (.cells #[.slice (some ⟨g, 0, none⟩) t1.length co, .int .i64 t2, .int .i64 t3] 24)).cell? ⟨g, a * 4 + 2, none⟩ = some (.int .i64 x.f2) := hcc 2 _ rfl
           have hy3 : (w5.alloc (.cells #[.slice (some ⟨g, 0, none⟩) t1.length co, .int .i64 t2, .int .i64 t3] 24)).cell? ⟨g, a * 4 + 3, none⟩ = some (.int .i64 x.f3) := hcc 3 _ rfl
           have hf2 : (w5.alloc (.cells #[.slice (some ⟨g, 0, none⟩) t1.length co, .int .i64 t2, .int .i64 t3] 24)).frozen? ⟨g, a * 4 + 2, none⟩ = false := hfr 2
           have hf3 : (w5.alloc (.cells #[.slice (some ⟨g, 0, none⟩) t1.length co, .int .i64 t2, .int .i64 t3] 24)).frozen? ⟨g, a * 4 + 3, none⟩ = false := hfr 3
           have hk6 := blk_alloc (blk_below HK4.out hb) (.cells #[.slice (some ⟨g, 0, none⟩) t1.length co, .int .i64 t2, .int .i64 t3] 24)
           have b0 := (blk_cell hk6 0).trans rfl
           have b1 := (blk_cell hk6 1).trans rfl
           have b2 := (blk_cell hk6 2).trans rfl
           have z0 := blk_frozen hk6 0
           have z1 := blk_frozen hk6 1
           have z2 := blk_frozen hk6 2
           have n7 : w.heap.size + 1 ≠ w5.heap.size := Nat.ne_of_lt (blk_lt HK5.out)
           have hk6a := blk_alloc (blk_below HK4a.out hb) (.cells #[.slice (some ⟨g, 0, none⟩) t1.length co, .int .i64 t2, .int .i64 t3] 24)
           have d1 := (blk_cell hk6a 1).trans rfl
           have d2 := (blk_cell hk6a 2).trans rfl
           clear hcl hM hcc hfr hk6 hk6a ho ho6 hb hgl hgb
           go_wp2_with (fail)
           have HO6 := Aside0.mk (Kd.R_lower (Kd.R_alloc HO5.out (.cells #[.slice (some ⟨g, 0, none⟩) t1.length co, .int .i64 t2, .int .i64 t3] 24)) HB4.out.size)
           have HQ6 := Aside0.mk (blk_new w5 (.cells #[.slice (some ⟨g, 0, none⟩) t1.length co, .int .i64 t2, .int .i64 t3] 24))
           have HK6 := Aside0.mk (blk_alloc HK5.out (.cells #[.slice (some ⟨g, 0, none⟩) t1.length co, .int .i64 t2, .int .i64 t3] 24))
           have HB6 := Aside0.mk (HB5.out.alloc HB5.out.size (.cells #[.slice (some ⟨g, 0, none⟩) t1.length co, .int .i64 t2, .int .i64 t3] 24))
           have hq := HQ6.out
           have e0 := (blk_cell hq 0).trans rfl
           have e1 := (blk_cell hq 1).trans rfl
           have e2 := (blk_cell hq 2).trans rfl
           clear hq
           generalize w5.alloc (.cells #[.slice (some ⟨g, 0, none⟩) t1.length co, .int .i64 t2, .int .i64 t3] 24) = w6 at hy1 hy2 hy3 hf2 hf3 b0 b1 b2 z0 z1 z2 d1 d2 e0 e1 e2 HO6 HQ6 HK6 HB6 ⊢
           go_region
           go_wp2_with (fail)
           have hk9 := blk_far HK6.out (p := ⟨g, a * 4 + 2, none⟩) hgk' (.int .i64 m)
           refine bodyPost_ret (results_ct rfl _ _ (w.heap.size + 1) 24 _ (0, 0) _ rfl (blk_drew (blk_put (blk_put (blk_put hk9 0 _ rfl) 1 _ rfl) 2 _ rfl)) Try.underlying24 rfl (by kernel_rfl)) rfl ?_
           exact ⟨_, rfl, Kd.R_nil _ _ _ _ _, below_drew1 (below_set (below_set (below_set (below_set HB6.out HGB.out) (by simp)) (by simp)) (by simp))⟩
          ·rw [if_neg c7] at H
           have f6 : decide (1000000 < m) = false := decide_eq_false c7
           clear c7
           simp only [Option.some.injEq, Prod.mk.injEq, Int.toNat_natCast] at H
           obtain ⟨rfl, rfl, rfl, rfl⟩ := H
           go_enter Try.func26, Try.ntmps26
           go_wp2_with (fail)
           refine HCH.out.mono ?_
           rintro e w1 ⟨rfl, hb⟩
           have HB3 := Aside0.mk (below_step HB2.out hb)
           have hk := blk_below HK1.out hb
           have d0 := (blk_cell hk 0).trans rfl
           have d1 := (blk_cell hk 1).trans rfl
           have d2 := (blk_cell hk 2).trans rfl
           have HK3a := Aside0.mk hk
           have HK3 := Aside0.mk (blk_below HK2.out hb)
           clear hb hk
           go_wp2_with (fail)
           refine (HTU.out _ HB3.out).mono ?_
           rintro e w4 ⟨rfl, hb⟩
           have HB4 := Aside0.mk (below_step HB3.out hb)
           have HK4 := Aside0.mk (blk_below HK3.out hb)
           clear d0 d1 d2
           have hk := blk_below HK3a.out hb
           have HK4a := Aside0.mk hk
           have d0 := (blk_cell hk 0).trans rfl
           have d1 := (blk_cell hk 1).trans rfl
           have d2 := (blk_cell hk 2).trans rfl
           have hk4 := blk_below HK3.out hb
           have b0 := (blk_cell hk4 0).trans rfl
           have b1 := (blk_cell hk4 1).trans rfl
           have b2 := (blk_cell hk4 2).trans rfl
           have z0 := blk_frozen hk4 0
           have z1 := blk_frozen hk4 1
           have z2 := blk_frozen hk4 2
           clear hb hk hk4 HCH HTU
           have hx3 := HX3.out _ HB4.out
           go_wp2_with (fail)
           refine (HTW.out _ HB4.out).mono ?_
           rintro e w5 ⟨v0, rfl, ho, hb⟩
           obtain ⟨g, co, rfl, hgb⟩ := queue_Ask.own ho HNE.out
           have HO5 := Aside0.mk ho
           have HB5 := Aside0.mk (below_step HB4.out hb)
           have HK5 := Aside0.mk (blk_below HK4.out hb)
           have HK5a := Aside0.mk (blk_below HK4a.out hb)
           have hgl := own_lt (Kd.R_own ho).choose_spec g rfl
           have hg1' : w5.heap.size ≠ g := by omega
           have HGB := Aside0.mk (Nat.le_trans HB4.out.size hgb)
           have hgk' : w.heap.size + 1 ≠ g := by have := blk_lt HK4.out; omega
           have hgk0 : w.heap.size ≠ g := by have := blk_lt HK4.out; omega
           clear d0 d1 d2 b0 b1 b2 z0 z1 z2 hx3
           have ho6 := Kd.R_alloc ho (.cells #[.slice (some ⟨g, 0, none⟩) t1.length co, .int .i64 t2, .int .i64 t3] 24)
           obtain ⟨ce, hcl, hM, hcc, hfr⟩ := Kd.R_elem ho6 z42 (a : Int) HP.out HQ2.out
           rw [show t1.getD ((a : Int).toNat) z42 = x from HX.out] at hM
           obtain rfl := k42_openM hM
           have hy1 : (w5.alloc (.cells #[.slice (some ⟨g, 0, none⟩) t1.length co, .int .i64 t2, .int .i64 t3] 24)).cell? ⟨g, a * 4 + 1, none⟩ = some (.int .i64 x.f1) := hcc 1 _ rfl
           have hy2 : (w5.alloc (.cells #[.slice (some ⟨g, 0, none⟩) t1.length co, .int .i64 t2, .int .i64 t3] 24)).cell? ⟨g, a * 4 + 2, none⟩ = some (.int .i64 x.f2) := hcc 2 _ rfl
           have hy3 : (w5.alloc (.cells #[.slice (some ⟨g, 0, none⟩) t1.length co, .int .i64 t2, .int .i64 t3] 24)).cell? ⟨g, a * 4 + 3, none⟩ = some (.int .i64 x.f3) := hcc 3 _ rfl
           have hf2 : (w5.alloc (.cells #[.slice (some ⟨g, 0, none⟩) t1.length co, .int .i64 t2, .int .i64 t3] 24)).frozen? ⟨g, a * 4 + 2, none⟩ = false := hfr 2
           have hf3 : (w5.alloc (.cells #[.slice (some ⟨g, 0, none⟩) t1.length co, .int .i64 t2, .int .i64 t3] 24)).frozen? ⟨g, a * 4 + 3, none⟩ = false := hfr 3
           have hk6 := blk_alloc (blk_below HK4.out hb) (.cells #[.slice (some ⟨g, 0, none⟩) t1.length co, .int .i64 t2, .int .i64 t3] 24)
           have b0 := (blk_cell hk6 0).trans rfl
           have b1 := (blk_cell hk6 1).trans rfl
           have b2 := (blk_cell hk6 2).trans rfl
           have z0 := blk_frozen hk6 0
           have z1 := blk_frozen hk6 1
           have z2 := blk_frozen hk6 2
           have n7 : w.heap.size + 1 ≠ w5.heap.size := Nat.ne_of_lt (blk_lt HK5.out)
           have hk6a := blk_alloc (blk_below HK4a.out hb) (.cells #[.slice (some ⟨g, 0, none⟩) t1.length co, .int .i64 t2, .int .i64 t3] 24)
           have d1 := (blk_cell hk6a 1).trans rfl
           have d2 := (blk_cell hk6a 2).trans rfl
           clear hcl hM hcc hfr hk6 hk6a ho ho6 hb hgl hgb
           go_wp2_with (fail)
           have HO6 := Aside0.mk (Kd.R_lower (Kd.R_alloc HO5.out (.cells #[.slice (some ⟨g, 0, none⟩) t1.length co, .int .i64 t2, .int .i64 t3] 24)) HB4.out.size)
           have HQ6 := Aside0.mk (blk_new w5 (.cells #[.slice (some ⟨g, 0, none⟩) t1.length co, .int .i64 t2, .int .i64 t3] 24))
           have HK6 := Aside0.mk (blk_alloc HK5.out (.cells #[.slice (some ⟨g, 0, none⟩) t1.length co, .int .i64 t2, .int .i64 t3] 24))
           have HB6 := Aside0.mk (HB5.out.alloc HB5.out.size (.cells #[.slice (some ⟨g, 0, none⟩) t1.length co, .int .i64 t2, .int .i64 t3] 24))
           have hq := HQ6.out
           have e0 := (blk_cell hq 0).trans rfl
           have e1 := (blk_cell hq 1).trans rfl
           have e2 := (blk_cell hq 2).trans rfl
           clear hq
           generalize w5.alloc (.cells #[.slice (some ⟨g, 0, none⟩) t1.length co, .int .i64 t2, .int .i64 t3] 24) = w6 at hy1 hy2 hy3 hf2 hf3 b0 b1 b2 z0 z1 z2 d1 d2 e0 e1 e2 HO6 HQ6 HK6 HB6 ⊢
           go_region
           go_wp2_with (fail)
           have hk9 := blk_far (blk_far HK6.out (p := ⟨g, a * 4 + 2, none⟩) hgk' (.int .i64 m)) (p := ⟨g, a * 4 + 3, none⟩) hgk' (.int .i64 (wrap64 (x.f3 + a2)))
           have s4 := queue_Ask.set3 (queue_Ask.set2 HO6.out HP.out HQ2.out HX.out m) HP.out HQ2.out (queue_Ask.getSet HQ2.out) (wrap64 (x.f3 + a2))
           rw [List.set_set] at s4
           refine bodyPost_ret (results_ct rfl _ _ (w.heap.size + 1) 24 _ (0, 0) _ rfl (blk_drew (blk_put (blk_put (blk_put hk9 0 _ rfl) 1 _ rfl) 2 _ rfl)) Try.underlying24 rfl (by kernel_rfl)) rfl ?_
           exact ⟨_, rfl, Kd.R_drew (Kd.R_set (Kd.R_set (Kd.R_set s4 hk9 (by decide) 0 _) (blk_put hk9 0 _ rfl) (by decide) 1 _) (blk_put (blk_put hk9 0 _ rfl) 1 _ rfl) (by decide) 2 _), below_drew1 (below_set (below_set (below_set (below_set (below_set HB6.out HGB.out) HGB.out) (by simp)) (by simp)) (by simp))⟩
        ·rw [if_neg c5] at H
         have f5 : (x.f3 == 0) = false := beq_eq_false_iff_ne.mpr c5
         clear c5
         by_cases c7 : x.f2 > 1000000
         ·rw [if_pos c7] at H
          have f6 : decide (1000000 < x.f2) = true := decide_eq_true c7
          clear c7
          simp only [Option.some.injEq, Prod.mk.injEq, Int.toNat_natCast] at H
          obtain ⟨rfl, rfl, rfl, rfl⟩ := H
          go_enter Try.func26, Try.ntmps26
          go_wp2_with (fail)
          refine HCH.out.mono ?_
          rintro e w1 ⟨rfl, hb⟩
          have HB3 := Aside0.mk (below_step HB2.out hb)
          have hk := blk_below HK1.out hb
          have d0 := (blk_cell hk 0).trans rfl
          have d1 := (blk_cell hk 1).trans rfl
          have d2 := (blk_cell hk 2).trans rfl
          have HK3a := Aside0.mk hk
          have HK3 := Aside0.mk (blk_below HK2.out hb)
          clear hb hk
          go_wp2_with (fail)
          refine (HTU.out _ HB3.out).mono ?_
          rintro e w4 ⟨rfl, hb⟩
          have HB4 := Aside0.mk (below_step HB3.out hb)
          have HK4 := Aside0.mk (blk_below HK3.out hb)
          clear d0 d1 d2
          have hk := blk_below HK3a.out hb
          have HK4a := Aside0.mk hk
          have d0 := (blk_cell hk 0).trans rfl
          have d1 := (blk_cell hk 1).trans rfl
          have d2 := (blk_cell hk 2).trans rfl
          have hk4 := blk_below HK3.out hb
          have b0 := (blk_cell hk4 0).trans rfl
          have b1 := (blk_cell hk4 1).trans rfl
          have b2 := (blk_cell hk4 2).trans rfl
          have z0 := blk_frozen hk4 0
          have z1 := blk_frozen hk4 1
          have z2 := blk_frozen hk4 2
          clear hb hk hk4 HCH HTU
          have hx3 := HX3.out _ HB4.out
          go_wp2_with (fail)
          refine (HTW.out _ HB4.out).mono ?_
          rintro e w5 ⟨v0, rfl, ho, hb⟩
          obtain ⟨g, co, rfl, hgb⟩ := queue_Ask.own ho HNE.out
          have HO5 := Aside0.mk ho
          have HB5 := Aside0.mk (below_step HB4.out hb)
          have HK5 := Aside0.mk (blk_below HK4.out hb)
          have HK5a := Aside0.mk (blk_below HK4a.out hb)
          have hgl := own_lt (Kd.R_own ho).choose_spec g rfl
          have hg1' : w5.heap.size ≠ g := by omega
          have HGB := Aside0.mk (Nat.le_trans HB4.out.size hgb)
          have hgk' : w.heap.size + 1 ≠ g := by have := blk_lt HK4.out; omega
          have hgk0 : w.heap.size ≠ g := by have := blk_lt HK4.out; omega
          clear d0 d1 d2 b0 b1 b2 z0 z1 z2 hx3
          have ho6 := Kd.R_alloc ho (.cells #[.slice (some ⟨g, 0, none⟩) t1.length co, .int .i64 t2, .int .i64 t3] 24)
          obtain ⟨ce, hcl, hM, hcc, hfr⟩ := Kd.R_elem ho6 z42 (a : Int) HP.out HQ2.out
          rw [show t1.getD ((a : Int).toNat) z42 = x from HX.out] at hM
          obtain rfl := k42_openM hM
          have hy1 : (w5.alloc (.cells #[.slice (some ⟨g, 0, none⟩) t1.length co, .int .i64 t2, .int .i64 t3] 24)).cell? ⟨g, a * 4 + 1, none⟩ = some (.int .i64 x.f1) := hcc 1 _ rfl
          have hy2 : (w5.alloc (.cells #[.slice (some ⟨g, 0, none⟩) t1.length co, .int .i64 t2, .int .i64 t3] 24)).cell? ⟨g, a * 4 + 2, none⟩ = some (.int .i64 x.f2) := hcc 2 _ rfl
          have hy3 : (w5.alloc (.cells #[.slice (some ⟨g, 0, none⟩) t1.length co, .int .i64 t2, .int .i64 t3] 24)).cell? ⟨g, a * 4 + 3, none⟩ = some (.int .i64 x.f3) := hcc 3 _ rfl
          have hf2 : (w5.alloc (.cells #[.slice (some ⟨g, 0, none⟩) t1.length co, .int .i64 t2, .int .i64 t3] 24)).frozen? ⟨g, a * 4 + 2, none⟩ = false := hfr 2
          have hf3 : (w5.alloc (.cells #[.slice (some ⟨g, 0, none⟩) t1.length co, .int .i64 t2, .int .i64 t3] 24)).frozen? ⟨g, a * 4 + 3, none⟩ = false := hfr 3
          have hk6 := blk_alloc (blk_below HK4.out hb) (.cells #[.slice (some ⟨g, 0, none⟩) t1.length co, .int .i64 t2, .int .i64 t3] 24)
          have b0 := (blk_cell hk6 0).trans rfl
          have b1 := (blk_cell hk6 1).trans rfl
          have b2 := (blk_cell hk6 2).trans rfl
          have z0 := blk_frozen hk6 0
          have z1 := blk_frozen hk6 1
          have z2 := blk_frozen hk6 2
          have n7 : w.heap.size + 1 ≠ w5.heap.size := Nat.ne_of_lt (blk_lt HK5.out)
          have hk6a := blk_alloc (blk_below HK4a.out hb) (.cells #[.slice (some ⟨g, 0, none⟩) t1.length co, .int .i64 t2, .int .i64 t3] 24)
          have d1 := (blk_cell hk6a 1).trans rfl
          have d2 := (blk_cell hk6a 2).trans rfl
          clear hcl hM hcc hfr hk6 hk6a ho ho6 hb hgl hgb
          go_wp2_with (fail)
          have hk9 := blk_alloc HK5.out (.cells #[.slice (some ⟨g, 0, none⟩) t1.length co, .int .i64 t2, .int .i64 t3] 24)
          refine bodyPost_ret (results_ct rfl _ _ (w.heap.size + 1) 24 _ (0, 0) _ rfl (blk_put (blk_put (blk_put hk9 0 _ rfl) 1 _ rfl) 2 _ rfl) Try.underlying24 rfl (by kernel_rfl)) rfl ?_
          exact ⟨_, rfl, Kd.R_nil _ _ _ _ _, below_set (below_set (below_set (HB5.out.alloc HB5.out.size (.cells #[.slice (some ⟨g, 0, none⟩) t1.length co, .int .i64 t2, .int .i64 t3] 24)) (by simp)) (by simp)) (by simp)⟩
         ·rw [if_neg c7] at H
          have f6 : decide (1000000 < x.f2) = false := decide_eq_false c7
          clear c7
          simp only [Option.some.injEq, Prod.mk.injEq, Int.toNat_natCast] at H
          obtain ⟨rfl, rfl, rfl, rfl⟩ := H
          go_enter Try.func26, Try.ntmps26
          go_wp2_with (fail)
          refine HCH.out.mono ?_
          rintro e w1 ⟨rfl, hb⟩
          have HB3 := Aside0.mk (below_step HB2.out hb)
          have hk := blk_below HK1.out hb
          have d0 := (blk_cell hk 0).trans rfl
          have d1 := (blk_cell hk 1).trans rfl
          have d2 := (blk_cell hk 2).trans rfl
          have HK3a := Aside0.mk hk
          have HK3 := Aside0.mk (blk_below HK2.out hb)
          clear hb hk
          go_wp2_with (fail)
          refine (HTU.out _ HB3.out).mono ?_
          rintro e w4 ⟨rfl, hb⟩
          have HB4 := Aside0.mk (below_step HB3.out hb)
          have HK4 := Aside0.mk (blk_below HK3.out hb)
          clear d0 d1 d2
          have hk := blk_below HK3a.out hb
          have HK4a := Aside0.mk hk
          have d0 := (blk_cell hk 0).trans rfl
          have d1 := (blk_cell hk 1).trans rfl
          have d2 := (blk_cell hk 2).trans rfl
          have hk4 := blk_below HK3.out hb
          have b0 := (blk_cell hk4 0).trans rfl
          have b1 := (blk_cell hk4 1).trans rfl
          have b2 := (blk_cell hk4 2).trans rfl
          have z0 := blk_frozen hk4 0
          have z1 := blk_frozen hk4 1
          have z2 := blk_frozen hk4 2
          clear hb hk hk4 HCH HTU
          have hx3 := HX3.out _ HB4.out
          go_wp2_with (fail)
          refine (HTW.out _ HB4.out).mono ?_
          rintro e w5 ⟨v0, rfl, ho, hb⟩
          obtain ⟨g, co, rfl, hgb⟩ := queue_Ask.own ho HNE.out
          have HO5 := Aside0.mk ho
          have HB5 := Aside0.mk (below_step HB4.out hb)
          have HK5 := Aside0.mk (blk_below HK4.out hb)
          have HK5a := Aside0.mk (blk_below HK4a.out hb)
          have hgl := own_lt (Kd.R_own ho).choose_spec g rfl
          have hg1' : w5.heap.size ≠ g := by omega
          have HGB := Aside0.mk (Nat.le_trans HB4.out.size hgb)
          have hgk' : w.heap.size + 1 ≠ g := by have := blk_lt HK4.out; omega
          have hgk0 : w.heap.size ≠ g := by have := blk_lt HK4.out; omega
          clear d0 d1 d2 b0 b1 b2 z0 z1 z2 hx3
          have ho6 := Kd.R_alloc ho (.cells #[.slice (some ⟨g, 0, none⟩) t1.length co, .int .i64 t2, .int .i64 t3] 24)
          obtain ⟨ce, hcl, hM, hcc, hfr⟩ := Kd.R_elem ho6 z42 (a : Int) HP.out HQ2.out
          rw [show t1.getD ((a : Int).toNat) z42 = x from HX.out] at hM
          obtain rfl := k42_openM hM
          have hy1 : (w5.alloc (.cells #[.slice (some ⟨g, 0, none⟩) t1.length co, .int .i64 t2, .int .i64 t3] 24)).cell? ⟨g, a * 4 + 1, none⟩ = some (.int .i64 x.f1) := hcc 1 _ rfl
          have hy2 : (w5.alloc (.cells #[.slice (some ⟨g, 0, none⟩) t1.length co, .int .i64 t2, .int .i64 t3] 24)).cell? ⟨g, a * 4 + 2, none⟩ = some (.int .i64 x.f2) := hcc 2 _ rfl
          have hy3 : (w5.alloc (.cells #[.slice (some ⟨g, 0, none⟩) t1.length co, .int .i64 t2, .int .i64 t3] 24)).cell? ⟨g, a * 4 + 3, none⟩ = some (.int .i64 x.f3) := hcc 3 _ rfl
          have hf2 : (w5.alloc (.cells #[.slice (some ⟨g, 0, none⟩) t1.length co, .int .i64 t2, .int .i64 t3] 24)).frozen? ⟨g, a * 4 + 2, none⟩ = false := hfr 2
          have hf3 : (w5.alloc (.cells #[.slice (some ⟨g, 0, none⟩) t1.length co, .int .i64 t2, .int .i64 t3] 24)).frozen? ⟨g, a * 4 + 3, none⟩ = false := hfr 3
          have hk6 := blk_alloc (blk_below HK4.out hb) (.cells #[.slice (some ⟨g, 0, none⟩) t1.length co, .int .i64 t2, .int .i64 t3] 24)
          have b0 := (blk_cell hk6 0).trans rfl
          have b1 := (blk_cell hk6 1).trans rfl
          have b2 := (blk_cell hk6 2).trans rfl
          have z0 := blk_frozen hk6 0
          have z1 := blk_frozen hk6 1
          have z2 := blk_frozen hk6 2
          have n7 : w.heap.size + 1 ≠ w5.heap.size := Nat.ne_of_lt (blk_lt HK5.out)
          have hk6a := blk_alloc (blk_below HK4a.out hb) (.cells #[.slice (some ⟨g, 0, none⟩) t1.length co, .int .i64 t2, .int .i64 t3] 24)
          have d1 := (blk_cell hk6a 1).trans rfl
          have d2 := (blk_cell hk6a 2).trans rfl
          clear hcl hM hcc hfr hk6 hk6a ho ho6 hb hgl hgb
          go_wp2_with (fail)
          have hk9 := blk_far (blk_alloc HK5.out (.cells #[.slice (some ⟨g, 0, none⟩) t1.length co, .int .i64 t2, .int .i64 t3] 24)) (p := ⟨g, a * 4 + 3, none⟩) hgk' (.int .i64 (wrap64 (x.f3 + a2)))
          have s4 := queue_Ask.set3 (Kd.R_lower (Kd.R_alloc HO5.out (.cells #[.slice (some ⟨g, 0, none⟩) t1.length co, .int .i64 t2, .int .i64 t3] 24)) HB4.out.size) HP.out HQ2.out HX.out (wrap64 (x.f3 + a2))
          refine bodyPost_ret (results_ct rfl _ _ (w.heap.size + 1) 24 _ (0, 0) _ rfl (blk_put (blk_put (blk_put hk9 0 _ rfl) 1 _ rfl) 2 _ rfl) Try.underlying24 rfl (by kernel_rfl)) rfl ?_
          exact ⟨_, rfl, Kd.R_set (Kd.R_set (Kd.R_set s4 hk9 (by decide) 0 _) (blk_put hk9 0 _ rfl) (by decide) 1 _) (blk_put (blk_put hk9 0 _ rfl) 1 _ rfl) (by decide) 2 _, below_set (below_set (below_set (below_set (HB5.out.alloc HB5.out.size (.cells #[.slice (some ⟨g, 0, none⟩) t1.length co, .int .i64 t2, .int .i64 t3] 24)) HGB.out) (by simp)) (by simp)) (by simp)⟩
       ·rw [if_neg c4] at H; exact absurd H (by simp)
     ·rw [if_neg c2] at H; exact absurd H (by simp)
 ·rw [if_neg c0] at H
  have f1 : (e0 != 0) = true := bne_iff_ne.mpr c0
  clear c0
  simp only [Option.some.injEq, Prod.mk.injEq, Int.toNat_natCast] at H
  obtain ⟨rfl, rfl, rfl, rfl⟩ := H
  go_enter Try.func26, Try.ntmps26
  go_wp2_with (fail)
  refine HCH.out.mono ?_
  rintro e w1 ⟨rfl, hb⟩
  have HB4 := Aside0.mk (below_step HB2.out hb)
  have hk2 := blk_below HK2.out hb
  have HK4 := Aside0.mk hk2
  have b0 := (blk_cell hk2 0).trans rfl
  have b1 := (blk_cell hk2 1).trans rfl
  have b2 := (blk_cell hk2 2).trans rfl
  have z0 := blk_frozen hk2 0
  have z1 := blk_frozen hk2 1
  have z2 := blk_frozen hk2 2
  clear hb hk2
  go_wp2_with (fail)
  refine bodyPost_ret (results_ct rfl _ _ (w.heap.size + 1) 24 _ (0, 0) _ rfl (blk_put (blk_put (blk_put HK4.out 0 _ rfl) 1 _ rfl) 2 _ rfl) Try.underlying24 rfl (by kernel_rfl)) rfl ?_
  exact ⟨_, rfl, Kd.R_nil _ _ _ _ _, below_set (below_set (below_set HB4.out (by simp)) (by simp)) (by simp)⟩

end Go.Proofs.Ytelmcaenemjppaa.Q
