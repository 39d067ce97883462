-- Written by qprint.py (a program of this session) over the program of the kit that prints contracts. Not trusted: Lean checks it.
import Derived.Test.YtelmcaenemjppaaQ0
import Derived.Test.YtelmcaenemjppaaQ4
import Derived.Test.YtelmcaenemjppaaQ5
import Derived.Test.YtelmcaenemjppaaQ6
namespace Go.Proofs.Ytelmcaenemjppaa.Q
open Go.RowKit Go.Proofs.YtelmcaenemjppaaW.PrintWords Go.Proofs.YtelmcaenemjppaaW.PrintLast Go.Proofs.YtelmcaenemjppaaW.PrintMore
attribute [local go_sem] max2_int min2_int max_two min_two max_three min_three max_four min_four   -- for this text's walks alone
set_option linter.unusedVariables false
set_option linter.unusedSimpArgs false

/-! ### queue_Serve: function 17 (by hand) -/
theorem queue_Serve.kept {W W2 : World} {l : List S42} {out : List Int} {A : Option Addr} {n c g base base2 : Nat} {v : Value} {cs : Array Value} (HV : Kd.R (Kd.int .i64) 3 W base (fun _ => True) v out) (HQ : W.heap[g]? = some (.cells cs 24 (0, 0))) (HO : Kd.R k42 42 W base2 (fun _ => True) (.slice A n c) l) (hk : Kept W W2 (fun k => k = g ∨ some k = (Value.slice A n c).ownBlock)) : Kd.R (Kd.int .i64) 3 W2 base (fun _ => True) v out := by
 refine Kd.R_mono (Kd.R_kept (ok := fun k => k ≠ g ∧ some k ≠ (Value.slice A n c).ownBlock) ?_ hk (fun k hk => fun h => h.elim hk.1 hk.2)) (fun _ _ => trivial)
 refine Kd.R_mono (Kd.R_bound HV) (fun k hk => ?_)
 obtain ⟨_, _, _, q, hq, cells, hc⟩ := hk
 have h3 : q = 3 := by simpa [Kd.int, Kd.scalar] using hq
 subst h3
 refine ⟨?_, ?_⟩
 ·rintro rfl
  rw [HQ] at hc
  injection hc with hc
  injection hc with _ hc
  exact absurd hc (by decide)
 ·exact Kd.R_ne HO hc (fun e => by cases e)
theorem queue_Serve.own {W : World} {l : List S42} {out : List Int} {A : Option Addr} {n c g g2 base base2 : Nat} {v : Value} {cs cs2 : Array Value} (HV : Kd.R (Kd.int .i64) 3 W base (fun _ => True) v out) (HQ : W.heap[g]? = some (.cells cs 24 (0, 0))) (HK : W.heap[g2]? = some (.cells cs2 24 (0, 0))) (HO : Kd.R k42 42 W base2 (fun _ => True) (.slice A n c) l) : Kd.R (Kd.int .i64) 3 W base (fun k_ => k_ ≠ g ∧ k_ ≠ g2 ∧ some k_ ≠ (Value.slice A n c).ownBlock) v out := by
 refine Kd.R_mono (Kd.R_bound HV) (fun k hk => ?_)
 obtain ⟨_, _, _, q, hq, cells, hc⟩ := hk
 have h3 : q = 3 := by simpa [Kd.int, Kd.scalar] using hq
 subst h3
 refine ⟨?_, ?_, Kd.R_ne HO hc (fun e => by cases e)⟩
 ·rintro rfl
  rw [HQ] at hc
  injection hc with hc
  injection hc with _ hc
  exact absurd hc (by decide)
 ·rintro rfl
  rw [HK] at hc
  injection hc with hc
  injection hc with _ hc
  exact absurd hc (by decide)
theorem queue_Serve.fresh {W : World} {l : List S42} {A : Option Addr} {n c g g2 base : Nat} {cs cs2 : Array Value} (HQ : W.heap[g]? = some (.cells cs 24 (0, 0))) (HK : W.heap[g2]? = some (.cells cs2 24 (0, 0))) (HO : Kd.R k42 42 W base (fun _ => True) (.slice A n c) l) : ∀ k_, W.heap.size ≤ k_ → k_ ≠ g ∧ k_ ≠ g2 ∧ some k_ ≠ (Value.slice A n c).ownBlock := fun k_ hk =>
 ⟨by have := blk_lt HQ; omega, by have := blk_lt HK; omega, fun e => by obtain ⟨inner, ho⟩ := Kd.R_own HO; have := own_lt ho k_ e.symm; omega⟩
theorem queue_Serve.ne1 {W : World} {out : List Int} {g base : Nat} {v : Value} {p q : Nat → Prop} (h : Kd.R (Kd.int .i64) 3 W base (fun k_ => k_ ≠ g ∧ p k_ ∧ q k_) v out) : some g ≠ v.ownBlock := fun e => (h.1 g e.symm).1 rfl
theorem queue_Serve.ne2 {W : World} {out : List Int} {g base : Nat} {v : Value} {p q : Nat → Prop} (h : Kd.R (Kd.int .i64) 3 W base (fun k_ => p k_ ∧ k_ ≠ g ∧ q k_) v out) : some g ≠ v.ownBlock := fun e => (h.1 g e.symm).2.1 rfl
theorem queue_Serve.row {W W2 : World} {l : List S42} {out : List Int} {A : Option Addr} {n c base base2 : Nat} {v : Value} (HO : Kd.R k42 42 W base (fun _ => True) (.slice A n c) l) (HV : Kd.R (Kd.int .i64) 3 W base2 (fun _ => True) v out) (hg : W.grownBy W2 v.ownBlock) : Kd.R k42 42 W2 base (fun _ => True) (.slice A n c) l := by
 refine Kd.R_mono (Kd.R_grown (ok := fun k => some k ≠ v.ownBlock) ?_ hg (fun _ hk => hk)) (fun _ _ => trivial)
 refine Kd.R_mono (Kd.R_bound HO) (fun k hk => ?_)
 obtain ⟨_, _, _, q, hq, cells, hc⟩ := hk
 have h3 : q = 42 := by simpa [k42, Kd.iso, Kd.pair, Kd.string, Kd.int, Kd.scalar] using hq
 subst h3
 exact Kd.R_ne HV hc (fun e => by cases e)
def queue_Serve.l0 : Nat → List S42 → Int → Int → List Int → Int → Int → Option (List S42 × Int × Int × List Int × Int)
 | 0, _, _, _, _, _, _ => none
 | k + 1, l, num, den, out, i, m => if i < m then (queue_serve.f l num den).bind fun s => if s.2.1 = 6 then some (s.2.2.1, s.2.2.2.1, s.2.2.2.2, out, 0) else if s.2.1 = 0 then (if out.length < 17592186044415 then queue_Serve.l0 k s.2.2.1 s.2.2.2.1 s.2.2.2.2 (out ++ [s.1]) (wrap64 (i + 1)) m else none) else some ([], 0, 0, [], s.2.1) else some (l, num, den, out, 0)
def queue_Serve.f (k : Nat) (l0_0 : List S42) (a0_1 : Int) (a0_2 : Int) (a1 : Int) : Option (List S42 × Int × Int × List Int × Int) := (queue_Check.f k l0_0 a0_1 a0_2).bind fun e => if e = 0 then (if 0 ≤ a1 ∧ a1 ≤ 1000 then (queue_twin.f l0_0 a0_1 a0_2).bind fun t => queue_Serve.l0 k t.1 t.2.1 t.2.2 [] 0 a1 else some ([], 0, 0, [], 2)) else some ([], 0, 0, [], e)
theorem queue_Serve.mono_l : ∀ k y0 y1 y2 y3 y4 y5, LeO (queue_Serve.l0 k y0 y1 y2 y3 y4 y5) (queue_Serve.l0 (k + 1) y0 y1 y2 y3 y4 y5)
 | 0 => fun _ _ _ _ _ _ r h => by simp [queue_Serve.l0] at h
 | k + 1 => by
  intro y0 y1 y2 y3 y4 y5
  have ih := queue_Serve.mono_l k
  unfold queue_Serve.l0
  exact LeO.ite (LeO.bind (LeO.refl _) (fun _ => LeO.ite (LeO.refl _) (LeO.ite (LeO.ite (ih _ _ _ _ _ _) (LeO.refl _)) (LeO.refl _)))) (LeO.refl _)
theorem queue_Serve.mono : ∀ a b c d k, LeO (queue_Serve.f k a b c d) (queue_Serve.f (k + 1) a b c d) := by
 intro a b c d k
 unfold queue_Serve.f
 exact LeO.bind (queue_Check.mono _ _ _ _) (fun _ => LeO.ite (LeO.ite (LeO.bind (LeO.refl _) (fun _ => queue_Serve.mono_l _ _ _ _ _ _ _)) (LeO.refl _)) (LeO.refl _))
set_option maxHeartbeats 8000000 in
set_option maxRecDepth 100000 in
theorem queue_Serve.calls (k : Nat) (A0_0 : Option Addr) (c0_0 : Nat) (l0_0 : List (S42)) (a0_1 : Int) (a0_2 : Int) (a1 : Int) (r1 : List (S42)) (r2 : Int) (r3 : Int) (r4 : List Int) (r5 : Int) (w : World) (hr0_0 : Kd.C k42 w A0_0 l0_0.length l0_0) (hc0_0 : l0_0.length ≤ c0_0) (h : queue_Serve.f k l0_0 a0_1 a0_2 a1 = some (r1, r2, r3, r4, r5)) :
  Calls Try.prog 17 #[.agg #[.slice A0_0 l0_0.length c0_0, .int .i64 a0_1, .int .i64 a0_2], .int .i64 a1] w fun e w' => ∃ v0_ v3_ : Value, e = .returned (.tuple #[.agg #[v0_, .int .i64 r2, .int .i64 r3], v3_, .int .i64 r5]) ∧ Kd.R k42 42 w' w.heap.size (fun _ => True) v0_ r1 ∧ Kd.R (Kd.int .i64) 3 w' w.heap.size (fun _ => True) v3_ r4 ∧ Below w.heap.size w w' := by
 have hu24 := Try.underlying24
 have HR0 := Aside0.mk hr0_0
 have HC0 := Aside0.mk hc0_0
 replace h := Option.bind_eq_some_iff.mp h
 obtain ⟨e0, he0, H⟩ := h
 have HE := Aside0.mk he0
 clear he0 hr0_0 hc0_0
 have hb1 : Below w.heap.size w (w.alloc (.cells #[.slice A0_0 l0_0.length c0_0, .int .i64 a0_1, .int .i64 a0_2] 24)) := (Below.refl _ w).alloc (Nat.le_refl _) _
 have hb2 := hb1.alloc hb1.size (.cells #[.slice none 0 0, .int .i64 0, .int .i64 0] 24)
 have hk1 := blk_alloc (blk_new w (.cells #[.slice A0_0 l0_0.length c0_0, .int .i64 a0_1, .int .i64 a0_2] 24)) (.cells #[.slice none 0 0, .int .i64 0, .int .i64 0] 24)
 have hk2 := blk_new (w.alloc (.cells #[.slice A0_0 l0_0.length c0_0, .int .i64 a0_1, .int .i64 a0_2] 24)) (.cells #[.slice none 0 0, .int .i64 0, .int .i64 0] 24)
 have hsz : (w.alloc (.cells #[.slice A0_0 l0_0.length c0_0, .int .i64 a0_1, .int .i64 a0_2] 24)).heap.size = w.heap.size + 1 := by simp
 rw [hsz] at hk2
 have HB2 := Aside0.mk hb2
 have HK1 := Aside0.mk hk1
 have HK2 := Aside0.mk hk2
 have HCH := Aside0.mk (queue_Check.calls k A0_0 c0_0 l0_0 a0_1 a0_2 e0 _ (Kd.C_below HR0.out hb2) HC0.out HE.out)
 clear hb1 hb2 hk1 hk2 hsz
 try dsimp only at H
 by_cases c0 : e0 = 0
 ·rw [if_pos c0] at H
  subst c0
  by_cases c1 : 0 ≤ a1 ∧ a1 ≤ 1000
  ·rw [if_pos c1] at H
   have HIN := Aside0.mk (show queue_in.f a1 0 1000 = some true by unfold queue_in.f; rw [if_pos c1.1]; simp [c1.2])
   clear c1
   replace H := Option.bind_eq_some_iff.mp H
   obtain ⟨⟨t1, t2, t3⟩, ht, H⟩ := H
   have HT := Aside0.mk ht
   have HL := Aside0.mk (show queue_Serve.l0 k t1 t2 t3 [] 0 a1 = some (r1, r2, r3, r4, r5) from H)
   have HTW := Aside0.mk (fun W (hW : Below w.heap.size w W) => queue_twin.calls A0_0 c0_0 l0_0 a0_1 a0_2 t1 t2 t3 W (Kd.C_below HR0.out hW) HC0.out HT.out)
   clear ht H
   go_enter Try.func17, Try.ntmps17
   go_wp2_with (fail)
   refine HCH.out.mono ?_
   rintro e w1 ⟨rfl, hb⟩
   have HB3 := Aside0.mk (below_step HB2.out hb)
   have hk := blk_below HK1.out hb
   have HK3 := Aside0.mk hk
   have d0 := (blk_cell hk 0).trans rfl
   have d1 := (blk_cell hk 1).trans rfl
   have d2 := (blk_cell hk 2).trans rfl
   have HK4 := Aside0.mk (blk_below HK2.out hb)
   clear hb hk
   go_wp2_with (fail)
   refine (queue_in.calls a1 0 1000 true _ HIN.out).mono ?_
   rintro e w2 ⟨rfl, ⟨nd, rfl⟩⟩
   go_wp2_with (fail)
   refine (HTW.out _ (pw_below_drewN HB3.out _)).mono ?_
   rintro e w3 ⟨v0, rfl, ho, hb⟩
   have HB5 := Aside0.mk (below_step (pw_below_drewN HB3.out _) hb)
   have HO5 := Aside0.mk (Kd.R_lower ho (pw_below_drewN HB3.out _).size)
   have HK5 := Aside0.mk (blk_below (blk_drewN HK4.out _) hb)
   clear hb ho d0 d1 d2
   obtain ⟨Ao, co, eo⟩ := Kd.R_slice HO5.out
   subst eo
   go_wp2_with (fail)
   have HB6 := Aside0.mk (HB5.out.alloc HB5.out.size (.cells #[.slice Ao t1.length co, .int .i64 t2, .int .i64 t3] 24))
   have HO6 := Aside0.mk (Kd.R_alloc HO5.out (.cells #[.slice Ao t1.length co, .int .i64 t2, .int .i64 t3] 24))
   have HK6 := Aside0.mk (blk_alloc HK5.out (.cells #[.slice Ao t1.length co, .int .i64 t2, .int .i64 t3] 24))
   have HQ6 := Aside0.mk (blk_new w3 (.cells #[.slice Ao t1.length co, .int .i64 t2, .int .i64 t3] 24))
   have HLT := Aside0.mk (blk_lt HK5.out)
   have HWB := Aside0.mk HB5.out.size
   clear HCH HIN HTW HT HE HK1 HK2 HB2 HB3 HK3 HK4 HB5 HO5 HK5
   go_loopg [9, 25] k (fun gk v9 v25 w' => ∃ (i : Int) (l : List S42) (num den : Int) (out : List Int), v25 = .int .i64 i ∧ Aside0 (queue_Serve.l0 gk l num den out i a1 = some (r1, r2, r3, r4, r5)) ∧ Aside0 (gk ≤ k) ∧ Aside0 (Kd.R k42 42 w' w.heap.size (fun _ => True) (.slice Ao t1.length co) l) ∧ Aside0 (Kd.R (Kd.int .i64) 3 w' w.heap.size (fun _ => True) v9 out) ∧ Aside0 (w'.heap[w3.heap.size]? = some (.cells #[.slice Ao t1.length co, .int .i64 num, .int .i64 den] 24 (0, 0))) ∧ Aside0 (w'.heap[w.heap.size + 1]? = some (.cells #[.slice none 0 0, .int .i64 0, .int .i64 0] 24 (0, 0))) ∧ Aside0 (Below w.heap.size w w'))
   case atStart => exact ⟨0, t1, t2, t3, [], rfl, HL, ⟨Nat.le_refl _⟩, HO6, ⟨Kd.R_nil _ _ _ _ _⟩, HQ6, HK6, HB6⟩
   case round =>
    clear HL HO6 HQ6 HK6 HB6
    obtain ⟨i, l, num, den, out, rfl, HL, HGK, HO, HV, HQ, HK, HB⟩ := hrel
    cases gk with
    | zero => exact absurd HL.out (by simp [queue_Serve.l0])
    | succ k1 =>
     have H := HL.out
     clear HL
     simp only [queue_Serve.l0] at H
     have hq := HQ.out
     have d0 := (blk_cell hq 0).trans rfl
     have d1 := (blk_cell hq 1).trans rfl
     have d2 := (blk_cell hq 2).trans rfl
     clear hq
     by_cases c : i < a1
     ·rw [if_pos c] at H
      have fc : decide (i < a1) = true := decide_eq_true c
      clear c
      replace H := Option.bind_eq_some_iff.mp H
      obtain ⟨⟨s1, s2, s3, s4, s5⟩, hs, H⟩ := H
      try dsimp only at H
      have hser := queue_serve.calls w3.heap.size t1.length co w.heap.size Ao l num den s1 s2 s3 s4 s5 wr HQ.out HO.out HWB.out hs
      have HSER := Aside0.mk hser
      clear hs hser d0 d1 d2
      by_cases c1 : s2 = 6
      ·rw [if_pos c1] at H
       subst c1
       simp only [Option.some.injEq, Prod.mk.injEq] at H
       obtain ⟨rfl, rfl, rfl, rfl, rfl⟩ := H
       go_wp2_with (fail)
       refine HSER.out.mono ?_
       rintro e w7 ⟨rfl, hk6, ho6, hbe, hke⟩
       have HO7 := Aside0.mk ho6
       have HQ7 := Aside0.mk hk6
       have HB7 := Aside0.mk (Below.trans HB.out hbe)
       have hk7 := queue_serve.keep HO.out HK.out hke (Nat.ne_of_lt HLT.out)
       have HK7 := Aside0.mk hk7
       have HV7 := Aside0.mk (queue_Serve.kept HV.out HQ.out HO.out hke)
       have d0 := (blk_cell hk6 0).trans rfl
       have d1 := (blk_cell hk6 1).trans rfl
       have d2 := (blk_cell hk6 2).trans rfl
       have b0 := (blk_cell hk7 0).trans rfl
       have b1 := (blk_cell hk7 1).trans rfl
       have b2 := (blk_cell hk7 2).trans rfl
       have z0 := blk_frozen hk7 0
       have z1 := blk_frozen hk7 1
       have z2 := blk_frozen hk7 2
       have n7 : w.heap.size + 1 ≠ w3.heap.size := Nat.ne_of_lt HLT.out
       clear ho6 hke hbe hk6 hk7 HSER
       go_wp2_with (fail)
       refine bodyPost_ret (results_ctt rfl _ _ (w.heap.size + 1) 24 _ (0, 0) _ rfl (blk_put (blk_put (blk_put HK7.out 0 _ rfl) 1 _ rfl) 2 _ rfl) Try.underlying24 rfl (by kernel_rfl)) rfl ?_
       exact ⟨_, _, rfl, Kd.R_set (Kd.R_set (Kd.R_set HO7.out HK7.out (by decide) 0 _) (blk_put HK7.out 0 _ rfl) (by decide) 1 _) (blk_put (blk_put HK7.out 0 _ rfl) 1 _ rfl) (by decide) 2 _, Kd.R_set (Kd.R_set (Kd.R_set HV7.out HK7.out (by decide) 0 _) (blk_put HK7.out 0 _ rfl) (by decide) 1 _) (blk_put (blk_put HK7.out 0 _ rfl) 1 _ rfl) (by decide) 2 _, below_set (below_set (below_set HB7.out (by simp)) (by simp)) (by simp)⟩
      ·rw [if_neg c1] at H
       have f1 : (s2 == 6) = false := beq_eq_false_iff_ne.mpr c1
       clear c1
       by_cases c2 : s2 = 0
       ·rw [if_pos c2] at H
        subst c2
        by_cases c3 : out.length < 17592186044415
        ·rw [if_pos c3] at H
         have HL2 := Aside0.mk H
         have HLEN := Aside0.mk c3
         clear H c3
         go_wp2_with (fail)
         refine HSER.out.mono ?_
         rintro e w7 ⟨rfl, hk6, ho6, hbe, hke⟩
         have HO7 := Aside0.mk ho6
         have HQ7 := Aside0.mk hk6
         have HB7 := Aside0.mk (Below.trans HB.out hbe)
         have hk7 := queue_serve.keep HO.out HK.out hke (Nat.ne_of_lt HLT.out)
         have HK7 := Aside0.mk hk7
         have HV7 := Aside0.mk (queue_Serve.kept HV.out HQ.out HO.out hke)
         have d0 := (blk_cell hk6 0).trans rfl
         have d1 := (blk_cell hk6 1).trans rfl
         have d2 := (blk_cell hk6 2).trans rfl
         have b0 := (blk_cell hk7 0).trans rfl
         have b1 := (blk_cell hk7 1).trans rfl
         have b2 := (blk_cell hk7 2).trans rfl
         have z0 := blk_frozen hk7 0
         have z1 := blk_frozen hk7 1
         have z2 := blk_frozen hk7 2
         have n7 : w.heap.size + 1 ≠ w3.heap.size := Nat.ne_of_lt HLT.out
         clear ho6 hke hbe hk6 hk7 HSER
         go_wp2_with ((with_reducible refine gate_builtin (b := .append) (xs := #[.tmp 37, .tmp 39]) rfl ?_); at_builtin; refine Kd.R_append (Kd.int .i64) (w0 := w) w.heap.size rfl (.tmp 37) (.tmp 39) 31 3 (.int .i64 0) 8 rfl Try.underlying31 info3 rfl (by decide) (by omega) u9 out s1 [.int .i64 s1] (fun k_ => k_ ≠ w3.heap.size ∧ k_ ≠ w.heap.size + 1 ∧ some k_ ≠ (Value.slice Ao t1.length co).ownBlock) (fun _ => False) rfl rfl ?aP (fun _ hk => hk.elim) ?aF ?aO ?aB ?aS ?aL ?_; (case aP => rfl); (case aB => exact HB7.out); (case aF => exact queue_Serve.fresh HQ7.out HK7.out HO7.out); (case aO => exact queue_Serve.own HV7.out HQ7.out HK7.out HO7.out); (case aS => exact below_size HB7.out); (case aL => have := HLEN.out; omega); intro v9 w9 ho hb hg hat; have HV8 := Aside0.mk (Kd.R_mono ho (fun _ _ => trivial)); have HB8 := Aside0.mk hb; have hav := queue_Serve.own HV7.out HQ7.out HK7.out HO7.out; have HQ8 := Aside0.mk (blk_grown HQ7.out hg (queue_Serve.ne1 hav)); have HK8 := Aside0.mk (blk_grown HK7.out hg (queue_Serve.ne2 hav)); have HO8 := Aside0.mk (queue_Serve.row HO7.out HV7.out hg); clear ho hb hg hat hav)
         go_roundg k1
         case measure => have := HGK.out; omega
         case rel => exact ⟨wrap64 (i + 1), s3, s4, s5, out ++ [s1], (by first | rfl | (simp; done)), HL2, ⟨by have := HGK.out; omega⟩, HO8, HV8, HQ8, HK8, HB8⟩
        ·rw [if_neg c3] at H; exact absurd H (by simp)
       ·rw [if_neg c2] at H
        have f2 : (s2 != 0) = true := bne_iff_ne.mpr c2
        clear c2
        simp only [Option.some.injEq, Prod.mk.injEq] at H
        obtain ⟨rfl, rfl, rfl, rfl, rfl⟩ := H
        go_wp2_with (fail)
        refine HSER.out.mono ?_
        rintro e w7 ⟨rfl, hk6, ho6, hbe, hke⟩
        have HO7 := Aside0.mk ho6
        have HQ7 := Aside0.mk hk6
        have HB7 := Aside0.mk (Below.trans HB.out hbe)
        have hk7 := queue_serve.keep HO.out HK.out hke (Nat.ne_of_lt HLT.out)
        have HK7 := Aside0.mk hk7
        have HV7 := Aside0.mk (queue_Serve.kept HV.out HQ.out HO.out hke)
        have d0 := (blk_cell hk6 0).trans rfl
        have d1 := (blk_cell hk6 1).trans rfl
        have d2 := (blk_cell hk6 2).trans rfl
        have b0 := (blk_cell hk7 0).trans rfl
        have b1 := (blk_cell hk7 1).trans rfl
        have b2 := (blk_cell hk7 2).trans rfl
        have z0 := blk_frozen hk7 0
        have z1 := blk_frozen hk7 1
        have z2 := blk_frozen hk7 2
        have n7 : w.heap.size + 1 ≠ w3.heap.size := Nat.ne_of_lt HLT.out
        clear ho6 hke hbe hk6 hk7 HSER
        go_wp2_with (fail)
        refine bodyPost_ret (results_ctt rfl _ _ (w.heap.size + 1) 24 _ (0, 0) _ rfl (blk_put (blk_put (blk_put HK7.out 0 _ rfl) 1 _ rfl) 2 _ rfl) Try.underlying24 rfl (by kernel_rfl)) rfl ?_
        exact ⟨_, _, rfl, Kd.R_nil _ _ _ _ _, Kd.R_nil _ _ _ _ _, below_set (below_set (below_set HB7.out (by simp)) (by simp)) (by simp)⟩
     ·rw [if_neg c] at H
      have fc : decide (i < a1) = false := decide_eq_false c
      simp only [Option.some.injEq, Prod.mk.injEq] at H
      obtain ⟨rfl, rfl, rfl, rfl, rfl⟩ := H
      clear c
      have hk7 := HK.out
      have b0 := (blk_cell hk7 0).trans rfl
      have b1 := (blk_cell hk7 1).trans rfl
      have b2 := (blk_cell hk7 2).trans rfl
      have z0 := blk_frozen hk7 0
      have z1 := blk_frozen hk7 1
      have z2 := blk_frozen hk7 2
      have n7 : w.heap.size + 1 ≠ w3.heap.size := Nat.ne_of_lt HLT.out
      clear hk7
      obtain ⟨Av, cv, ev⟩ := Kd.R_slice HV.out
      subst ev
      go_wp2_with (fail)
      refine bodyPost_ret (results_ctt rfl _ _ (w.heap.size + 1) 24 _ (0, 0) _ rfl (blk_put (blk_put (blk_put HK.out 0 _ rfl) 1 _ rfl) 2 _ rfl) Try.underlying24 rfl (by kernel_rfl)) rfl ?_
      exact ⟨_, _, rfl, Kd.R_set (Kd.R_set (Kd.R_set HO.out HK.out (by decide) 0 _) (blk_put HK.out 0 _ rfl) (by decide) 1 _) (blk_put (blk_put HK.out 0 _ rfl) 1 _ rfl) (by decide) 2 _, Kd.R_set (Kd.R_set (Kd.R_set HV.out HK.out (by decide) 0 _) (blk_put HK.out 0 _ rfl) (by decide) 1 _) (blk_put (blk_put HK.out 0 _ rfl) 1 _ rfl) (by decide) 2 _, below_set (below_set (below_set HB.out (by simp)) (by simp)) (by simp)⟩
  ·rw [if_neg c1] at H
   simp only [Option.some.injEq, Prod.mk.injEq] at H
   obtain ⟨rfl, rfl, rfl, rfl, rfl⟩ := H
   have HIN := Aside0.mk (show queue_in.f a1 0 1000 = some false by
    unfold queue_in.f
    by_cases h0 : a1 ≥ 0
    ·rw [if_pos h0]; simp; omega
    ·rw [if_neg h0])
   clear c1
   go_enter Try.func17, Try.ntmps17
   go_wp2_with (fail)
   refine HCH.out.mono ?_
   rintro e w1 ⟨rfl, hb⟩
   have HB3 := Aside0.mk (below_step HB2.out hb)
   have hk2 := blk_below HK2.out hb
   have HK4 := Aside0.mk hk2
   have d0 := (blk_cell hk2 0).trans rfl
   have d1 := (blk_cell hk2 1).trans rfl
   have d2 := (blk_cell hk2 2).trans rfl
   have z0 := blk_frozen hk2 0
   have z1 := blk_frozen hk2 1
   have z2 := blk_frozen hk2 2
   clear hb hk2
   go_wp2_with (fail)
   refine (queue_in.calls a1 0 1000 false _ HIN.out).mono ?_
   rintro e w2 ⟨rfl, ⟨nd, rfl⟩⟩
   go_wp2_with (fail)
   refine bodyPost_ret (results_ctt rfl _ _ (w.heap.size + 1) 24 _ (0, 0) _ rfl (blk_put (blk_put (blk_put HK4.out 0 _ rfl) 1 _ rfl) 2 _ rfl) Try.underlying24 rfl (by kernel_rfl)) rfl ?_
   exact ⟨_, _, rfl, Kd.R_nil _ _ _ _ _, Kd.R_nil _ _ _ _ _, below_set (below_set (below_set (pw_below_drewN HB3.out _) (by simp)) (by simp)) (by simp)⟩
 ·rw [if_neg c0] at H
  simp only [Option.some.injEq, Prod.mk.injEq] at H
  obtain ⟨rfl, rfl, rfl, rfl, rfl⟩ := H
  have f1 : (e0 != 0) = true := bne_iff_ne.mpr c0
  clear c0
  go_enter Try.func17, Try.ntmps17
  go_wp2_with (fail)
  refine HCH.out.mono ?_
  rintro e w1 ⟨rfl, hb⟩
  have HB3 := Aside0.mk (below_step HB2.out hb)
  have hk2 := blk_below HK2.out hb
  have HK4 := Aside0.mk hk2
  have d0 := (blk_cell hk2 0).trans rfl
  have d1 := (blk_cell hk2 1).trans rfl
  have d2 := (blk_cell hk2 2).trans rfl
  have z0 := blk_frozen hk2 0
  have z1 := blk_frozen hk2 1
  have z2 := blk_frozen hk2 2
  clear hb hk2
  go_wp2_with (fail)
  refine bodyPost_ret (results_ctt rfl _ _ (w.heap.size + 1) 24 _ (0, 0) _ rfl (blk_put (blk_put (blk_put HK4.out 0 _ rfl) 1 _ rfl) 2 _ rfl) Try.underlying24 rfl (by kernel_rfl)) rfl ?_
  exact ⟨_, _, rfl, Kd.R_nil _ _ _ _ _, Kd.R_nil _ _ _ _ _, below_set (below_set (below_set HB3.out (by simp)) (by simp)) (by simp)⟩

/-! ### fringeref42_SameInts: function 20 -/
def fringeref42_SameInts.l0 : Nat → List Int → List Int → Int → Option (Bool)
 | 0, _, _, _ => none
 | k + 1, x0, x1, x5 => if x5 < (x0.length : Int) then (if 0 ≤ x5 then (if x5 < (x1.length : Int) then (if (rd x0 x5) = (rd x1 x5) then (fringeref42_SameInts.l0 k x0 x1 (wrap64 (x5 + 1))) else (some false)) else (none)) else (none)) else (some true)
def fringeref42_SameInts.f (k : Nat) (l0 : List Int) (l1 : List Int) : Option (Bool) := if (l0.length : Int) = (l1.length : Int) then (fringeref42_SameInts.l0 k l0 l1 0) else (some false)
theorem fringeref42_SameInts.mono_l : ∀ k, (∀ y0 y1 y2, LeO (fringeref42_SameInts.l0 k y0 y1 y2) (fringeref42_SameInts.l0 (k + 1) y0 y1 y2))
 | 0 => fun _ _ _ r h => by simp [fringeref42_SameInts.l0] at h
 | k + 1 => by
  have ih0 := fringeref42_SameInts.mono_l k
  ·intro y0 y1 y2
   unfold fringeref42_SameInts.l0
   repeat' first
   | (with_reducible exact ih0 _ _ _)
   | (with_reducible exact LeO.refl _)
   | (with_reducible exact LeO.none _)
   | (with_reducible refine LeO.ite ?_ ?_)
   | (with_reducible refine LeO.bind ?_ (fun _ => ?_))
   | exact ih0 _ _ _
   | exact LeO.none _
   | refine LeO.ite ?_ ?_
   | refine LeO.bind ?_ (fun _ => ?_)
theorem fringeref42_SameInts.mono : ∀ a0 a1 k, LeO (fringeref42_SameInts.f k a0 a1) (fringeref42_SameInts.f (k + 1) a0 a1) := by
 intro a0 a1 k
 have ih0 := fringeref42_SameInts.mono_l k
 unfold fringeref42_SameInts.f
 repeat' first
   | (with_reducible exact ih0 _ _ _)
   | (with_reducible exact LeO.refl _)
   | (with_reducible exact LeO.none _)
   | (with_reducible refine LeO.ite ?_ ?_)
   | (with_reducible refine LeO.bind ?_ (fun _ => ?_))
   | exact ih0 _ _ _
   | exact LeO.none _
   | refine LeO.ite ?_ ?_
   | refine LeO.bind ?_ (fun _ => ?_)
set_option maxHeartbeats 8000000 in
set_option maxRecDepth 100000 in
theorem fringeref42_SameInts.calls (k : Nat) (A0 : Option Addr) (c0 : Nat) (l0 : List Int) (A1 : Option Addr) (c1 : Nat) (l1 : List Int) (r : Bool) (w : World) (hr0 : Kd.C (Kd.int .i64) w A0 l0.length l0) (hc0 : l0.length ≤ c0) (hr1 : Kd.C (Kd.int .i64) w A1 l1.length l1) (hc1 : l1.length ≤ c1) (h : fringeref42_SameInts.f k l0 l1 = some r) :
  Calls Try.prog 20 #[.slice A0 l0.length c0, .slice A1 l1.length c1] w fun e w' => e = .returned (.bool r) ∧ Drawn0 w w' := by
 have HR0 := Aside0.mk hr0
 have HC0 := Aside0.mk hc0
 clear hr0 hc0
 have HR1 := Aside0.mk hr1
 have HC1 := Aside0.mk hc1
 clear hr1 hc1
 have H : (if (l0.length : Int) = (l1.length : Int) then (fringeref42_SameInts.l0 k l0 l1 0) else (some false)) = some r := h
 clear h
 by_cases c3 : (l0.length : Int) = (l1.length : Int)
 ·rw [if_pos c3] at H
  have c3b0 : ((l0.length : Int) == (l1.length : Int)) = true := beq_iff_eq.mpr c3
  have c3b1 : ((l0.length : Int) != (l1.length : Int)) = false := bne_eq_false_iff_eq.mpr c3
  have c3b2 : (l0.length == l1.length) = true := by first | simpa using c3 | (simp at c3 ⊢; omega)
  clear c3
  have H' := Aside0.mk H
  clear H
  go_enter Try.func20, Try.ntmps20
  go_wp2
  repeat (go_quiet (fail); try go_wp2)
  go_loopg [5] k (fun kq v5 w' => ∃ (x5_1 : Int), v5 = .int .i64 x5_1 ∧ Aside0 (fringeref42_SameInts.l0 kq l0 l1 x5_1 = some r) ∧ Aside0 (kq ≤ k) ∧ Drawn0 w w')
  case atStart => exact ⟨(0), (by first | rfl | (simp; done) | (simp [*]; done)), H', ⟨Nat.le_refl _⟩, by repeat (first | exact Drawn0.refl _ | apply Drawn0.step)⟩
  case round =>
   clear H'
   try clear c1
   try clear c2
   try clear p2
   try clear c3
   try clear c3b0
   try clear c3b1
   try clear c3b2
   obtain ⟨x5_1, rfl, HA, HK1, ⟨m1, rfl⟩⟩ := hrel
   cases gk with
   | zero => exact absurd HA.out (by simp [fringeref42_SameInts.l0])
   | succ k1 =>
    have H := HA.out
    clear HA
    simp only [fringeref42_SameInts.l0] at H
    by_cases c4 : x5_1 < (l0.length : Int)
    ·rw [if_pos c4] at H
     have c4b0 : decide (x5_1 < (l0.length : Int)) = true := decide_eq_true c4
     clear c4
     by_cases c5 : 0 ≤ x5_1
     ·rw [if_pos c5] at H
      have c5b0 : decide (0 ≤ x5_1) = true := decide_eq_true c5
      clear c5
      by_cases c6 : x5_1 < (l1.length : Int)
      ·rw [if_pos c6] at H
       have c6b0 : decide (x5_1 < (l1.length : Int)) = true := decide_eq_true c6
       clear c6
       by_cases c7 : (rd l0 x5_1) = (rd l1 x5_1)
       ·rw [if_pos c7] at H
        have c7b0 : ((rd l0 x5_1) == (rd l1 x5_1)) = true := beq_iff_eq.mpr c7
        have c7b1 : ((rd l0 x5_1) != (rd l1 x5_1)) = false := bne_eq_false_iff_eq.mpr c7
        clear c7
        have H' := Aside0.mk H
        clear H
        have p176 : 0 ≤ (x5_1 : Int) := of_decide_eq_true (by first | (with_reducible assumption) | assumption)
        have q176 : x5_1 < (l0.length : Int) := of_decide_eq_true (by first | (with_reducible assumption) | assumption)
        obtain ⟨ad176, e176, hx176_0⟩ := Kd.at_int HR0.out x5_1 p176 q176
        cases e176
        replace p176 := eq_true p176
        replace q176 := eq_true q176
        have p177 : 0 ≤ (x5_1 : Int) := of_decide_eq_true (by first | (with_reducible assumption) | assumption)
        have q177 : x5_1 < (l1.length : Int) := of_decide_eq_true (by first | (with_reducible assumption) | assumption)
        obtain ⟨ad177, e177, hx177_0⟩ := Kd.at_int HR1.out x5_1 p177 q177
        cases e177
        replace p177 := eq_true p177
        replace q177 := eq_true q177
        go_wp2
        repeat (go_quiet (fail); try go_wp2)
        go_roundg k1
        case measure => have := HK1.out; omega
        case rel => exact ⟨(wrap64 (x5_1 + 1)), (by first | rfl | (simp; done) | (simp [*]; done)), H', ⟨by have := HK1.out; omega⟩, by repeat (first | exact Drawn0.refl _ | apply Drawn0.step)⟩
       ·rw [if_neg c7] at H
        have c7b0 : ((rd l0 x5_1) == (rd l1 x5_1)) = false := beq_eq_false_iff_ne.mpr c7
        have c7b1 : ((rd l0 x5_1) != (rd l1 x5_1)) = true := bne_iff_ne.mpr c7
        obtain rfl := Option.some.inj H
        have p176 : 0 ≤ (x5_1 : Int) := of_decide_eq_true (by first | (with_reducible assumption) | assumption)
        have q176 : x5_1 < (l0.length : Int) := of_decide_eq_true (by first | (with_reducible assumption) | assumption)
        obtain ⟨ad176, e176, hx176_0⟩ := Kd.at_int HR0.out x5_1 p176 q176
        cases e176
        replace p176 := eq_true p176
        replace q176 := eq_true q176
        have p177 : 0 ≤ (x5_1 : Int) := of_decide_eq_true (by first | (with_reducible assumption) | assumption)
        have q177 : x5_1 < (l1.length : Int) := of_decide_eq_true (by first | (with_reducible assumption) | assumption)
        obtain ⟨ad177, e177, hx177_0⟩ := Kd.at_int HR1.out x5_1 p177 q177
        cases e177
        replace p177 := eq_true p177
        replace q177 := eq_true q177
        go_wp2
        repeat (go_quiet (fail); try go_wp2)
        go_ret
        exact ⟨by first | rfl | (simp; done) | (simp [*]; done), by repeat (first | exact Drawn0.refl _ | apply Drawn0.step)⟩
      ·rw [if_neg c6] at H
       exact absurd H (by simp)
     ·rw [if_neg c5] at H
      exact absurd H (by simp)
    ·rw [if_neg c4] at H
     have c4b0 : decide (x5_1 < (l0.length : Int)) = false := decide_eq_false c4
     clear c4
     obtain rfl := Option.some.inj H
     go_wp2
     repeat (go_quiet (fail); try go_wp2)
     go_ret
     exact ⟨by first | rfl | (simp; done) | (simp [*]; done), by repeat (first | exact Drawn0.refl _ | apply Drawn0.step)⟩
 ·rw [if_neg c3] at H
  have c3b0 : ((l0.length : Int) == (l1.length : Int)) = false := beq_eq_false_iff_ne.mpr c3
  have c3b1 : ((l0.length : Int) != (l1.length : Int)) = true := bne_iff_ne.mpr c3
  have c3b2 : (l0.length == l1.length) = false := by first | simpa using c3 | (simp at c3 ⊢; omega)
  obtain rfl := Option.some.inj H
  go_enter Try.func20, Try.ntmps20
  go_wp2
  repeat (go_quiet (fail); try go_wp2)
  go_ret
  exact ⟨by first | rfl | (simp; done) | (simp [*]; done), by repeat (first | exact Drawn0.refl _ | apply Drawn0.step)⟩

end Go.Proofs.Ytelmcaenemjppaa.Q
