-- Written by qprint.py (a program of this session) over the program of the kit that prints contracts. Not trusted: Lean checks it.
import Derived.Test.YtnlaklkneaaakaaQ0
import Derived.Test.YtnlaklkneaaakaaQ6
import Derived.Test.YtnlaklkneaaakaaQ17
import Derived.Test.YtnlaklkneaaakaaQ18
namespace Go.Proofs.Ytnlaklkneaaakaa.Q
open Go.RowKit Go.Proofs.YtnlaklkneaaakaaW.PrintWords Go.Proofs.YtnlaklkneaaakaaW.PrintLast Go.Proofs.YtnlaklkneaaakaaW.PrintMore
attribute [local go_sem] max2_int min2_int max_two min_two max_three min_three max_four min_four   -- for this text's walks alone
set_option linter.unusedVariables false
set_option linter.unusedSimpArgs false

/-! ### gain_Mul_1: function 49 (by hand) -/

set_option maxHeartbeats 8000000 in
set_option maxRecDepth 100000 in
theorem gain_Mul_1 (k i B c1 : Nat) (x y z : S36) (e : Int) (A1 : Option Addr) (l1 : List S36) (W : World) (hB : W.heap[B]? = some (.cells #[.slice A1 l1.length c1] 22 (0, 0))) (hr : Kd.C k36 W A1 l1.length l1) (hi : i < l1.length) (hz : rd_T36 l1 i = z)
  (h : cx_Mul.f k x.f0 x.f1 x.f2 z.f0 z.f1 z.f2 = some (y.f0, y.f1, y.f2, e)) :
  Calls Try.prog 49 #[.int .i64 i, .agg #[.int .i64 x.f0, .int .i64 x.f1, .int .i64 x.f2], .pointer (some ⟨B, 0, none⟩)] W fun e' w' => e' = .returned (.tuple #[.agg #[.int .i64 y.f0, .int .i64 y.f1, .int .i64 y.f2], .int .i64 e]) ∧ Below W.heap.size W w' := by
 have hu := Try.underlying36
 have H := Aside0.mk h
 have hb1 : Below W.heap.size W (W.alloc (.cells #[.int .i64 x.f0, .int .i64 x.f1, .int .i64 x.f2] 36)) := (Below.refl _ W).alloc (Nat.le_refl _) _
 have hb2 := hb1.alloc hb1.size (.cells #[.int .i64 0, .int .i64 0, .int .i64 0] 36)
 have hk1 := blk_alloc (blk_new W (.cells #[.int .i64 x.f0, .int .i64 x.f1, .int .i64 x.f2] 36)) (.cells #[.int .i64 0, .int .i64 0, .int .i64 0] 36)
 have hk2 := blk_new (W.alloc (.cells #[.int .i64 x.f0, .int .i64 x.f1, .int .i64 x.f2] 36)) (.cells #[.int .i64 0, .int .i64 0, .int .i64 0] 36)
 have hsz : (W.alloc (.cells #[.int .i64 x.f0, .int .i64 x.f1, .int .i64 x.f2] 36)).heap.size = W.heap.size + 1 := by simp
 rw [hsz] at hk2
 have hkB := blk_below hB hb2
 have p1 : 0 ≤ (i : Int) := by omega
 have q1 : (i : Int) < (l1.length : Int) := by omega
 obtain ⟨ad, e1, hx0, hx1, hx2⟩ := at_T36 hr i p1 q1
 subst e1
 replace hx0 := (hb2.cell (World.block_lt_of_cell? W _ hx0)).trans hx0
 replace hx1 := (hb2.cell (World.block_lt_of_cell? W _ hx1)).trans hx1
 replace hx2 := (hb2.cell (World.block_lt_of_cell? W _ hx2)).trans hx2
 simp only [Int.toNat_natCast] at hx0 hx1 hx2
 rw [hz] at hx0 hx1 hx2
 have hBlt := blk_lt hB
 clear hB hr h hz hb1 hsz
 go_enter Try.func49, Try.ntmps49
 go_wp2_with (fail)
 generalize (W.alloc (.cells #[.int .i64 x.f0, .int .i64 x.f1, .int .i64 x.f2] 36)).alloc (.cells #[.int .i64 0, .int .i64 0, .int .i64 0] 36) = W2 at *
 have HB2 := Aside0.mk hb2
 have HK2 := Aside0.mk hk2
 have d0 := (blk_cell hk1 0).trans rfl
 have d1 := (blk_cell hk1 1).trans rfl
 have d2 := (blk_cell hk1 2).trans rfl
 have dB := (blk_cell hkB 0).trans rfl
 have q1i : (i < l1.length) = True := eq_true hi
 replace p1 := eq_true p1
 replace q1 := eq_true q1
 clear hb2 hk1 hk2 hkB hi
 go_region_with (go_at_call 34; (with_reducible refine (cx_Mul.calls k _ _ _ _ _ _ _ _ _ _ _ H.out).mono ?_); rintro e' w3 ⟨rfl, hb⟩; have HB3 := Aside0.mk (below_step (below_drew1 HB2.out) hb); have hk := blk_below (blk_drew HK2.out) hb; have HK3 := Aside0.mk hk; have f0 := (blk_cell hk 0).trans rfl; have f1 := (blk_cell hk 1).trans rfl; have f2 := (blk_cell hk 2).trans rfl; have y0 := blk_frozen hk 0; have y1 := blk_frozen hk 1; have y2 := blk_frozen hk 2; clear hb hk)
 all_goals
  go_wp2_with (fail)
  refine bodyPost_ret (results_ct rfl _ _ (W.heap.size + 1) 36 _ (0, 0) _ rfl (blk_put (blk_put (blk_put HK3.out 0 _ rfl) 1 _ rfl) 2 _ rfl) Try.underlying36 rfl (by kernel_rfl)) rfl ?_
  exact ⟨rfl, below_set (below_set (below_set HB3.out (by omega)) (by omega)) (by omega)⟩

/-! ### gain_Mul: function 21 (by hand) -/
def mul_one (k : Nat) (l1 : List S36) (i : Nat) (x : S36) : Option (S36 × Int) := if i < l1.length then (cx_Mul.f k x.f0 x.f1 x.f2 (rd_T36 l1 i).f0 (rd_T36 l1 i).f1 (rd_T36 l1 i).f2).bind fun r => some (⟨r.1, r.2.1, r.2.2.1⟩, r.2.2.2) else none
theorem mul_one.mono (k : Nat) (l : List S36) (i : Nat) (x : S36) : LeO (mul_one k l i x) (mul_one (k + 1) l i x) := by
 unfold mul_one
 exact LeO.ite (LeO.bind (cx_Mul.mono _ _ _ _ _ _ _) (fun _ => LeO.refl _)) (LeO.refl _)
theorem mul_one.of {k : Nat} {l1 : List S36} {i : Nat} {x y : S36} {e : Int} (h : mul_one k l1 i x = some (y, e)) : i < l1.length ∧ cx_Mul.f k x.f0 x.f1 x.f2 (rd_T36 l1 i).f0 (rd_T36 l1 i).f1 (rd_T36 l1 i).f2 = some (y.f0, y.f1, y.f2, e) := by
 unfold mul_one at h
 by_cases c : i < l1.length
 ·rw [if_pos c] at h
  obtain ⟨r, hr, h⟩ := Option.bind_eq_some_iff.mp h
  simp only [Option.some.injEq, Prod.mk.injEq] at h
  obtain ⟨rfl, rfl⟩ := h
  exact ⟨c, hr⟩
 ·rw [if_neg c] at h; cases h
def gain_Mul.f (k : Nat) (l0 l1 : List S36) : Option (List S36 × Int) := (gain_both.f k l0 l1).bind fun e => if e = 0 then (if l0.length < 9223372036854775807 then madeCx.go (mul_one k l1) l0 0 [] else none) else some ([], e)
theorem gain_Mul.mono : ∀ l0 l1 k, LeO (gain_Mul.f k l0 l1) (gain_Mul.f (k + 1) l0 l1) := by
 intro l0 l1 k
 unfold gain_Mul.f
 exact LeO.bind (gain_both.mono _ _ _) (fun e => LeO.ite (LeO.ite (madeCx.go_mono (fun i x => mul_one.mono _ _ _ _) _ _ _) (LeO.refl _)) (LeO.refl _))
set_option maxHeartbeats 8000000 in
set_option maxRecDepth 100000 in
theorem gain_Mul.calls (k : Nat) (A0 : Option Addr) (c0 : Nat) (l0 : List (S36)) (A1 : Option Addr) (c1 : Nat) (l1 : List (S36)) (r1 : List (S36)) (r2 : Int) (w : World) (hr0 : Kd.C k36 w A0 l0.length l0) (hc0 : l0.length ≤ c0) (hr1 : Kd.C k36 w A1 l1.length l1) (hc1 : l1.length ≤ c1) (h : gain_Mul.f k l0 l1 = some (r1, r2)) :
  Calls Try.prog 21 #[.slice A0 l0.length c0, .slice A1 l1.length c1] w fun e w' => ∃ v0_ : Value, e = .returned (.tuple #[v0_, .int .i64 r2]) ∧ Kd.R k36 36 w' w.heap.size (fun _ => True) v0_ r1 ∧ Below w.heap.size w w' := by
 unfold gain_Mul.f at h
 obtain ⟨e, he, h⟩ := Option.bind_eq_some_iff.mp h
 have hb1 : Below w.heap.size w (w.alloc (.cells #[.slice A1 l1.length c1] 22)) := (Below.refl _ w).alloc (Nat.le_refl _) _
 have hk1 := blk_new w (.cells #[.slice A1 l1.length c1] 22)
 have HR0 := Aside0.mk hr0
 have HR1 := Aside0.mk hr1
 have HB1 := Aside0.mk hb1
 have HK1 := Aside0.mk hk1
 have HCH := Aside0.mk (gain_both.calls k A0 c0 l0 A1 c1 l1 e _ (Kd.C_below hr0 hb1) hc0 (Kd.C_below hr1 hb1) hc1 he)
 clear hr0 hc0 hr1 hc1 hb1 hk1 he
 by_cases ce : e = 0
 ·rw [if_pos ce] at h
  have g1 : (e != 0) = false := bne_eq_false_iff_eq.mpr ce
  by_cases c2 : l0.length < 9223372036854775807
  ·rw [if_pos c2] at h
   have HMADE := Aside0.mk (fun (W : World) (hW : Below (w.alloc (.cells #[.slice A1 l1.length c1] 22)).heap.size (w.alloc (.cells #[.slice A1 l1.length c1] 22)) W) => madeCx.calls 49 (fun _ _ => by kernel_rfl) #[.pointer (some ⟨w.heap.size, 0, none⟩)] (mul_one k l1) A0 c0 l0 r1 r2 W (Kd.C_below HR0.out (below_step HB1.out hW)) c2
    (fun W' i x y e' hx hbl => gain_Mul_1 k i w.heap.size c1 x y _ e' A1 l1 W' (blk_below (blk_below HK1.out hW) hbl) (Kd.C_below HR1.out (below_step (below_step HB1.out hW) hbl)) (mul_one.of hx).1 rfl (mul_one.of hx).2) h)
   clear h c2 ce
   go_enter Try.func21, Try.ntmps21
   go_wp2_with (first | (go_at_call 42; (with_reducible refine HCH.out.mono ?_); rintro e' w2 ⟨rfl, hb⟩; have HB2 := Aside0.mk (below_step HB1.out hb); have HW2 := Aside0.mk hb; clear hb) | (go_at_call 44; (with_reducible refine (HMADE.out _ HW2.out).mono ?_); rintro e' w4 ⟨v4, rfl, ho, hb⟩; have HB4 := Aside0.mk (below_step HB2.out hb); have HO4 := Aside0.mk (Kd.R_lower ho (below_size HB2.out)); clear hb ho))
   go_ret2
   exact ⟨_, rfl, HO4.out, HB4.out⟩
  ·rw [if_neg c2] at h; cases h
 ·rw [if_neg ce] at h
  simp only [Option.some.injEq, Prod.mk.injEq] at h
  obtain ⟨rfl, rfl⟩ := h
  have g1 : (e != 0) = true := bne_iff_ne.mpr ce
  clear ce
  go_enter Try.func21, Try.ntmps21
  go_wp2_with (go_at_call 42; (with_reducible refine HCH.out.mono ?_); rintro e' w2 ⟨rfl, hb⟩; have HB2 := Aside0.mk (below_step HB1.out hb); clear hb)
  go_ret2
  exact ⟨_, rfl, Kd.R_nil _ _ _ _ _, HB2.out⟩

end Go.Proofs.Ytnlaklkneaaakaa.Q
