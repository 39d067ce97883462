-- Written by qprint.py (a program of this session) over the program of the kit that prints contracts. Not trusted: Lean checks it.
import Derived.Test.YtnlaklkneaaakaaQ0
import Derived.Test.YtnlaklkneaaakaaQ1
import Derived.Test.YtnlaklkneaaakaaQ5
import Derived.Test.YtnlaklkneaaakaaQ6
import Derived.Test.YtnlaklkneaaakaaQ17
namespace Go.Proofs.Ytnlaklkneaaakaa.Q
open Go.RowKit Go.Proofs.YtnlaklkneaaakaaW.PrintWords Go.Proofs.YtnlaklkneaaakaaW.PrintLast Go.Proofs.YtnlaklkneaaakaaW.PrintMore
attribute [local go_sem] max2_int min2_int max_two min_two max_three min_three max_four min_four   -- for this text's walks alone
set_option linter.unusedVariables false
set_option linter.unusedSimpArgs false

attribute [local go_sem high] eqA36
/-! ### gain_made__api_Cx_api_Cx: function 44 (by hand) -/

def madeCx.go (one : Nat → S36 → Option (S36 × Int)) : List S36 → Nat → List S36 → Option (List S36 × Int)
 | [], _, acc => some (acc, 0)
 | x :: t, i, acc => (one i x).bind fun r => if r.2 = 0 then (if acc.length < 5864062014805 then madeCx.go one t (i + 1) (acc ++ [r.1]) else none) else some ([], 16)
theorem madeCx.cells (W : World) (base : Nat) (y : S36) : k36.M W base (fun _ => False) y [.int .i64 y.f0, .int .i64 y.f1, .int .i64 y.f2] := by
 repeat (first | exact ⟨_, _, rfl, rfl, rfl⟩ | exact ⟨[_], _, rfl, rfl, rfl⟩ | refine ⟨[_], _, rfl, rfl, ?_⟩ | refine ⟨[_, _, _], _, rfl, ?_, ?_⟩ | rfl)
theorem madeCx.info : (Try.prog.info? 36).map (fun i => (i.zero, i.size, i.bytes)) = some (some (.agg #[.int .i64 0, .int .i64 0, .int .i64 0]), 3, 24) := by kernel_rfl
set_option maxHeartbeats 8000000 in
set_option maxRecDepth 100000 in
theorem madeCx.calls (K : Nat) (hK : ∀ (args : Array Value) (W : World), (callFunc K args).run Try.prog W = .ok (.enter K args) W) (lb : Array Value) (one : Nat → S36 → Option (S36 × Int)) (A0 : Option Addr) (c0 : Nat) (l0 : List S36) (r1 : List S36) (r2 : Int) (w : World) (hr0 : Kd.C k36 w A0 l0.length l0) (hlim : l0.length < 9223372036854775807)
  (hp : ∀ (W : World) (i : Nat) (x y : S36) (e : Int), one i x = some (y, e) → Below w.heap.size w W → Calls Try.prog K (#[.int .i64 i, .agg #[.int .i64 x.f0, .int .i64 x.f1, .int .i64 x.f2]] ++ lb) W fun e' w' => e' = .returned (.tuple #[.agg #[.int .i64 y.f0, .int .i64 y.f1, .int .i64 y.f2], .int .i64 e]) ∧ Below W.heap.size W w') (h : madeCx.go one l0 0 [] = some (r1, r2)) :
  Calls Try.prog 44 #[.slice A0 l0.length c0, .func (.func K) #[] lb] w fun e w' => ∃ v0_ : Value, e = .returned (.tuple #[v0_, .int .i64 r2]) ∧ Kd.R k36 36 w' w.heap.size (fun _ => True) v0_ r1 ∧ Below w.heap.size w w' := by
 have HR0 := Aside0.mk hr0
 have HP := Aside0.mk hp
 have HH := Aside0.mk h
 have HB := Aside0.mk (Below.refl w.heap.size w)
 have HM := Aside0.mk hlim
 clear hr0 hp hlim h
 go_enter Try.func44, Try.ntmps44
 go_wp2
 go_loopg [6, 13] l0.length (fun gk v6 v13 w' => ∃ (i : Nat) (acc : List S36), i ≤ l0.length ∧ l0.length - i ≤ gk ∧ v13 = .int .i64 i ∧ Aside0 (Kd.R k36 36 w' w.heap.size (fun _ => True) v6 acc) ∧ Aside0 (Below w.heap.size w w') ∧ Aside0 (madeCx.go one (l0.drop i) i acc = some (r1, r2)))
 case atStart => exact ⟨0, [], Nat.zero_le _, Nat.le_refl _, rfl, ⟨Kd.R_nil _ _ _ _ _⟩, HB, HH⟩
 case round =>
  clear HB HH
  obtain ⟨i, acc, hi, hg, rfl, HO, HB, HN⟩ := hrel
  have HI := Aside0.mk hi
  have HG := Aside0.mk hg
  clear hi hg
  by_cases c : i < l0.length
  ·have hdec : decide ((i : Int) < (l0.length : Int)) = true := decide_eq_true (by omega)
   have p1 : 0 ≤ (i : Int) := by omega
   have q1 : (i : Int) < (l0.length : Int) := by omega
   obtain ⟨ad, e1, hx0, hx1, hx2⟩ := at_T36 HR0.out i p1 q1
   cases e1
   replace hx0 := (HB.out.cell (World.block_lt_of_cell? w _ hx0)).trans hx0
   replace hx1 := (HB.out.cell (World.block_lt_of_cell? w _ hx1)).trans hx1
   replace hx2 := (HB.out.cell (World.block_lt_of_cell? w _ hx2)).trans hx2
   simp only [Int.toNat_natCast] at hx0 hx1 hx2
   have hd : l0.drop i = rd_T36 l0 (i : Int) :: l0.drop (i + 1) := by
    rw [List.drop_eq_getElem_cons c]
    congr 1
    show _ = l0.getD (i : Int).toNat _
    rw [Int.toNat_natCast, List.getD_eq_getElem?_getD, List.getElem?_eq_getElem c]; rfl
   have hn := HN.out
   rw [hd, madeCx.go] at hn
   obtain ⟨⟨y, e⟩, hb, hn⟩ := Option.bind_eq_some_iff.mp hn
   dsimp only at hn
   have hb1 : Below w.heap.size w (wr.alloc (.cells #[.int .i64 (rd_T36 l0 (i : Int)).f0, .int .i64 (rd_T36 l0 (i : Int)).f1, .int .i64 (rd_T36 l0 (i : Int)).f2] 36)) := HB.out.alloc HB.out.size _
   have hcall := HP.out (wr.alloc (.cells #[.int .i64 (rd_T36 l0 (i : Int)).f0, .int .i64 (rd_T36 l0 (i : Int)).f1, .int .i64 (rd_T36 l0 (i : Int)).f2] 36)) i (rd_T36 l0 i) y e hb hb1
   have HCALL := Aside0.mk hcall
   have HB1 := Aside0.mk hb1
   have HO1 := Aside0.mk (Kd.R_alloc HO.out (.cells #[.int .i64 (rd_T36 l0 (i : Int)).f0, .int .i64 (rd_T36 l0 (i : Int)).f1, .int .i64 (rd_T36 l0 (i : Int)).f2] 36))
   have HNN := Aside0.mk hn
   clear hd hn hb hb1 hcall HN HO HB
   replace p1 := eq_true p1
   have q1i : (i < l0.length) = True := eq_true c
   replace q1 := eq_true q1
   have HC := Aside0.mk c
   clear c
   generalize rd_T36 l0 (i : Int) = x at *
   by_cases ce : e = 0
   ·have HE := Aside0.mk ce
    have f1 : (e != 0) = false := bne_eq_false_iff_eq.mpr ce
    have hn := HNN.out
    rw [if_pos ce] at hn
    by_cases cl : acc.length < 5864062014805
    ·rw [if_pos cl] at hn
     have HN2 := Aside0.mk hn
     have HCL := Aside0.mk cl
     clear hn cl ce HNN
     go_wp2_with (fail)
     refine HCALL.out.mono ?_
     rintro e' w2 ⟨rfl, hb'⟩
     have HB2 := Aside0.mk (below_step HB1.out hb')
     have HO2 := Aside0.mk (Kd.R_below HO1.out hb')
     clear hb' HB1 HO1 HCALL
     have HB3 := Aside0.mk (HB2.out.alloc HB2.out.size (.cells #[.int .i64 y.f0, .int .i64 y.f1, .int .i64 y.f2] 36))
     have HO3 := Aside0.mk (Kd.R_alloc HO2.out (.cells #[.int .i64 y.f0, .int .i64 y.f1, .int .i64 y.f2] 36))
     clear HB2 HO2
     go_wp2_with ((with_reducible refine gate_builtin (b := .append) (xs := #[.tmp 27, .tmp 29]) rfl ?_); at_builtin; refine Kd.R_append k36 (w0 := w) w.heap.size rfl (.tmp 27) (.tmp 29) 22 36 (.agg #[.int .i64 0, .int .i64 0, .int .i64 0]) 24 rfl Try.underlying22 madeCx.info rfl (by decide) (by omega) u6 acc y [.int .i64 y.f0, .int .i64 y.f1, .int .i64 y.f2] (fun _ => True) (fun _ => False) rfl ?aX ?aP (fun _ hk => hk.elim) ?aF ?aO ?aB ?aS ?aL ?_; (case aX => first | rfl | (simp [Act.eval]; done) | (go_simp; done)); (case aP => exact madeCx.cells _ _ y); (case aB => exact HB3.out); (case aF => exact fun _ _ => trivial); (case aO => exact HO3.out); (case aS => exact below_size HB3.out); (case aL => have := HCL.out; omega); intro v9 w9 ho hb hg hat; have HO4 := Aside0.mk ho; have HB4 := Aside0.mk hb; clear ho hb hg hat)
     go_roundg (l0.length - (i + 1))
     case measure => have := HC.out; have := HG.out; omega
     case rel =>
      have hc := HC.out
      have hm := HM.out
      refine ⟨i + 1, acc ++ [y], by omega, by have := HG.out; omega, ?_, HO4, HB4, HN2⟩
      have e : wrap64 ((i : Int) + 1) = ((i + 1 : Nat) : Int) := by unfold wrap64; omega
      first | rfl | (rw [← e]; rfl) | (simp [← e]; done) | (simp; omega)
    ·rw [if_neg cl] at hn; exact absurd hn (by simp)
   ·have f1 : (e != 0) = true := bne_iff_ne.mpr ce
    have hn := HNN.out
    rw [if_neg ce] at hn
    simp only [Option.some.injEq, Prod.mk.injEq] at hn
    obtain ⟨rfl, rfl⟩ := hn
    clear HNN
    go_wp2_with (fail)
    refine HCALL.out.mono ?_
    rintro e' w2 ⟨rfl, hb'⟩
    have HB2 := Aside0.mk (below_step HB1.out hb')
    clear hb' HB1 HO1 HCALL
    go_wp2_with (fail)
    go_ret2
    exact ⟨_, rfl, Kd.R_nil _ _ _ _ _, HB2.out.alloc HB2.out.size _⟩
  ·have hdec : decide ((i : Int) < (l0.length : Int)) = false := decide_eq_false (by omega)
   have hdec2 : decide (i < l0.length) = false := decide_eq_false c
   have e := HN.out
   rw [List.drop_eq_nil_of_le (by omega), madeCx.go] at e
   simp only [Option.some.injEq, Prod.mk.injEq] at e
   obtain ⟨rfl, rfl⟩ := e
   clear c HN
   go_wp2
   go_ret2
   exact ⟨_, rfl, HO.out, HB.out⟩
theorem madeCx.go_mono {p q : Nat → S36 → Option (S36 × Int)} (h : ∀ i x, LeO (p i x) (q i x)) : ∀ (l : List S36) (i : Nat) (acc : List S36), LeO (madeCx.go p l i acc) (madeCx.go q l i acc)
 | [], _, _ => LeO.refl _
 | x :: t, i, acc => by
  unfold madeCx.go
  exact LeO.bind (h i x) (fun r => LeO.ite (LeO.ite (madeCx.go_mono h t (i + 1) _) (LeO.refl _)) (LeO.refl _))

/-! ### gain_Alike_1: function 45 (by hand) -/

set_option maxHeartbeats 8000000 in
set_option maxRecDepth 100000 in
theorem gain_Alike_1 (k i B c1 : Nat) (x y z : S36) (e : Int) (A1 : Option Addr) (l1 : List S36) (W : World) (hB : W.heap[B]? = some (.cells #[.slice A1 l1.length c1] 22 (0, 0))) (hr : Kd.C k36 W A1 l1.length l1) (hi : 0 < l1.length) (hz : rd_T36 l1 0 = z)
  (h : cx_Mul.f k x.f0 x.f1 x.f2 z.f0 z.f1 z.f2 = some (y.f0, y.f1, y.f2, e)) :
  Calls Try.prog 45 #[.int .i64 i, .agg #[.int .i64 x.f0, .int .i64 x.f1, .int .i64 x.f2], .pointer (some ⟨B, 0, none⟩)] W fun e' w' => e' = .returned (.tuple #[.agg #[.int .i64 y.f0, .int .i64 y.f1, .int .i64 y.f2], .int .i64 e]) ∧ Below W.heap.size W w' := by
 have hu := Try.underlying36
 have H := Aside0.mk h
 have hb1 : Below W.heap.size W (W.alloc (.cells #[.int .i64 x.f0, .int .i64 x.f1, .int .i64 x.f2] 36)) := (Below.refl _ W).alloc (Nat.le_refl _) _
 have hb2 := hb1.alloc hb1.size (.cells #[.int .i64 0, .int .i64 0, .int .i64 0] 36)
 have hk1 := blk_alloc (blk_new W (.cells #[.int .i64 x.f0, .int .i64 x.f1, .int .i64 x.f2] 36)) (.cells #[.int .i64 0, .int .i64 0, .int .i64 0] 36)
 have hk2 := blk_new (W.alloc (.cells #[.int .i64 x.f0, .int .i64 x.f1, .int .i64 x.f2] 36)) (.cells #[.int .i64 0, .int .i64 0, .int .i64 0] 36)
 have hsz : (W.alloc (.cells #[.int .i64 x.f0, .int .i64 x.f1, .int .i64 x.f2] 36)).heap.size = W.heap.size + 1 := by simp
 rw [hsz] at hk2
 have hkB := blk_below hB hb2
 have p1 : (0 : Int) ≤ 0 := by omega
 have q1 : (0 : Int) < (l1.length : Int) := by omega
 obtain ⟨ad, e1, hx0, hx1, hx2⟩ := at_T36 hr 0 p1 q1
 subst e1
 replace hx0 := (hb2.cell (World.block_lt_of_cell? W _ hx0)).trans hx0
 replace hx1 := (hb2.cell (World.block_lt_of_cell? W _ hx1)).trans hx1
 replace hx2 := (hb2.cell (World.block_lt_of_cell? W _ hx2)).trans hx2
 rw [show (0 : Int).toNat * 3 = 0 from rfl, Addr.add_zero'] at hx0 hx1 hx2
 rw [hz] at hx0 hx1 hx2
 have hBlt := blk_lt hB
 clear hB hr h hz hb1 hsz
 go_enter Try.func45, Try.ntmps45
 go_wp2_with (fail)
 generalize (W.alloc (.cells #[.int .i64 x.f0, .int .i64 x.f1, .int .i64 x.f2] 36)).alloc (.cells #[.int .i64 0, .int .i64 0, .int .i64 0] 36) = W2 at *
 have HB2 := Aside0.mk hb2
 have HK2 := Aside0.mk hk2
 have d0 := (blk_cell hk1 0).trans rfl
 have d1 := (blk_cell hk1 1).trans rfl
 have d2 := (blk_cell hk1 2).trans rfl
 have dB := (blk_cell hkB 0).trans rfl
 have q1i : (0 < l1.length) = True := eq_true hi
 have q1b : decide ((0 : Int) < (l1.length : Int)) = true := decide_eq_true q1
 have q1c : decide (0 < l1.length) = true := decide_eq_true hi
 replace p1 := eq_true p1
 replace q1 := eq_true q1
 clear hb2 hk1 hk2 hkB hi
 go_region_with (go_at_call 34; (with_reducible refine (cx_Mul.calls k _ _ _ _ _ _ _ _ _ _ _ H.out).mono ?_); rintro e' w3 ⟨rfl, hb⟩; have HB3 := Aside0.mk (below_step (below_drew1 HB2.out) hb); have hk := blk_below (blk_drew HK2.out) hb; have HK3 := Aside0.mk hk; have f0 := (blk_cell hk 0).trans rfl; have f1 := (blk_cell hk 1).trans rfl; have f2 := (blk_cell hk 2).trans rfl; have y0 := blk_frozen hk 0; have y1 := blk_frozen hk 1; have y2 := blk_frozen hk 2; clear hb hk)
 all_goals
  go_wp2_with (fail)
  refine bodyPost_ret (results_ct rfl _ _ (W.heap.size + 1) 36 _ (0, 0) _ rfl (blk_put (blk_put (blk_put HK3.out 0 _ rfl) 1 _ rfl) 2 _ rfl) Try.underlying36 rfl (by kernel_rfl)) rfl ?_
  exact ⟨rfl, below_set (below_set (below_set HB3.out (by omega)) (by omega)) (by omega)⟩

/-! ### gain_Alike_2: function 46 (by hand) -/

set_option maxHeartbeats 8000000 in
set_option maxRecDepth 100000 in
theorem gain_Alike_2 (k i B c1 : Nat) (x y z : S36) (e : Int) (A1 : Option Addr) (l1 : List S36) (W : World) (hB : W.heap[B]? = some (.cells #[.slice A1 l1.length c1] 22 (0, 0))) (hr : Kd.C k36 W A1 l1.length l1) (hi : 0 < l1.length) (hz : rd_T36 l1 0 = z)
  (h : cx_Mul.f k z.f0 z.f1 z.f2 x.f0 x.f1 x.f2 = some (y.f0, y.f1, y.f2, e)) :
  Calls Try.prog 46 #[.int .i64 i, .agg #[.int .i64 x.f0, .int .i64 x.f1, .int .i64 x.f2], .pointer (some ⟨B, 0, none⟩)] W fun e' w' => e' = .returned (.tuple #[.agg #[.int .i64 y.f0, .int .i64 y.f1, .int .i64 y.f2], .int .i64 e]) ∧ Below W.heap.size W w' := by
 have hu := Try.underlying36
 have H := Aside0.mk h
 have hb1 : Below W.heap.size W (W.alloc (.cells #[.int .i64 x.f0, .int .i64 x.f1, .int .i64 x.f2] 36)) := (Below.refl _ W).alloc (Nat.le_refl _) _
 have hb2 := hb1.alloc hb1.size (.cells #[.int .i64 0, .int .i64 0, .int .i64 0] 36)
 have hk1 := blk_alloc (blk_new W (.cells #[.int .i64 x.f0, .int .i64 x.f1, .int .i64 x.f2] 36)) (.cells #[.int .i64 0, .int .i64 0, .int .i64 0] 36)
 have hk2 := blk_new (W.alloc (.cells #[.int .i64 x.f0, .int .i64 x.f1, .int .i64 x.f2] 36)) (.cells #[.int .i64 0, .int .i64 0, .int .i64 0] 36)
 have hsz : (W.alloc (.cells #[.int .i64 x.f0, .int .i64 x.f1, .int .i64 x.f2] 36)).heap.size = W.heap.size + 1 := by simp
 rw [hsz] at hk2
 have hkB := blk_below hB hb2
 have p1 : (0 : Int) ≤ 0 := by omega
 have q1 : (0 : Int) < (l1.length : Int) := by omega
 obtain ⟨ad, e1, hx0, hx1, hx2⟩ := at_T36 hr 0 p1 q1
 subst e1
 replace hx0 := (hb2.cell (World.block_lt_of_cell? W _ hx0)).trans hx0
 replace hx1 := (hb2.cell (World.block_lt_of_cell? W _ hx1)).trans hx1
 replace hx2 := (hb2.cell (World.block_lt_of_cell? W _ hx2)).trans hx2
 rw [show (0 : Int).toNat * 3 = 0 from rfl, Addr.add_zero'] at hx0 hx1 hx2
 rw [hz] at hx0 hx1 hx2
 have hBlt := blk_lt hB
 clear hB hr h hz hb1 hsz
 go_enter Try.func46, Try.ntmps46
 go_wp2_with (fail)
 generalize (W.alloc (.cells #[.int .i64 x.f0, .int .i64 x.f1, .int .i64 x.f2] 36)).alloc (.cells #[.int .i64 0, .int .i64 0, .int .i64 0] 36) = W2 at *
 have HB2 := Aside0.mk hb2
 have HK2 := Aside0.mk hk2
 have d0 := (blk_cell hk1 0).trans rfl
 have d1 := (blk_cell hk1 1).trans rfl
 have d2 := (blk_cell hk1 2).trans rfl
 have dB := (blk_cell hkB 0).trans rfl
 have q1i : (0 < l1.length) = True := eq_true hi
 have q1b : decide ((0 : Int) < (l1.length : Int)) = true := decide_eq_true q1
 have q1c : decide (0 < l1.length) = true := decide_eq_true hi
 replace p1 := eq_true p1
 replace q1 := eq_true q1
 clear hb2 hk1 hk2 hkB hi
 go_region_with (go_at_call 34; (with_reducible refine (cx_Mul.calls k _ _ _ _ _ _ _ _ _ _ _ H.out).mono ?_); rintro e' w3 ⟨rfl, hb⟩; have HB3 := Aside0.mk (below_step (below_drew1 HB2.out) hb); have hk := blk_below (blk_drew HK2.out) hb; have HK3 := Aside0.mk hk; have f0 := (blk_cell hk 0).trans rfl; have f1 := (blk_cell hk 1).trans rfl; have f2 := (blk_cell hk 2).trans rfl; have y0 := blk_frozen hk 0; have y1 := blk_frozen hk 1; have y2 := blk_frozen hk 2; clear hb hk)
 all_goals
  go_wp2_with (fail)
  refine bodyPost_ret (results_ct rfl _ _ (W.heap.size + 1) 36 _ (0, 0) _ rfl (blk_put (blk_put (blk_put HK3.out 0 _ rfl) 1 _ rfl) 2 _ rfl) Try.underlying36 rfl (by kernel_rfl)) rfl ?_
  exact ⟨rfl, below_set (below_set (below_set HB3.out (by omega)) (by omega)) (by omega)⟩

/-! ### slices_Equal__api_Cx_api_Cx: function 48 -/
def slices_Equal__api_Cx_api_Cx.l0 : Nat → List (S36) → List (S36) → Int → Int → Option (Bool)
 | 0, _, _, _, _ => none
 | k + 1, x0, x1, x12, x13 => if x13 < x12 then (if 0 ≤ x13 then (if x13 < (x0.length : Int) then (if x13 < (x1.length : Int) then (if (!(((rd_T36 x0 x13).f0) == ((rd_T36 x1 x13).f0)) || (!(((rd_T36 x0 x13).f1) == ((rd_T36 x1 x13).f1)) || (!(((rd_T36 x0 x13).f2) == ((rd_T36 x1 x13).f2))))) = true then (some false) else (slices_Equal__api_Cx_api_Cx.l0 k x0 x1 x12 (wrap64 (x13 + 1)))) else (none)) else (none)) else (none)) else (some true)
def slices_Equal__api_Cx_api_Cx.f (k : Nat) (l0 : List (S36)) (l1 : List (S36)) : Option (Bool) := if (l0.length : Int) = (l1.length : Int) then (slices_Equal__api_Cx_api_Cx.l0 k l0 l1 (l0.length : Int) 0) else (some false)
theorem slices_Equal__api_Cx_api_Cx.mono_l : ∀ k, (∀ y0 y1 y2 y3, LeO (slices_Equal__api_Cx_api_Cx.l0 k y0 y1 y2 y3) (slices_Equal__api_Cx_api_Cx.l0 (k + 1) y0 y1 y2 y3))
 | 0 => fun _ _ _ _ r h => by simp [slices_Equal__api_Cx_api_Cx.l0] at h
 | k + 1 => by
  have ih0 := slices_Equal__api_Cx_api_Cx.mono_l k
  ·intro y0 y1 y2 y3
   unfold slices_Equal__api_Cx_api_Cx.l0
   repeat' first
   | (with_reducible exact ih0 _ _ _ _)
   | (with_reducible exact LeO.refl _)
   | (with_reducible exact LeO.none _)
   | (with_reducible refine LeO.ite ?_ ?_)
   | (with_reducible refine LeO.bind ?_ (fun _ => ?_))
   | exact ih0 _ _ _ _
   | exact LeO.none _
   | refine LeO.ite ?_ ?_
   | refine LeO.bind ?_ (fun _ => ?_)
theorem slices_Equal__api_Cx_api_Cx.mono : ∀ a0 a1 k, LeO (slices_Equal__api_Cx_api_Cx.f k a0 a1) (slices_Equal__api_Cx_api_Cx.f (k + 1) a0 a1) := by
 intro a0 a1 k
 have ih0 := slices_Equal__api_Cx_api_Cx.mono_l k
 unfold slices_Equal__api_Cx_api_Cx.f
 repeat' first
   | (with_reducible exact ih0 _ _ _ _)
   | (with_reducible exact LeO.refl _)
   | (with_reducible exact LeO.none _)
   | (with_reducible refine LeO.ite ?_ ?_)
   | (with_reducible refine LeO.bind ?_ (fun _ => ?_))
   | exact ih0 _ _ _ _
   | exact LeO.none _
   | refine LeO.ite ?_ ?_
   | refine LeO.bind ?_ (fun _ => ?_)
set_option maxHeartbeats 8000000 in
set_option maxRecDepth 100000 in
theorem slices_Equal__api_Cx_api_Cx.calls (k : Nat) (A0 : Option Addr) (c0 : Nat) (l0 : List (S36)) (A1 : Option Addr) (c1 : Nat) (l1 : List (S36)) (r : Bool) (w : World) (hr0 : Kd.C k36 w A0 l0.length l0) (hc0 : l0.length ≤ c0) (hr1 : Kd.C k36 w A1 l1.length l1) (hc1 : l1.length ≤ c1) (h : slices_Equal__api_Cx_api_Cx.f k l0 l1 = some r) :
  Calls Try.prog 48 #[.slice A0 l0.length c0, .slice A1 l1.length c1] w fun e w' => e = .returned (.bool r) ∧ Drawn0 w w' := by
 have hu36 := Try.underlying36
 have HR0 := Aside0.mk hr0
 have HC0 := Aside0.mk hc0
 clear hr0 hc0
 have HR1 := Aside0.mk hr1
 have HC1 := Aside0.mk hc1
 clear hr1 hc1
 have H : (if (l0.length : Int) = (l1.length : Int) then (slices_Equal__api_Cx_api_Cx.l0 k l0 l1 (l0.length : Int) 0) else (some false)) = some r := h
 clear h
 by_cases c3 : (l0.length : Int) = (l1.length : Int)
 ·rw [if_pos c3] at H
  have c3b0 : ((l0.length : Int) == (l1.length : Int)) = true := beq_iff_eq.mpr c3
  have c3b1 : ((l0.length : Int) != (l1.length : Int)) = false := bne_eq_false_iff_eq.mpr c3
  have c3b2 : (l0.length == l1.length) = true := by first | simpa using c3 | (simp at c3 ⊢; omega)
  clear c3
  have H' := Aside0.mk H
  clear H
  go_enter Try.func48, Try.ntmps48
  go_wp2
  repeat (go_quiet (fail); try go_wp2)
  go_loopg [13] k (fun kq v13 w' => ∃ (x13_1 : Int), v13 = .int .i64 x13_1 ∧ Aside0 (slices_Equal__api_Cx_api_Cx.l0 kq l0 l1 (l0.length : Int) x13_1 = some r) ∧ Aside0 (kq ≤ k) ∧ Drawn0 w w')
  case atStart => exact ⟨(0), (by first | rfl | (simp; done) | (simp [*]; done)), H', ⟨Nat.le_refl _⟩, by repeat (first | exact Drawn0.refl _ | apply Drawn0.step)⟩
  case round =>
   clear H'
   try clear c1
   try clear p2
   try clear c3
   try clear c3b0
   try clear c3b1
   try clear c3b2
   obtain ⟨x13_1, rfl, HA, HK1, ⟨m1, rfl⟩⟩ := hrel
   cases gk with
   | zero => exact absurd HA.out (by simp [slices_Equal__api_Cx_api_Cx.l0])
   | succ k1 =>
    have H := HA.out
    clear HA
    simp only [slices_Equal__api_Cx_api_Cx.l0] at H
    by_cases c4 : x13_1 < (l0.length : Int)
    ·rw [if_pos c4] at H
     have c4b0 : decide (x13_1 < (l0.length : Int)) = true := decide_eq_true c4
     clear c4
     by_cases c5 : 0 ≤ x13_1
     ·rw [if_pos c5] at H
      have c5b0 : decide (0 ≤ x13_1) = true := decide_eq_true c5
      clear c5
      by_cases c6 : x13_1 < (l0.length : Int)
      ·rw [if_pos c6] at H
       have c6b0 : decide (x13_1 < (l0.length : Int)) = true := decide_eq_true c6
       clear c6
       by_cases c7 : x13_1 < (l1.length : Int)
       ·rw [if_pos c7] at H
        have c7b0 : decide (x13_1 < (l1.length : Int)) = true := decide_eq_true c7
        clear c7
        by_cases c8 : (!(((rd_T36 l0 x13_1).f0) == ((rd_T36 l1 x13_1).f0)) || (!(((rd_T36 l0 x13_1).f1) == ((rd_T36 l1 x13_1).f1)) || (!(((rd_T36 l0 x13_1).f2) == ((rd_T36 l1 x13_1).f2))))) = true
        ·rw [if_pos c8] at H
         have c8b0 : (!(((rd_T36 l0 x13_1).f0) == ((rd_T36 l1 x13_1).f0)) || (!(((rd_T36 l0 x13_1).f1) == ((rd_T36 l1 x13_1).f1)) || (!(((rd_T36 l0 x13_1).f2) == ((rd_T36 l1 x13_1).f2))))) = true := c8
         clear c8
         obtain rfl := Option.some.inj H
         have p228 : 0 ≤ (x13_1 : Int) := of_decide_eq_true (by first | (with_reducible assumption) | assumption)
         have q228 : x13_1 < (l0.length : Int) := of_decide_eq_true (by first | (with_reducible assumption) | assumption)
         obtain ⟨ad228, e228, hx228_0, hx228_1, hx228_2⟩ := at_T36 HR0.out x13_1 p228 q228
         cases e228
         replace p228 := eq_true p228
         replace q228 := eq_true q228
         have p229 : 0 ≤ (x13_1 : Int) := of_decide_eq_true (by first | (with_reducible assumption) | assumption)
         have q229 : x13_1 < (l1.length : Int) := of_decide_eq_true (by first | (with_reducible assumption) | assumption)
         obtain ⟨ad229, e229, hx229_0, hx229_1, hx229_2⟩ := at_T36 HR1.out x13_1 p229 q229
         cases e229
         replace p229 := eq_true p229
         replace q229 := eq_true q229
         go_wp2
         repeat (go_quiet (fail); try go_wp2)
         go_ret
         exact ⟨by first | rfl | (simp; done) | (simp [*]; done), by repeat (first | exact Drawn0.refl _ | apply Drawn0.step)⟩
        ·rw [if_neg c8] at H
         have c8b0 : (!(((rd_T36 l0 x13_1).f0) == ((rd_T36 l1 x13_1).f0)) || (!(((rd_T36 l0 x13_1).f1) == ((rd_T36 l1 x13_1).f1)) || (!(((rd_T36 l0 x13_1).f2) == ((rd_T36 l1 x13_1).f2))))) = false := by simpa using c8
         clear c8
         have H' := Aside0.mk H
         clear H
         have p228 : 0 ≤ (x13_1 : Int) := of_decide_eq_true (by first | (with_reducible assumption) | assumption)
         have q228 : x13_1 < (l0.length : Int) := of_decide_eq_true (by first | (with_reducible assumption) | assumption)
         obtain ⟨ad228, e228, hx228_0, hx228_1, hx228_2⟩ := at_T36 HR0.out x13_1 p228 q228
         cases e228
         replace p228 := eq_true p228
         replace q228 := eq_true q228
         have p229 : 0 ≤ (x13_1 : Int) := of_decide_eq_true (by first | (with_reducible assumption) | assumption)
         have q229 : x13_1 < (l1.length : Int) := of_decide_eq_true (by first | (with_reducible assumption) | assumption)
         obtain ⟨ad229, e229, hx229_0, hx229_1, hx229_2⟩ := at_T36 HR1.out x13_1 p229 q229
         cases e229
         replace p229 := eq_true p229
         replace q229 := eq_true q229
         go_wp2
         repeat (go_quiet (fail); try go_wp2)
         go_roundg k1
         case measure => have := HK1.out; omega
         case rel => exact ⟨(wrap64 (x13_1 + 1)), (by first | rfl | (simp; done) | (simp [*]; done)), H', ⟨by have := HK1.out; omega⟩, by repeat (first | exact Drawn0.refl _ | apply Drawn0.step)⟩
       ·rw [if_neg c7] at H
        exact absurd H (by simp)
      ·rw [if_neg c6] at H
       exact absurd H (by simp)
     ·rw [if_neg c5] at H
      exact absurd H (by simp)
    ·rw [if_neg c4] at H
     have c4b0 : decide (x13_1 < (l0.length : Int)) = false := decide_eq_false c4
     clear c4
     obtain rfl := Option.some.inj H
     go_wp2
     repeat (go_quiet (fail); try go_wp2)
     go_ret
     exact ⟨by first | rfl | (simp; done) | (simp [*]; done), by repeat (first | exact Drawn0.refl _ | apply Drawn0.step)⟩
 ·rw [if_neg c3] at H
  have c3b0 : ((l0.length : Int) == (l1.length : Int)) = false := beq_eq_false_iff_ne.mpr c3
  have c3b1 : ((l0.length : Int) != (l1.length : Int)) = true := bne_iff_ne.mpr c3
  have c3b2 : (l0.length == l1.length) = false := by first | simpa using c3 | (simp at c3 ⊢; omega)
  obtain rfl := Option.some.inj H
  go_enter Try.func48, Try.ntmps48
  go_wp2
  repeat (go_quiet (fail); try go_wp2)
  go_ret
  exact ⟨by first | rfl | (simp; done) | (simp [*]; done), by repeat (first | exact Drawn0.refl _ | apply Drawn0.step)⟩

/-! ### gain_Alike: function 20 (by hand) -/
def alike_1 (k : Nat) (l1 : List S36) (x : S36) : Option (S36 × Int) := if 0 < l1.length then (cx_Mul.f k x.f0 x.f1 x.f2 (rd_T36 l1 0).f0 (rd_T36 l1 0).f1 (rd_T36 l1 0).f2).bind fun r => some (⟨r.1, r.2.1, r.2.2.1⟩, r.2.2.2) else none
theorem alike_1.mono (k : Nat) (l : List S36) (x : S36) : LeO (alike_1 k l x) (alike_1 (k + 1) l x) := by
 unfold alike_1
 exact LeO.ite (LeO.bind (cx_Mul.mono _ _ _ _ _ _ _) (fun _ => LeO.refl _)) (LeO.refl _)
theorem alike_1.of {k : Nat} {l1 : List S36} {x y : S36} {e : Int} (h : alike_1 k l1 x = some (y, e)) : 0 < l1.length ∧ cx_Mul.f k x.f0 x.f1 x.f2 (rd_T36 l1 0).f0 (rd_T36 l1 0).f1 (rd_T36 l1 0).f2 = some (y.f0, y.f1, y.f2, e) := by
 unfold alike_1 at h
 by_cases c : 0 < l1.length
 ·rw [if_pos c] at h
  obtain ⟨r, hr, h⟩ := Option.bind_eq_some_iff.mp h
  simp only [Option.some.injEq, Prod.mk.injEq] at h
  obtain ⟨rfl, rfl⟩ := h
  exact ⟨c, hr⟩
 ·rw [if_neg c] at h; cases h
def alike_2 (k : Nat) (l1 : List S36) (x : S36) : Option (S36 × Int) := if 0 < l1.length then (cx_Mul.f k (rd_T36 l1 0).f0 (rd_T36 l1 0).f1 (rd_T36 l1 0).f2 x.f0 x.f1 x.f2).bind fun r => some (⟨r.1, r.2.1, r.2.2.1⟩, r.2.2.2) else none
theorem alike_2.mono (k : Nat) (l : List S36) (x : S36) : LeO (alike_2 k l x) (alike_2 (k + 1) l x) := by
 unfold alike_2
 exact LeO.ite (LeO.bind (cx_Mul.mono _ _ _ _ _ _ _) (fun _ => LeO.refl _)) (LeO.refl _)
theorem alike_2.of {k : Nat} {l1 : List S36} {x y : S36} {e : Int} (h : alike_2 k l1 x = some (y, e)) : 0 < l1.length ∧ cx_Mul.f k (rd_T36 l1 0).f0 (rd_T36 l1 0).f1 (rd_T36 l1 0).f2 x.f0 x.f1 x.f2 = some (y.f0, y.f1, y.f2, e) := by
 unfold alike_2 at h
 by_cases c : 0 < l1.length
 ·rw [if_pos c] at h
  obtain ⟨r, hr, h⟩ := Option.bind_eq_some_iff.mp h
  simp only [Option.some.injEq, Prod.mk.injEq] at h
  obtain ⟨rfl, rfl⟩ := h
  exact ⟨c, hr⟩
 ·rw [if_neg c] at h; cases h
def alike_all (k : Nat) (l0 l1 : List S36) : Option (Bool × Int) := (cx_Norm.f k (rd_T36 l0 0).f0 (rd_T36 l0 0).f1 (rd_T36 l0 0).f2).bind fun m => (cx_Norm.f k (rd_T36 l1 0).f0 (rd_T36 l1 0).f1 (rd_T36 l1 0).f2).bind fun n => (madeCx.go (fun _ x => alike_1 k l1 x) l0 0 []).bind fun p => (madeCx.go (fun _ x => alike_2 k l0 x) l1 0 []).bind fun q => (cmp_Or__api_Errno.f k [m.2.2, n.2.2, p.2, q.2]).bind fun e => if e = 0 then (if m.1 = n.1 ∧ m.2.1 = n.2.1 then (slices_Equal__api_Cx_api_Cx.f k p.1 q.1).bind fun b => some (b, 0) else some (false, 0)) else some (false, e)
def gain_Alike.f (k : Nat) (l0 l1 : List S36) : Option (Bool × Int) := (gain_both.f k l0 l1).bind fun e => if e = 0 then (if 0 < l0.length ∧ l0.length < 9223372036854775807 ∧ 0 < l1.length ∧ l1.length < 9223372036854775807 then alike_all k l0 l1 else none) else some (false, e)
theorem gain_Alike.mono : ∀ l0 l1 k, LeO (gain_Alike.f k l0 l1) (gain_Alike.f (k + 1) l0 l1) := by
 intro l0 l1 k
 unfold gain_Alike.f alike_all
 exact LeO.bind (gain_both.mono _ _ _) (fun e => LeO.ite (LeO.ite (LeO.bind (cx_Norm.mono _ _ _ _) (fun _ => LeO.bind (cx_Norm.mono _ _ _ _) (fun _ => LeO.bind (madeCx.go_mono (fun i x => alike_1.mono _ _ _) _ _ _) (fun _ => LeO.bind (madeCx.go_mono (fun i x => alike_2.mono _ _ _) _ _ _) (fun _ => LeO.bind (cmp_Or__api_Errno.mono _ _) (fun _ => LeO.ite (LeO.ite (LeO.bind (slices_Equal__api_Cx_api_Cx.mono _ _ _) (fun _ => LeO.refl _)) (LeO.refl _)) (LeO.refl _))))))) (LeO.refl _)) (LeO.refl _))
set_option maxHeartbeats 8000000 in
set_option maxRecDepth 100000 in
theorem gain_Alike.calls (k : Nat) (A0 : Option Addr) (c0 : Nat) (l0 : List (S36)) (A1 : Option Addr) (c1 : Nat) (l1 : List (S36)) (r1 : Bool) (r2 : Int) (w : World) (hr0 : Kd.C k36 w A0 l0.length l0) (hc0 : l0.length ≤ c0) (hr1 : Kd.C k36 w A1 l1.length l1) (hc1 : l1.length ≤ c1) (h : gain_Alike.f k l0 l1 = some (r1, r2)) :
  Calls Try.prog 20 #[.slice A0 l0.length c0, .slice A1 l1.length c1] w fun e w' => e = .returned (.tuple #[.bool r1, .int .i64 r2]) ∧ Below w.heap.size w w' := by
 unfold gain_Alike.f at h
 obtain ⟨e, he, h⟩ := Option.bind_eq_some_iff.mp h
 have hb1 : Below w.heap.size w ((w.alloc (.cells #[.slice A0 l0.length c0] 22)).alloc (.cells #[.slice A1 l1.length c1] 22)) := ((Below.refl _ w).alloc (Nat.le_refl _) _).alloc ((Below.refl _ w).alloc (Nat.le_refl _) _).size _
 have hk1 := blk_alloc (blk_new w (.cells #[.slice A0 l0.length c0] 22)) (.cells #[.slice A1 l1.length c1] 22)
 have hk2 := blk_new (w.alloc (.cells #[.slice A0 l0.length c0] 22)) (.cells #[.slice A1 l1.length c1] 22)
 have hsz : (w.alloc (.cells #[.slice A0 l0.length c0] 22)).heap.size = w.heap.size + 1 := by simp
 rw [hsz] at hk2
 have HR0 := Aside0.mk hr0
 have HR1 := Aside0.mk hr1
 have HC0 := Aside0.mk hc0
 have HC1 := Aside0.mk hc1
 have HB1 := Aside0.mk hb1
 have HK1 := Aside0.mk hk1
 have HK2 := Aside0.mk hk2
 have HCH := Aside0.mk (gain_both.calls k A0 c0 l0 A1 c1 l1 e _ (Kd.C_below hr0 hb1) hc0 (Kd.C_below hr1 hb1) hc1 he)
 clear hr0 hc0 hr1 hc1 hb1 hk1 hk2 he hsz
 by_cases ce : e = 0
 ·rw [if_pos ce] at h
  have g1 : (e != 0) = false := bne_eq_false_iff_eq.mpr ce
  by_cases c2 : 0 < l0.length ∧ l0.length < 9223372036854775807 ∧ 0 < l1.length ∧ l1.length < 9223372036854775807
  ·rw [if_pos c2] at h
   obtain ⟨n0, b0, n1, b1⟩ := c2
   unfold alike_all at h
   obtain ⟨m, hm, h⟩ := Option.bind_eq_some_iff.mp h
   obtain ⟨n, hn, h⟩ := Option.bind_eq_some_iff.mp h
   obtain ⟨p, hp, h⟩ := Option.bind_eq_some_iff.mp h
   obtain ⟨q, hq, h⟩ := Option.bind_eq_some_iff.mp h
   obtain ⟨e2, he2, h⟩ := Option.bind_eq_some_iff.mp h
   obtain ⟨m0, m1, m2⟩ := m
   obtain ⟨u0, u1, u2⟩ := n
   obtain ⟨p0, p1⟩ := p
   obtain ⟨q0, q1⟩ := q
   have HH := Aside0.mk h
   have HN0 := Aside0.mk (fun W => cx_Norm.calls k _ _ _ _ _ _ W hm)
   have HN1 := Aside0.mk (fun W => cx_Norm.calls k _ _ _ _ _ _ W hn)
   have HP := Aside0.mk hp
   have HQ := Aside0.mk hq
   obtain ⟨yy, hyy⟩ : ∃ y_ : List Int, y_ = [m2, u2, p1, q1] := ⟨_, rfl⟩
   have NY := Aside0.mk hyy
   rw [← hyy] at he2
   have HE2 := Aside0.mk he2
   have s0 : (0 : Int) ≤ 0 := by omega
   have i0 : (0 : Int) < (l0.length : Int) := by omega
   have i1 : (0 : Int) < (l1.length : Int) := by omega
   obtain ⟨a0, ea0, x0, x1, x2⟩ := at_T36 HR0.out 0 s0 i0
   obtain ⟨a1, ea1, y0, y1, y2⟩ := at_T36 HR1.out 0 s0 i1
   rw [show (0 : Int).toNat * 3 = 0 from rfl, Addr.add_zero'] at x0 x1 x2 y0 y1 y2
   subst ea0
   subst ea1
   have BA0 := World.block_lt_of_cell? w _ x0
   have BA1 := World.block_lt_of_cell? w _ y0
   have X := Aside0.mk (And.intro x0 (And.intro x1 x2))
   have Y := Aside0.mk (And.intro y0 (And.intro y1 y2))
   have j0 := eq_true n0
   have j1 := eq_true n1
   have j2 := eq_true i0
   have j3 := eq_true i1
   have j4 : decide (0 < l0.length) = true := decide_eq_true n0
   have j5 : decide (0 < l1.length) = true := decide_eq_true n1
   have HL := Aside0.mk (And.intro b0 b1)
   clear h hm hn hp hq he2 hyy x0 x1 x2 y0 y1 y2 s0 i0 i1 n0 n1 b0 b1 ce BA0 BA1
   by_cases ce2 : e2 = 0
   ·subst ce2
    have hh := HH.out
    rw [if_pos rfl] at hh
    by_cases c0' : m0 = u0
    ·have z0 : (m0 == u0) = true := beq_iff_eq.mpr c0'
     by_cases c1' : m1 = u1
     ·have z1 : (m1 == u1) = true := beq_iff_eq.mpr c1'
      rw [if_pos ⟨c0', c1'⟩] at hh
      obtain ⟨bb, hbb, hh⟩ := Option.bind_eq_some_iff.mp hh
      simp only [Option.some.injEq, Prod.mk.injEq] at hh
      obtain ⟨rfl, rfl⟩ := hh
      have HBB := Aside0.mk hbb
      clear hbb HH c0' c1'
      go_enter Try.func20, Try.ntmps20
      go_wp2_with (first
       | (go_at_call 42; (with_reducible refine HCH.out.mono ?_); rintro e' w2 ⟨rfl, hb⟩; have HB2 := Aside0.mk (below_step HB1.out hb); have hk1 := blk_below HK1.out hb; have hk2 := blk_below HK2.out hb; have HL12 := Aside0.mk hk1; have HL22 := Aside0.mk hk2; have d1 := (blk_cell hk1 0).trans rfl; have x0 := (HB2.out.cell (World.block_lt_of_cell? w _ X.out.1)).trans X.out.1; have x1 := (HB2.out.cell (World.block_lt_of_cell? w _ X.out.2.1)).trans X.out.2.1; have x2 := (HB2.out.cell (World.block_lt_of_cell? w _ X.out.2.2)).trans X.out.2.2; have d2 := (blk_cell hk2 0).trans rfl; clear hb hk1 hk2)
       | (go_at_call 43; (with_reducible refine (HN0.out _).mono ?_); rintro e' w3 ⟨rfl, hb⟩; have hB := below_step HB2.out hb; have HB3 := Aside0.mk (hB.alloc hB.size (.cells #[.int .i64 m0, .int .i64 m1] 41)); have k1 := blk_alloc (blk_below HL12.out hb) (.cells #[.int .i64 m0, .int .i64 m1] 41); have k2 := blk_alloc (blk_below HL22.out hb) (.cells #[.int .i64 m0, .int .i64 m1] 41); have HM3 := Aside0.mk (blk_new w3 (.cells #[.int .i64 m0, .int .i64 m1] 41)); have HL13 := Aside0.mk k1; have HL23 := Aside0.mk k2; clear d1 d2 x0 x1 x2; have d2 := (blk_cell k2 0).trans rfl; have x0 := (HB3.out.cell (World.block_lt_of_cell? w _ Y.out.1)).trans Y.out.1; have x1 := (HB3.out.cell (World.block_lt_of_cell? w _ Y.out.2.1)).trans Y.out.2.1; have x2 := (HB3.out.cell (World.block_lt_of_cell? w _ Y.out.2.2)).trans Y.out.2.2; clear hb k1 k2 hB HB2 HL12 HL22)
       | (go_at_call 43; (with_reducible refine (HN1.out _).mono ?_); rintro e' w4 ⟨rfl, hb⟩; have hB := below_step HB3.out hb; have HB4 := Aside0.mk (hB.alloc hB.size (.cells #[.int .i64 u0, .int .i64 u1] 41)); have k1 := blk_alloc (blk_below HL13.out hb) (.cells #[.int .i64 u0, .int .i64 u1] 41); have k2 := blk_alloc (blk_below HL23.out hb) (.cells #[.int .i64 u0, .int .i64 u1] 41); have HM4 := Aside0.mk (blk_alloc (blk_below HM3.out hb) (.cells #[.int .i64 u0, .int .i64 u1] 41)); have HN4 := Aside0.mk (blk_new w4 (.cells #[.int .i64 u0, .int .i64 u1] 41)); have HL14 := Aside0.mk k1; have HL24 := Aside0.mk k2; clear d2 x0 x1 x2; have d1 := (blk_cell k1 0).trans rfl; clear hb k1 k2 hB HB3 HL13 HL23 HM3)
       | (go_at_call 44; have HC4 := (madeCx.calls 45 (fun _ _ => by kernel_rfl) #[.pointer (some ⟨w.heap.size + 1, 0, none⟩)] (fun _ x => alike_1 k l1 x) (some a0) c0 l0 p0 p1 _ (Kd.C_below HR0.out HB4.out) HL.out.1 (fun W' i x y e' hx hbl => gain_Alike_1 k i (w.heap.size + 1) c1 x y _ e' (some a1) l1 W' (blk_below HL24.out hbl) (Kd.C_below HR1.out (below_step HB4.out hbl)) (alike_1.of hx).1 rfl (alike_1.of hx).2) HP.out); (with_reducible refine HC4.mono ?_); clear HC4; rintro e' w5 ⟨v5, rfl, ho, hb⟩; have HB5 := Aside0.mk (below_step HB4.out hb); have HO5 := Aside0.mk ho; have k2 := blk_below HL24.out hb; have HL15 := Aside0.mk (blk_below HL14.out hb); have HM5 := Aside0.mk (blk_below HM4.out hb); have HN5 := Aside0.mk (blk_below HN4.out hb); clear d1; have d2 := (blk_cell k2 0).trans rfl; clear hb ho k2 HB4 HL14 HL24 HM4 HN4)
       | (go_at_call 44; have HC4 := (madeCx.calls 46 (fun _ _ => by kernel_rfl) #[.pointer (some ⟨w.heap.size, 0, none⟩)] (fun _ x => alike_2 k l0 x) (some a1) c1 l1 q0 q1 _ (Kd.C_below HR1.out HB5.out) HL.out.2 (fun W' i x y e' hx hbl => gain_Alike_2 k i w.heap.size c0 x y _ e' (some a0) l0 W' (blk_below HL15.out hbl) (Kd.C_below HR0.out (below_step HB5.out hbl)) (alike_2.of hx).1 rfl (alike_2.of hx).2) HQ.out); (with_reducible refine HC4.mono ?_); clear HC4; rintro e' w6 ⟨v6, rfl, ho, hb⟩; have HB6 := Aside0.mk (below_step HB5.out hb); have HO6 := Aside0.mk ho; have HO56 := Aside0.mk (Kd.R_below HO5.out hb); have HM6 := Aside0.mk (blk_below HM5.out hb); have HN6 := Aside0.mk (blk_below HN5.out hb); clear d2; clear hb ho HB5 HL15 HM5 HN5 HO5)
       | ((with_reducible refine gate_dst (N := 52) rfl ?_); refine Kd.R_lit (Kd.int .i64) _ 24 ?hg (N := 52) ?hd (xs := ([m2, u2, p1, q1] : List Int)) (inner := [.int .i64 m2, .int .i64 u2, .int .i64 p1, .int .i64 q1]) (ok := fun _ => True) (okp := fun _ => True) ?hr ?hp (fun _ hk => hk) trivial (Below.refl _ _) (Nat.le_refl _) (by simp) ?_; (case hd => rfl); (case hg => rfl); (case hr => first | (go_simp; done) | (go_simp; rfl)); (case hp => exact (Reps.one (show Kd.M (Kd.int .i64) _ _ _ m2 [.int .i64 m2] from rfl) (Reps.one (show Kd.M (Kd.int .i64) _ _ _ u2 [.int .i64 u2] from rfl) (Reps.one (show Kd.M (Kd.int .i64) _ _ _ p1 [.int .i64 p1] from rfl) (Reps.one (show Kd.M (Kd.int .i64) _ _ _ q1 [.int .i64 q1] from rfl) (Reps.none _ _)))))); intro v7 w7 ho hb hg_ hnew_; clear hg_ hnew_; (first | rw [← NY.out] at ho | (simp only [Int.reduceToNat] at ho; rw [← NY.out] at ho)); have HB7 := Aside0.mk (below_step HB6.out hb); have HO7 := Aside0.mk ho; have HO57 := Aside0.mk (Kd.R_below HO56.out hb); have HO67 := Aside0.mk (Kd.R_below HO6.out hb); have HM7 := Aside0.mk (blk_below HM6.out hb); have HN7 := Aside0.mk (blk_below HN6.out hb); clear hb ho HB6 HM6 HN6 HO56 HO6; obtain ⟨A7, c7, e7⟩ := Kd.R_slice HO7.out; subst e7)
       | ((with_reducible refine gate_callee (f := 47) rfl ?_); refine goesL_ (some 53) rfl rfl Try.func47 (by kernel_rfl) rfl #[.slice A7 yy.length c7] rfl (by (try simp only [List.map_toArray, List.map_cons, List.map_nil]); first | done | rfl) ?_; (with_reducible refine (cmp_Or__api_Errno.calls k _ _ yy _ _ (Kd.R_reads' HO7.out).2.2 (Kd.R_reads' HO7.out).2.1 HE2.out).mono ?_); rintro e' w' ⟨rfl, ⟨nd, rfl⟩⟩; refine ⟨_, rfl, ?_⟩; have HB8 := Aside0.mk (pw_below_drewN HB7.out nd); have hm := blk_drewN HM7.out nd; have hn := blk_drewN HN7.out nd; have dm0 := (blk_cell hm 0).trans rfl; have dm1 := (blk_cell hm 1).trans rfl; have dn0 := (blk_cell hn 0).trans rfl; have dn1 := (blk_cell hn 1).trans rfl; have HO58 := Aside0.mk (Kd.R_drewN HO57.out nd); have HO68 := Aside0.mk (Kd.R_drewN HO67.out nd); clear hm hn HM7 HN7 HB7 HO57 HO67 HO7; obtain ⟨A5, c5, e5⟩ := Kd.R_slice HO58.out; subst e5; obtain ⟨A6, c6, e6⟩ := Kd.R_slice HO68.out; subst e6)
       | (go_at_call 48; (with_reducible refine (slices_Equal__api_Cx_api_Cx.calls k _ _ p0 _ _ q0 bb _ (Kd.R_reads' HO58.out).2.2 (Kd.R_reads' HO58.out).2.1 (Kd.R_reads' HO68.out).2.2 (Kd.R_reads' HO68.out).2.1 HBB.out).mono ?_); rintro e' w' ⟨rfl, ⟨nd2, rfl⟩⟩; have HB9 := Aside0.mk (pw_below_drewN HB8.out nd2)))
      go_ret2
      exact ⟨rfl, (by have h9 := HB9.out; simpa using h9)⟩
     ·have z1 : (m1 == u1) = false := beq_eq_false_iff_ne.mpr c1'
      rw [if_neg (fun hc => c1' hc.2)] at hh
      simp only [Option.some.injEq, Prod.mk.injEq] at hh
      obtain ⟨rfl, rfl⟩ := hh
      clear HH c0' c1'
      go_enter Try.func20, Try.ntmps20
      go_wp2_with (first
       | (go_at_call 42; (with_reducible refine HCH.out.mono ?_); rintro e' w2 ⟨rfl, hb⟩; have HB2 := Aside0.mk (below_step HB1.out hb); have hk1 := blk_below HK1.out hb; have hk2 := blk_below HK2.out hb; have HL12 := Aside0.mk hk1; have HL22 := Aside0.mk hk2; have d1 := (blk_cell hk1 0).trans rfl; have x0 := (HB2.out.cell (World.block_lt_of_cell? w _ X.out.1)).trans X.out.1; have x1 := (HB2.out.cell (World.block_lt_of_cell? w _ X.out.2.1)).trans X.out.2.1; have x2 := (HB2.out.cell (World.block_lt_of_cell? w _ X.out.2.2)).trans X.out.2.2; have d2 := (blk_cell hk2 0).trans rfl; clear hb hk1 hk2)
       | (go_at_call 43; (with_reducible refine (HN0.out _).mono ?_); rintro e' w3 ⟨rfl, hb⟩; have hB := below_step HB2.out hb; have HB3 := Aside0.mk (hB.alloc hB.size (.cells #[.int .i64 m0, .int .i64 m1] 41)); have k1 := blk_alloc (blk_below HL12.out hb) (.cells #[.int .i64 m0, .int .i64 m1] 41); have k2 := blk_alloc (blk_below HL22.out hb) (.cells #[.int .i64 m0, .int .i64 m1] 41); have HM3 := Aside0.mk (blk_new w3 (.cells #[.int .i64 m0, .int .i64 m1] 41)); have HL13 := Aside0.mk k1; have HL23 := Aside0.mk k2; clear d1 d2 x0 x1 x2; have d2 := (blk_cell k2 0).trans rfl; have x0 := (HB3.out.cell (World.block_lt_of_cell? w _ Y.out.1)).trans Y.out.1; have x1 := (HB3.out.cell (World.block_lt_of_cell? w _ Y.out.2.1)).trans Y.out.2.1; have x2 := (HB3.out.cell (World.block_lt_of_cell? w _ Y.out.2.2)).trans Y.out.2.2; clear hb k1 k2 hB HB2 HL12 HL22)
       | (go_at_call 43; (with_reducible refine (HN1.out _).mono ?_); rintro e' w4 ⟨rfl, hb⟩; have hB := below_step HB3.out hb; have HB4 := Aside0.mk (hB.alloc hB.size (.cells #[.int .i64 u0, .int .i64 u1] 41)); have k1 := blk_alloc (blk_below HL13.out hb) (.cells #[.int .i64 u0, .int .i64 u1] 41); have k2 := blk_alloc (blk_below HL23.out hb) (.cells #[.int .i64 u0, .int .i64 u1] 41); have HM4 := Aside0.mk (blk_alloc (blk_below HM3.out hb) (.cells #[.int .i64 u0, .int .i64 u1] 41)); have HN4 := Aside0.mk (blk_new w4 (.cells #[.int .i64 u0, .int .i64 u1] 41)); have HL14 := Aside0.mk k1; have HL24 := Aside0.mk k2; clear d2 x0 x1 x2; have d1 := (blk_cell k1 0).trans rfl; clear hb k1 k2 hB HB3 HL13 HL23 HM3)
       | (go_at_call 44; have HC4 := (madeCx.calls 45 (fun _ _ => by kernel_rfl) #[.pointer (some ⟨w.heap.size + 1, 0, none⟩)] (fun _ x => alike_1 k l1 x) (some a0) c0 l0 p0 p1 _ (Kd.C_below HR0.out HB4.out) HL.out.1 (fun W' i x y e' hx hbl => gain_Alike_1 k i (w.heap.size + 1) c1 x y _ e' (some a1) l1 W' (blk_below HL24.out hbl) (Kd.C_below HR1.out (below_step HB4.out hbl)) (alike_1.of hx).1 rfl (alike_1.of hx).2) HP.out); (with_reducible refine HC4.mono ?_); clear HC4; rintro e' w5 ⟨v5, rfl, ho, hb⟩; have HB5 := Aside0.mk (below_step HB4.out hb); have HO5 := Aside0.mk ho; have k2 := blk_below HL24.out hb; have HL15 := Aside0.mk (blk_below HL14.out hb); have HM5 := Aside0.mk (blk_below HM4.out hb); have HN5 := Aside0.mk (blk_below HN4.out hb); clear d1; have d2 := (blk_cell k2 0).trans rfl; clear hb ho k2 HB4 HL14 HL24 HM4 HN4)
       | (go_at_call 44; have HC4 := (madeCx.calls 46 (fun _ _ => by kernel_rfl) #[.pointer (some ⟨w.heap.size, 0, none⟩)] (fun _ x => alike_2 k l0 x) (some a1) c1 l1 q0 q1 _ (Kd.C_below HR1.out HB5.out) HL.out.2 (fun W' i x y e' hx hbl => gain_Alike_2 k i w.heap.size c0 x y _ e' (some a0) l0 W' (blk_below HL15.out hbl) (Kd.C_below HR0.out (below_step HB5.out hbl)) (alike_2.of hx).1 rfl (alike_2.of hx).2) HQ.out); (with_reducible refine HC4.mono ?_); clear HC4; rintro e' w6 ⟨v6, rfl, ho, hb⟩; have HB6 := Aside0.mk (below_step HB5.out hb); have HO6 := Aside0.mk ho; have HO56 := Aside0.mk (Kd.R_below HO5.out hb); have HM6 := Aside0.mk (blk_below HM5.out hb); have HN6 := Aside0.mk (blk_below HN5.out hb); clear d2; clear hb ho HB5 HL15 HM5 HN5 HO5)
       | ((with_reducible refine gate_dst (N := 52) rfl ?_); refine Kd.R_lit (Kd.int .i64) _ 24 ?hg (N := 52) ?hd (xs := ([m2, u2, p1, q1] : List Int)) (inner := [.int .i64 m2, .int .i64 u2, .int .i64 p1, .int .i64 q1]) (ok := fun _ => True) (okp := fun _ => True) ?hr ?hp (fun _ hk => hk) trivial (Below.refl _ _) (Nat.le_refl _) (by simp) ?_; (case hd => rfl); (case hg => rfl); (case hr => first | (go_simp; done) | (go_simp; rfl)); (case hp => exact (Reps.one (show Kd.M (Kd.int .i64) _ _ _ m2 [.int .i64 m2] from rfl) (Reps.one (show Kd.M (Kd.int .i64) _ _ _ u2 [.int .i64 u2] from rfl) (Reps.one (show Kd.M (Kd.int .i64) _ _ _ p1 [.int .i64 p1] from rfl) (Reps.one (show Kd.M (Kd.int .i64) _ _ _ q1 [.int .i64 q1] from rfl) (Reps.none _ _)))))); intro v7 w7 ho hb hg_ hnew_; clear hg_ hnew_; (first | rw [← NY.out] at ho | (simp only [Int.reduceToNat] at ho; rw [← NY.out] at ho)); have HB7 := Aside0.mk (below_step HB6.out hb); have HO7 := Aside0.mk ho; have HO57 := Aside0.mk (Kd.R_below HO56.out hb); have HO67 := Aside0.mk (Kd.R_below HO6.out hb); have HM7 := Aside0.mk (blk_below HM6.out hb); have HN7 := Aside0.mk (blk_below HN6.out hb); clear hb ho HB6 HM6 HN6 HO56 HO6; obtain ⟨A7, c7, e7⟩ := Kd.R_slice HO7.out; subst e7)
       | ((with_reducible refine gate_callee (f := 47) rfl ?_); refine goesL_ (some 53) rfl rfl Try.func47 (by kernel_rfl) rfl #[.slice A7 yy.length c7] rfl (by (try simp only [List.map_toArray, List.map_cons, List.map_nil]); first | done | rfl) ?_; (with_reducible refine (cmp_Or__api_Errno.calls k _ _ yy _ _ (Kd.R_reads' HO7.out).2.2 (Kd.R_reads' HO7.out).2.1 HE2.out).mono ?_); rintro e' w' ⟨rfl, ⟨nd, rfl⟩⟩; refine ⟨_, rfl, ?_⟩; have HB8 := Aside0.mk (pw_below_drewN HB7.out nd); have hm := blk_drewN HM7.out nd; have hn := blk_drewN HN7.out nd; have dm0 := (blk_cell hm 0).trans rfl; have dm1 := (blk_cell hm 1).trans rfl; have dn0 := (blk_cell hn 0).trans rfl; have dn1 := (blk_cell hn 1).trans rfl; have HO58 := Aside0.mk (Kd.R_drewN HO57.out nd); have HO68 := Aside0.mk (Kd.R_drewN HO67.out nd); clear hm hn HM7 HN7 HB7 HO57 HO67 HO7))
      go_ret2
      exact ⟨rfl, HB8.out⟩
    ·have z0 : (m0 == u0) = false := beq_eq_false_iff_ne.mpr c0'
     rw [if_neg (fun hc => c0' hc.1)] at hh
     simp only [Option.some.injEq, Prod.mk.injEq] at hh
     obtain ⟨rfl, rfl⟩ := hh
     clear HH c0'
     go_enter Try.func20, Try.ntmps20
     go_wp2_with (first
      | (go_at_call 42; (with_reducible refine HCH.out.mono ?_); rintro e' w2 ⟨rfl, hb⟩; have HB2 := Aside0.mk (below_step HB1.out hb); have hk1 := blk_below HK1.out hb; have hk2 := blk_below HK2.out hb; have HL12 := Aside0.mk hk1; have HL22 := Aside0.mk hk2; have d1 := (blk_cell hk1 0).trans rfl; have x0 := (HB2.out.cell (World.block_lt_of_cell? w _ X.out.1)).trans X.out.1; have x1 := (HB2.out.cell (World.block_lt_of_cell? w _ X.out.2.1)).trans X.out.2.1; have x2 := (HB2.out.cell (World.block_lt_of_cell? w _ X.out.2.2)).trans X.out.2.2; have d2 := (blk_cell hk2 0).trans rfl; clear hb hk1 hk2)
      | (go_at_call 43; (with_reducible refine (HN0.out _).mono ?_); rintro e' w3 ⟨rfl, hb⟩; have hB := below_step HB2.out hb; have HB3 := Aside0.mk (hB.alloc hB.size (.cells #[.int .i64 m0, .int .i64 m1] 41)); have k1 := blk_alloc (blk_below HL12.out hb) (.cells #[.int .i64 m0, .int .i64 m1] 41); have k2 := blk_alloc (blk_below HL22.out hb) (.cells #[.int .i64 m0, .int .i64 m1] 41); have HM3 := Aside0.mk (blk_new w3 (.cells #[.int .i64 m0, .int .i64 m1] 41)); have HL13 := Aside0.mk k1; have HL23 := Aside0.mk k2; clear d1 d2 x0 x1 x2; have d2 := (blk_cell k2 0).trans rfl; have x0 := (HB3.out.cell (World.block_lt_of_cell? w _ Y.out.1)).trans Y.out.1; have x1 := (HB3.out.cell (World.block_lt_of_cell? w _ Y.out.2.1)).trans Y.out.2.1; have x2 := (HB3.out.cell (World.block_lt_of_cell? w _ Y.out.2.2)).trans Y.out.2.2; clear hb k1 k2 hB HB2 HL12 HL22)
      | (go_at_call 43; (with_reducible refine (HN1.out _).mono ?_); rintro e' w4 ⟨rfl, hb⟩; have hB := below_step HB3.out hb; have HB4 := Aside0.mk (hB.alloc hB.size (.cells #[.int .i64 u0, .int .i64 u1] 41)); have k1 := blk_alloc (blk_below HL13.out hb) (.cells #[.int .i64 u0, .int .i64 u1] 41); have k2 := blk_alloc (blk_below HL23.out hb) (.cells #[.int .i64 u0, .int .i64 u1] 41); have HM4 := Aside0.mk (blk_alloc (blk_below HM3.out hb) (.cells #[.int .i64 u0, .int .i64 u1] 41)); have HN4 := Aside0.mk (blk_new w4 (.cells #[.int .i64 u0, .int .i64 u1] 41)); have HL14 := Aside0.mk k1; have HL24 := Aside0.mk k2; clear d2 x0 x1 x2; have d1 := (blk_cell k1 0).trans rfl; clear hb k1 k2 hB HB3 HL13 HL23 HM3)
      | (go_at_call 44; have HC4 := (madeCx.calls 45 (fun _ _ => by kernel_rfl) #[.pointer (some ⟨w.heap.size + 1, 0, none⟩)] (fun _ x => alike_1 k l1 x) (some a0) c0 l0 p0 p1 _ (Kd.C_below HR0.out HB4.out) HL.out.1 (fun W' i x y e' hx hbl => gain_Alike_1 k i (w.heap.size + 1) c1 x y _ e' (some a1) l1 W' (blk_below HL24.out hbl) (Kd.C_below HR1.out (below_step HB4.out hbl)) (alike_1.of hx).1 rfl (alike_1.of hx).2) HP.out); (with_reducible refine HC4.mono ?_); clear HC4; rintro e' w5 ⟨v5, rfl, ho, hb⟩; have HB5 := Aside0.mk (below_step HB4.out hb); have HO5 := Aside0.mk ho; have k2 := blk_below HL24.out hb; have HL15 := Aside0.mk (blk_below HL14.out hb); have HM5 := Aside0.mk (blk_below HM4.out hb); have HN5 := Aside0.mk (blk_below HN4.out hb); clear d1; have d2 := (blk_cell k2 0).trans rfl; clear hb ho k2 HB4 HL14 HL24 HM4 HN4)
      | (go_at_call 44; have HC4 := (madeCx.calls 46 (fun _ _ => by kernel_rfl) #[.pointer (some ⟨w.heap.size, 0, none⟩)] (fun _ x => alike_2 k l0 x) (some a1) c1 l1 q0 q1 _ (Kd.C_below HR1.out HB5.out) HL.out.2 (fun W' i x y e' hx hbl => gain_Alike_2 k i w.heap.size c0 x y _ e' (some a0) l0 W' (blk_below HL15.out hbl) (Kd.C_below HR0.out (below_step HB5.out hbl)) (alike_2.of hx).1 rfl (alike_2.of hx).2) HQ.out); (with_reducible refine HC4.mono ?_); clear HC4; rintro e' w6 ⟨v6, rfl, ho, hb⟩; have HB6 := Aside0.mk (below_step HB5.out hb); have HO6 := Aside0.mk ho; have HO56 := Aside0.mk (Kd.R_below HO5.out hb); have HM6 := Aside0.mk (blk_below HM5.out hb); have HN6 := Aside0.mk (blk_below HN5.out hb); clear d2; clear hb ho HB5 HL15 HM5 HN5 HO5)
      | ((with_reducible refine gate_dst (N := 52) rfl ?_); refine Kd.R_lit (Kd.int .i64) _ 24 ?hg (N := 52) ?hd (xs := ([m2, u2, p1, q1] : List Int)) (inner := [.int .i64 m2, .int .i64 u2, .int .i64 p1, .int .i64 q1]) (ok := fun _ => True) (okp := fun _ => True) ?hr ?hp (fun _ hk => hk) trivial (Below.refl _ _) (Nat.le_refl _) (by simp) ?_; (case hd => rfl); (case hg => rfl); (case hr => first | (go_simp; done) | (go_simp; rfl)); (case hp => exact (Reps.one (show Kd.M (Kd.int .i64) _ _ _ m2 [.int .i64 m2] from rfl) (Reps.one (show Kd.M (Kd.int .i64) _ _ _ u2 [.int .i64 u2] from rfl) (Reps.one (show Kd.M (Kd.int .i64) _ _ _ p1 [.int .i64 p1] from rfl) (Reps.one (show Kd.M (Kd.int .i64) _ _ _ q1 [.int .i64 q1] from rfl) (Reps.none _ _)))))); intro v7 w7 ho hb hg_ hnew_; clear hg_ hnew_; (first | rw [← NY.out] at ho | (simp only [Int.reduceToNat] at ho; rw [← NY.out] at ho)); have HB7 := Aside0.mk (below_step HB6.out hb); have HO7 := Aside0.mk ho; have HO57 := Aside0.mk (Kd.R_below HO56.out hb); have HO67 := Aside0.mk (Kd.R_below HO6.out hb); have HM7 := Aside0.mk (blk_below HM6.out hb); have HN7 := Aside0.mk (blk_below HN6.out hb); clear hb ho HB6 HM6 HN6 HO56 HO6; obtain ⟨A7, c7, e7⟩ := Kd.R_slice HO7.out; subst e7)
      | ((with_reducible refine gate_callee (f := 47) rfl ?_); refine goesL_ (some 53) rfl rfl Try.func47 (by kernel_rfl) rfl #[.slice A7 yy.length c7] rfl (by (try simp only [List.map_toArray, List.map_cons, List.map_nil]); first | done | rfl) ?_; (with_reducible refine (cmp_Or__api_Errno.calls k _ _ yy _ _ (Kd.R_reads' HO7.out).2.2 (Kd.R_reads' HO7.out).2.1 HE2.out).mono ?_); rintro e' w' ⟨rfl, ⟨nd, rfl⟩⟩; refine ⟨_, rfl, ?_⟩; have HB8 := Aside0.mk (pw_below_drewN HB7.out nd); have hm := blk_drewN HM7.out nd; have hn := blk_drewN HN7.out nd; have dm0 := (blk_cell hm 0).trans rfl; have dm1 := (blk_cell hm 1).trans rfl; have dn0 := (blk_cell hn 0).trans rfl; have dn1 := (blk_cell hn 1).trans rfl; have HO58 := Aside0.mk (Kd.R_drewN HO57.out nd); have HO68 := Aside0.mk (Kd.R_drewN HO67.out nd); clear hm hn HM7 HN7 HB7 HO57 HO67 HO7))
     go_ret2
     exact ⟨rfl, HB8.out⟩
   ·have z2 : (e2 != 0) = true := bne_iff_ne.mpr ce2
    have hh := HH.out
    rw [if_neg ce2] at hh
    simp only [Option.some.injEq, Prod.mk.injEq] at hh
    obtain ⟨rfl, rfl⟩ := hh
    clear HH ce2
    go_enter Try.func20, Try.ntmps20
    go_wp2_with (first
     | (go_at_call 42; (with_reducible refine HCH.out.mono ?_); rintro e' w2 ⟨rfl, hb⟩; have HB2 := Aside0.mk (below_step HB1.out hb); have hk1 := blk_below HK1.out hb; have hk2 := blk_below HK2.out hb; have HL12 := Aside0.mk hk1; have HL22 := Aside0.mk hk2; have d1 := (blk_cell hk1 0).trans rfl; have x0 := (HB2.out.cell (World.block_lt_of_cell? w _ X.out.1)).trans X.out.1; have x1 := (HB2.out.cell (World.block_lt_of_cell? w _ X.out.2.1)).trans X.out.2.1; have x2 := (HB2.out.cell (World.block_lt_of_cell? w _ X.out.2.2)).trans X.out.2.2; have d2 := (blk_cell hk2 0).trans rfl; clear hb hk1 hk2)
     | (go_at_call 43; (with_reducible refine (HN0.out _).mono ?_); rintro e' w3 ⟨rfl, hb⟩; have hB := below_step HB2.out hb; have HB3 := Aside0.mk (hB.alloc hB.size (.cells #[.int .i64 m0, .int .i64 m1] 41)); have k1 := blk_alloc (blk_below HL12.out hb) (.cells #[.int .i64 m0, .int .i64 m1] 41); have k2 := blk_alloc (blk_below HL22.out hb) (.cells #[.int .i64 m0, .int .i64 m1] 41); have HM3 := Aside0.mk (blk_new w3 (.cells #[.int .i64 m0, .int .i64 m1] 41)); have HL13 := Aside0.mk k1; have HL23 := Aside0.mk k2; clear d1 d2 x0 x1 x2; have d2 := (blk_cell k2 0).trans rfl; have x0 := (HB3.out.cell (World.block_lt_of_cell? w _ Y.out.1)).trans Y.out.1; have x1 := (HB3.out.cell (World.block_lt_of_cell? w _ Y.out.2.1)).trans Y.out.2.1; have x2 := (HB3.out.cell (World.block_lt_of_cell? w _ Y.out.2.2)).trans Y.out.2.2; clear hb k1 k2 hB HB2 HL12 HL22)
     | (go_at_call 43; (with_reducible refine (HN1.out _).mono ?_); rintro e' w4 ⟨rfl, hb⟩; have hB := below_step HB3.out hb; have HB4 := Aside0.mk (hB.alloc hB.size (.cells #[.int .i64 u0, .int .i64 u1] 41)); have k1 := blk_alloc (blk_below HL13.out hb) (.cells #[.int .i64 u0, .int .i64 u1] 41); have k2 := blk_alloc (blk_below HL23.out hb) (.cells #[.int .i64 u0, .int .i64 u1] 41); have HM4 := Aside0.mk (blk_alloc (blk_below HM3.out hb) (.cells #[.int .i64 u0, .int .i64 u1] 41)); have HN4 := Aside0.mk (blk_new w4 (.cells #[.int .i64 u0, .int .i64 u1] 41)); have HL14 := Aside0.mk k1; have HL24 := Aside0.mk k2; clear d2 x0 x1 x2; have d1 := (blk_cell k1 0).trans rfl; clear hb k1 k2 hB HB3 HL13 HL23 HM3)
     | (go_at_call 44; have HC4 := (madeCx.calls 45 (fun _ _ => by kernel_rfl) #[.pointer (some ⟨w.heap.size + 1, 0, none⟩)] (fun _ x => alike_1 k l1 x) (some a0) c0 l0 p0 p1 _ (Kd.C_below HR0.out HB4.out) HL.out.1 (fun W' i x y e' hx hbl => gain_Alike_1 k i (w.heap.size + 1) c1 x y _ e' (some a1) l1 W' (blk_below HL24.out hbl) (Kd.C_below HR1.out (below_step HB4.out hbl)) (alike_1.of hx).1 rfl (alike_1.of hx).2) HP.out); (with_reducible refine HC4.mono ?_); clear HC4; rintro e' w5 ⟨v5, rfl, ho, hb⟩; have HB5 := Aside0.mk (below_step HB4.out hb); have HO5 := Aside0.mk ho; have k2 := blk_below HL24.out hb; have HL15 := Aside0.mk (blk_below HL14.out hb); have HM5 := Aside0.mk (blk_below HM4.out hb); have HN5 := Aside0.mk (blk_below HN4.out hb); clear d1; have d2 := (blk_cell k2 0).trans rfl; clear hb ho k2 HB4 HL14 HL24 HM4 HN4)
     | (go_at_call 44; have HC4 := (madeCx.calls 46 (fun _ _ => by kernel_rfl) #[.pointer (some ⟨w.heap.size, 0, none⟩)] (fun _ x => alike_2 k l0 x) (some a1) c1 l1 q0 q1 _ (Kd.C_below HR1.out HB5.out) HL.out.2 (fun W' i x y e' hx hbl => gain_Alike_2 k i w.heap.size c0 x y _ e' (some a0) l0 W' (blk_below HL15.out hbl) (Kd.C_below HR0.out (below_step HB5.out hbl)) (alike_2.of hx).1 rfl (alike_2.of hx).2) HQ.out); (with_reducible refine HC4.mono ?_); clear HC4; rintro e' w6 ⟨v6, rfl, ho, hb⟩; have HB6 := Aside0.mk (below_step HB5.out hb); have HO6 := Aside0.mk ho; have HO56 := Aside0.mk (Kd.R_below HO5.out hb); have HM6 := Aside0.mk (blk_below HM5.out hb); have HN6 := Aside0.mk (blk_below HN5.out hb); clear d2; clear hb ho HB5 HL15 HM5 HN5 HO5)
     | ((with_reducible refine gate_dst (N := 52) rfl ?_); refine Kd.R_lit (Kd.int .i64) _ 24 ?hg (N := 52) ?hd (xs := ([m2, u2, p1, q1] : List Int)) (inner := [.int .i64 m2, .int .i64 u2, .int .i64 p1, .int .i64 q1]) (ok := fun _ => True) (okp := fun _ => True) ?hr ?hp (fun _ hk => hk) trivial (Below.refl _ _) (Nat.le_refl _) (by simp) ?_; (case hd => rfl); (case hg => rfl); (case hr => first | (go_simp; done) | (go_simp; rfl)); (case hp => exact (Reps.one (show Kd.M (Kd.int .i64) _ _ _ m2 [.int .i64 m2] from rfl) (Reps.one (show Kd.M (Kd.int .i64) _ _ _ u2 [.int .i64 u2] from rfl) (Reps.one (show Kd.M (Kd.int .i64) _ _ _ p1 [.int .i64 p1] from rfl) (Reps.one (show Kd.M (Kd.int .i64) _ _ _ q1 [.int .i64 q1] from rfl) (Reps.none _ _)))))); intro v7 w7 ho hb hg_ hnew_; clear hg_ hnew_; (first | rw [← NY.out] at ho | (simp only [Int.reduceToNat] at ho; rw [← NY.out] at ho)); have HB7 := Aside0.mk (below_step HB6.out hb); have HO7 := Aside0.mk ho; have HO57 := Aside0.mk (Kd.R_below HO56.out hb); have HO67 := Aside0.mk (Kd.R_below HO6.out hb); have HM7 := Aside0.mk (blk_below HM6.out hb); have HN7 := Aside0.mk (blk_below HN6.out hb); clear hb ho HB6 HM6 HN6 HO56 HO6; obtain ⟨A7, c7, e7⟩ := Kd.R_slice HO7.out; subst e7)
     | ((with_reducible refine gate_callee (f := 47) rfl ?_); refine goesL_ (some 53) rfl rfl Try.func47 (by kernel_rfl) rfl #[.slice A7 yy.length c7] rfl (by (try simp only [List.map_toArray, List.map_cons, List.map_nil]); first | done | rfl) ?_; (with_reducible refine (cmp_Or__api_Errno.calls k _ _ yy _ _ (Kd.R_reads' HO7.out).2.2 (Kd.R_reads' HO7.out).2.1 HE2.out).mono ?_); rintro e' w' ⟨rfl, ⟨nd, rfl⟩⟩; refine ⟨_, rfl, ?_⟩; have HB8 := Aside0.mk (pw_below_drewN HB7.out nd); have hm := blk_drewN HM7.out nd; have hn := blk_drewN HN7.out nd; have dm0 := (blk_cell hm 0).trans rfl; have dm1 := (blk_cell hm 1).trans rfl; have dn0 := (blk_cell hn 0).trans rfl; have dn1 := (blk_cell hn 1).trans rfl; have HO58 := Aside0.mk (Kd.R_drewN HO57.out nd); have HO68 := Aside0.mk (Kd.R_drewN HO67.out nd); clear hm hn HM7 HN7 HB7 HO57 HO67 HO7))
    go_ret2
    exact ⟨rfl, HB8.out⟩
  ·rw [if_neg c2] at h; cases h
 ·rw [if_neg ce] at h
  simp only [Option.some.injEq, Prod.mk.injEq] at h
  obtain ⟨rfl, rfl⟩ := h
  have g1 : (e != 0) = true := bne_iff_ne.mpr ce
  clear ce
  go_enter Try.func20, Try.ntmps20
  go_wp2_with (go_at_call 42; (with_reducible refine HCH.out.mono ?_); rintro e' w2 ⟨rfl, hb⟩; have HB2 := Aside0.mk (below_step HB1.out hb); clear hb)
  go_ret2
  exact ⟨rfl, HB2.out⟩

/-! ### fringelaw26_of: function 28 -/
def fringelaw26_of.f (a0 : Int) (a1 : Int) (a2 : Int) : Option (Int × Int × Int) := some (a0, a1, a2)
set_option maxHeartbeats 8000000 in
set_option maxRecDepth 100000 in
theorem fringelaw26_of.calls (a0 : Int) (a1 : Int) (a2 : Int) (r1 : Int) (r2 : Int) (r3 : Int) (w : World) (h : fringelaw26_of.f a0 a1 a2 = some (r1, r2, r3)) :
  Calls Try.prog 28 #[.int .i64 a0, .int .i64 a1, .int .i64 a2] w fun e w' => e = .returned (.agg #[.int .i64 r1, .int .i64 r2, .int .i64 r3]) ∧ Below w.heap.size w w' := by
 have hu36 := Try.underlying36
 have HB := Aside0.mk (Below.refl w.heap.size w)
 have H : (some (a0, a1, a2)) = some (r1, r2, r3) := h
 clear h
 simp only [Option.some.injEq, Prod.mk.injEq] at H
 obtain ⟨rfl, rfl, rfl⟩ := H
 go_enter Try.func28, Try.ntmps28
 go_wp2_with (first | ((with_reducible refine gate_dst (N := 6) rfl ?_); refine box_event ?hg (N := 6) ?hd (cs := #[.int .i64 0, .int .i64 0, .int .i64 0]) (t := 36) ?hr ?_; (case hd => rfl); (case hg => rfl); (case hr => first | (go_simp; done) | (go_simp; rfl)); intro gb230 hg w4 hbox hb; have n0_ := Aside0.mk (below_step (by repeat (first | (with_reducible first | exact HB.out | apply below_alloc | apply pw_below_drewN | apply below_drew1) | exact HB.out)) hb); have n1_ := Aside0.mk (hbox); have n2_ := Aside0.mk ((by rw [hg]; exact (below_size (by repeat (first | (with_reducible first | exact HB.out | apply below_alloc | apply pw_below_drewN | apply below_drew1) | exact HB.out))) : w.heap.size ≤ gb230)); have n3_ := Aside0.mk ((by rw [hg]; exact (below_size (by repeat (first | (with_reducible first | exact HB.out | apply below_alloc | apply pw_below_drewN | apply below_drew1) | exact HB.out))) : w.heap.size ≤ gb230)); clear HB; have HB := n0_; have BK230 := n1_; have GW230 := n2_; have GE230 := n3_; clear n0_ n1_ n2_ n3_; clear hb hbox hg; have hcz5_0 : w4.cell? ⟨gb230, 0, none⟩ = some (.int .i64 0) := (blk_cell BK230.out 0).trans rfl; have hcz5_1 : w4.cell? ⟨gb230, 1, none⟩ = some (.int .i64 0) := (blk_cell BK230.out 1).trans rfl; have hcz5_2 : w4.cell? ⟨gb230, 2, none⟩ = some (.int .i64 0) := (blk_cell BK230.out 2).trans rfl; have hfz5_0 := blk_frozen BK230.out 0; have hfz5_1 := blk_frozen BK230.out 1; have hfz5_2 := blk_frozen BK230.out 2))
 refine bodyPost_ret (results_cell_row rfl _ _ gb230 36 #[.int .i64 a0, .int .i64 a1, .int .i64 a2] (0, 0) _ rfl (by (with_reducible repeat (first | refine blk_drewN ?_ _ | refine blk_drew ?_ | refine blk_alloc ?_ _)); refine blk_put (cs := #[.int .i64 a0, .int .i64 a1, .int .i64 0]) ?_ 2 _ rfl; (with_reducible repeat (first | refine blk_drewN ?_ _ | refine blk_drew ?_ | refine blk_alloc ?_ _)); refine blk_put (cs := #[.int .i64 a0, .int .i64 0, .int .i64 0]) ?_ 1 _ rfl; (with_reducible repeat (first | refine blk_drewN ?_ _ | refine blk_drew ?_ | refine blk_alloc ?_ _)); refine blk_put (cs := #[.int .i64 0, .int .i64 0, .int .i64 0]) ?_ 0 _ rfl; (with_reducible repeat (first | refine blk_drewN ?_ _ | refine blk_drew ?_ | refine blk_alloc ?_ _)); exact BK230.out) Try.underlying36 rfl (by kernel_rfl)) rfl ?_
 exact ⟨by first | rfl | (simp [errW_none, errW_some] <;> rfl) | (simp [*, errW_none, errW_some] <;> rfl), by repeat (first | (with_reducible first | exact HB.out | apply below_alloc | apply pw_below_drewN | apply below_drew1 | refine below_set ?_ GE230.out) | exact HB.out)⟩

/-! ### fringelaw26_alive: function 14 -/
def fringelaw26_alive.f (k : Nat)  : Option (Bool) := (fringelaw26_of.f 1 0 1).bind fun bt231 => ((fringelaw26_of.f 0 1 1).bind fun bt234 => ((some (([(⟨bt231.1, bt231.2.1, bt231.2.2⟩ : S36), (⟨bt234.1, bt234.2.1, bt234.2.2⟩ : S36)] : List (S36)) : List (S36))).bind fun y237 => ((fringelaw26_of.f 0 1 1).bind fun bt240 => ((fringelaw26_of.f (-1) 0 1).bind fun bt243 => ((fringelaw26_of.f 2 0 1).bind fun bt249 => ((gain_Act.f k y237 (([(⟨0, 1, (⟨bt249.1, bt249.2.1, bt249.2.2⟩ : S36), 5⟩ : S38)] : List (S38)))).bind fun bt255 => ((gain_Alike.f k y237 (([(⟨bt240.1, bt240.2.1, bt240.2.2⟩ : S36), (⟨bt243.1, bt243.2.1, bt243.2.2⟩ : S36)] : List (S36)))).bind fun bt259 => (if bt255.2 = 0 then ((fringelaw26_of.f 0 (-2) 1).bind fun bt261 => ((fringeref26_Same.f k bt255.1 (([(⟨0, 1, (⟨bt261.1, bt261.2.1, bt261.2.2⟩ : S36), 5⟩ : S38)] : List (S38)))).bind fun t267 => (if t267 = true then (if bt259.2 = 0 then (some bt259.1) else (some false)) else (some false)))) else (some false)))))))))
theorem fringelaw26_alive.mono : ∀ k, LeO (fringelaw26_alive.f k ) (fringelaw26_alive.f (k + 1) ) := by
 intro  k
 unfold fringelaw26_alive.f
 repeat' first
   | (with_reducible exact fringeref26_Same.mono _ _ _)
   | (with_reducible exact gain_Act.mono _ _ _)
   | (with_reducible exact gain_Alike.mono _ _ _)
   | (with_reducible exact LeO.refl _)
   | (with_reducible exact LeO.none _)
   | (with_reducible refine LeO.ite ?_ ?_)
   | (with_reducible refine LeO.bind ?_ (fun _ => ?_))
   | exact fringeref26_Same.mono _ _ _
   | exact gain_Act.mono _ _ _
   | exact gain_Alike.mono _ _ _
   | exact LeO.none _
   | refine LeO.ite ?_ ?_
   | refine LeO.bind ?_ (fun _ => ?_)
set_option maxHeartbeats 8000000 in
set_option maxRecDepth 100000 in
theorem fringelaw26_alive.callsT (k : Nat)  (w : World) (h : fringelaw26_alive.f k  = some true) :
  Calls Try.prog 14 #[] w fun e w' => e = .returned (.bool true) ∧ Below w.heap.size w w' := by
 have hu38 := Try.underlying38
 have HB := Aside0.mk (Below.refl w.heap.size w)
 have H : ((fringelaw26_of.f 1 0 1).bind fun bt231 => ((fringelaw26_of.f 0 1 1).bind fun bt234 => ((some (([(⟨bt231.1, bt231.2.1, bt231.2.2⟩ : S36), (⟨bt234.1, bt234.2.1, bt234.2.2⟩ : S36)] : List (S36)) : List (S36))).bind fun y237 => ((fringelaw26_of.f 0 1 1).bind fun bt240 => ((fringelaw26_of.f (-1) 0 1).bind fun bt243 => ((fringelaw26_of.f 2 0 1).bind fun bt249 => ((gain_Act.f k y237 (([(⟨0, 1, (⟨bt249.1, bt249.2.1, bt249.2.2⟩ : S36), 5⟩ : S38)] : List (S38)))).bind fun bt255 => ((gain_Alike.f k y237 (([(⟨bt240.1, bt240.2.1, bt240.2.2⟩ : S36), (⟨bt243.1, bt243.2.1, bt243.2.2⟩ : S36)] : List (S36)))).bind fun bt259 => (if bt255.2 = 0 then ((fringelaw26_of.f 0 (-2) 1).bind fun bt261 => ((fringeref26_Same.f k bt255.1 (([(⟨0, 1, (⟨bt261.1, bt261.2.1, bt261.2.2⟩ : S36), 5⟩ : S38)] : List (S38)))).bind fun t267 => (if t267 = true then (if bt259.2 = 0 then (some bt259.1) else (some false)) else (some false)))) else (some false)))))))))) = some true := h
 clear h
 replace H := Option.bind_eq_some_iff.mp H
 obtain ⟨⟨t231, t232, t233⟩, A10, H⟩ := H
 (try dsimp only at H)
 have A1 := Aside0.mk A10
 clear A10
 replace H := Option.bind_eq_some_iff.mp H
 obtain ⟨⟨t234, t235, t236⟩, A20, H⟩ := H
 (try dsimp only at H)
 have A2 := Aside0.mk A20
 clear A20
 obtain ⟨y237, hy237⟩ : ∃ y_ : List (S36), y_ = (([(⟨t231, t232, t233⟩ : S36), (⟨t234, t235, t236⟩ : S36)] : List (S36))) := ⟨_, rfl⟩
 replace H : ((fringelaw26_of.f 0 1 1).bind fun bt240 => ((fringelaw26_of.f (-1) 0 1).bind fun bt243 => ((fringelaw26_of.f 2 0 1).bind fun bt249 => ((gain_Act.f k y237 (([(⟨0, 1, (⟨bt249.1, bt249.2.1, bt249.2.2⟩ : S36), 5⟩ : S38)] : List (S38)))).bind fun bt255 => ((gain_Alike.f k y237 (([(⟨bt240.1, bt240.2.1, bt240.2.2⟩ : S36), (⟨bt243.1, bt243.2.1, bt243.2.2⟩ : S36)] : List (S36)))).bind fun bt259 => (if bt255.2 = 0 then ((fringelaw26_of.f 0 (-2) 1).bind fun bt261 => ((fringeref26_Same.f k bt255.1 (([(⟨0, 1, (⟨bt261.1, bt261.2.1, bt261.2.2⟩ : S36), 5⟩ : S38)] : List (S38)))).bind fun t267 => (if t267 = true then (if bt259.2 = 0 then (some bt259.1) else (some false)) else (some false)))) else (some false))))))) = some true := by first | (rw [hy237]; with_reducible exact H) | (have H2_ := (Option.bind_some _ _).symm.trans H; rw [hy237]; with_reducible exact H2_) | (have H2_ := (Option.bind_some _ _).symm.trans H; with_reducible exact H2_) | with_reducible exact H | (rw [hy237]; exact H) | exact H
 have Ny237 := Aside0.mk hy237
 clear hy237
 replace H := Option.bind_eq_some_iff.mp H
 obtain ⟨⟨t240, t241, t242⟩, A30, H⟩ := H
 (try dsimp only at H)
 have A3 := Aside0.mk A30
 clear A30
 replace H := Option.bind_eq_some_iff.mp H
 obtain ⟨⟨t243, t244, t245⟩, A40, H⟩ := H
 (try dsimp only at H)
 have A4 := Aside0.mk A40
 clear A40
 obtain ⟨y246, hy246⟩ : ∃ y_ : List (S36), y_ = (([(⟨t240, t241, t242⟩ : S36), (⟨t243, t244, t245⟩ : S36)] : List (S36))) := ⟨_, rfl⟩
 replace H : ((fringelaw26_of.f 2 0 1).bind fun bt249 => ((gain_Act.f k y237 (([(⟨0, 1, (⟨bt249.1, bt249.2.1, bt249.2.2⟩ : S36), 5⟩ : S38)] : List (S38)))).bind fun bt255 => ((gain_Alike.f k y237 y246).bind fun bt259 => (if bt255.2 = 0 then ((fringelaw26_of.f 0 (-2) 1).bind fun bt261 => ((fringeref26_Same.f k bt255.1 (([(⟨0, 1, (⟨bt261.1, bt261.2.1, bt261.2.2⟩ : S36), 5⟩ : S38)] : List (S38)))).bind fun t267 => (if t267 = true then (if bt259.2 = 0 then (some bt259.1) else (some false)) else (some false)))) else (some false))))) = some true := by first | (rw [hy246]; with_reducible exact H) | (have H2_ := (Option.bind_some _ _).symm.trans H; rw [hy246]; with_reducible exact H2_) | (have H2_ := (Option.bind_some _ _).symm.trans H; with_reducible exact H2_) | with_reducible exact H | (rw [hy246]; exact H) | exact H
 have Ny246 := Aside0.mk hy246
 clear hy246
 replace H := Option.bind_eq_some_iff.mp H
 obtain ⟨⟨t249, t250, t251⟩, A50, H⟩ := H
 (try dsimp only at H)
 have A5 := Aside0.mk A50
 clear A50
 obtain ⟨y252, hy252⟩ : ∃ y_ : List (S38), y_ = (([(⟨0, 1, (⟨t249, t250, t251⟩ : S36), 5⟩ : S38)] : List (S38))) := ⟨_, rfl⟩
 replace H : ((gain_Act.f k y237 y252).bind fun bt255 => ((gain_Alike.f k y237 y246).bind fun bt259 => (if bt255.2 = 0 then ((fringelaw26_of.f 0 (-2) 1).bind fun bt261 => ((fringeref26_Same.f k bt255.1 (([(⟨0, 1, (⟨bt261.1, bt261.2.1, bt261.2.2⟩ : S36), 5⟩ : S38)] : List (S38)))).bind fun t267 => (if t267 = true then (if bt259.2 = 0 then (some bt259.1) else (some false)) else (some false)))) else (some false)))) = some true := by first | (rw [hy252]; with_reducible exact H) | (have H2_ := (Option.bind_some _ _).symm.trans H; rw [hy252]; with_reducible exact H2_) | (have H2_ := (Option.bind_some _ _).symm.trans H; with_reducible exact H2_) | with_reducible exact H | (rw [hy252]; exact H) | exact H
 have Ny252 := Aside0.mk hy252
 clear hy252
 replace H := Option.bind_eq_some_iff.mp H
 obtain ⟨⟨t255, t256⟩, A60, H⟩ := H
 (try dsimp only at H)
 have A6 := Aside0.mk A60
 clear A60
 replace H := Option.bind_eq_some_iff.mp H
 obtain ⟨⟨t259, t260⟩, A70, H⟩ := H
 (try dsimp only at H)
 have A7 := Aside0.mk A70
 clear A70
 by_cases c8 : t256 = 0
 ·rw [if_pos c8] at H
  have c8b0 : (t256 == 0) = true := beq_iff_eq.mpr c8
  have c8b1 : (t256 != 0) = false := bne_eq_false_iff_eq.mpr c8
  clear c8
  replace H := Option.bind_eq_some_iff.mp H
  obtain ⟨⟨t261, t262, t263⟩, A90, H⟩ := H
  (try dsimp only at H)
  have A9 := Aside0.mk A90
  clear A90
  obtain ⟨y264, hy264⟩ : ∃ y_ : List (S38), y_ = (([(⟨0, 1, (⟨t261, t262, t263⟩ : S36), 5⟩ : S38)] : List (S38))) := ⟨_, rfl⟩
  replace H : ((fringeref26_Same.f k t255 y264).bind fun t267 => (if t267 = true then (if t260 = 0 then (some t259) else (some false)) else (some false))) = some true := by first | (rw [hy264]; with_reducible exact H) | (have H2_ := (Option.bind_some _ _).symm.trans H; rw [hy264]; with_reducible exact H2_) | (have H2_ := (Option.bind_some _ _).symm.trans H; with_reducible exact H2_) | with_reducible exact H | (rw [hy264]; exact H) | exact H
  have Ny264 := Aside0.mk hy264
  clear hy264
  replace H := Option.bind_eq_some_iff.mp H
  obtain ⟨t267, A100, H⟩ := H
  (try dsimp only at H)
  have A10 := Aside0.mk A100
  clear A100
  by_cases c11 : t267 = true
  ·subst c11
   rw [if_pos rfl] at H
   by_cases c12 : t260 = 0
   ·rw [if_pos c12] at H
    have c12b0 : (t260 == 0) = true := beq_iff_eq.mpr c12
    have c12b1 : (t260 != 0) = false := bne_eq_false_iff_eq.mpr c12
    clear c12
    have hend := Aside0.mk (Option.some.inj H)
    clear H
    go_enter Try.func14, Try.ntmps14
    go_wp2_with (first | ((with_reducible refine gate_callee (f := 28) rfl ?_); refine goesL_ (some 7) rfl rfl Try.func28 (by kernel_rfl) rfl #[.int .i64 1, .int .i64 0, .int .i64 1] rfl (by (try simp only [List.map_toArray, List.map_cons, List.map_nil]); first | done | rfl | (simp only [List.length_drop, List.length_take]; rfl)) ?_; (with_reducible refine (fringelaw26_of.calls 1 0 1 t231 t232 t233 _ A1.out).mono ?_); rintro e w13 ⟨rfl, hb⟩; refine ⟨_, rfl, ?_⟩; have n0_ := Aside0.mk (below_step (by repeat (first | (with_reducible first | exact HB.out | apply below_alloc | apply pw_below_drewN | apply below_drew1) | exact HB.out)) hb); clear HB; have HB := n0_; clear n0_; (try clear hb); (try clear hb2); (try clear hk); (try clear hi)) | ((with_reducible refine gate_callee (f := 28) rfl ?_); refine goesL_ (some 8) rfl rfl Try.func28 (by kernel_rfl) rfl #[.int .i64 0, .int .i64 1, .int .i64 1] rfl (by (try simp only [List.map_toArray, List.map_cons, List.map_nil]); first | done | rfl | (simp only [List.length_drop, List.length_take]; rfl)) ?_; (with_reducible refine (fringelaw26_of.calls 0 1 1 t234 t235 t236 _ A2.out).mono ?_); rintro e w14 ⟨rfl, hb⟩; refine ⟨_, rfl, ?_⟩; have n0_ := Aside0.mk (below_step (by repeat (first | (with_reducible first | exact HB.out | apply below_alloc | apply pw_below_drewN | apply below_drew1) | exact HB.out)) hb); clear HB; have HB := n0_; clear n0_; (try clear hb); (try clear hb2); (try clear hk); (try clear hi)) | ((with_reducible refine gate_dst (N := 9) rfl ?_); (try (refine gate_guard (by rfl) ?_; dsimp only)); refine Kd.R_lit k36 _ 36 ?hg (N := 9) ?hd (xs := ([(⟨t231, t232, t233⟩ : S36), (⟨t234, t235, t236⟩ : S36)] : List (S36))) (inner := [.int .i64 t231, .int .i64 t232, .int .i64 t233, .int .i64 t234, .int .i64 t235, .int .i64 t236]) (ok := fun _ => True) (okp := fun _ => True) ?hr ?hp (fun _ hk => hk) trivial (Below.refl _ _) (Nat.le_refl _) (by simp) ?_; (case hd => rfl); (case hg => rfl); (case hr => first | (go_simp; done) | (go_simp; rfl)); (case hp => exact (Reps.c3 (show Kd.M k36 _ _ _ (⟨t231, t232, t233⟩ : S36) [.int .i64 t231, .int .i64 t232, .int .i64 t233] from (k36_mkM _ _ _ (⟨t231, t232, t233⟩ : S36) )) (Reps.c3 (show Kd.M k36 _ _ _ (⟨t234, t235, t236⟩ : S36) [.int .i64 t234, .int .i64 t235, .int .i64 t236] from (k36_mkM _ _ _ (⟨t234, t235, t236⟩ : S36) )) (Reps.none _ _)))); intro v238 w15 ho16 hb hg_ hnew_; clear hg_ hnew_; (first | rw [← Ny237.out] at ho16 | (simp only [Int.reduceToNat] at ho16; rw [← Ny237.out] at ho16)); have n0_ := Aside0.mk (Kd.R_lower ho16 (below_size (by repeat (first | (with_reducible first | exact HB.out | apply below_alloc | apply pw_below_drewN | apply below_drew1) | exact HB.out)))); have n1_ := Aside0.mk (below_step (by repeat (first | (with_reducible first | exact HB.out | apply below_alloc | apply pw_below_drewN | apply below_drew1) | exact HB.out)) hb); clear HB; have HO239 := n0_; have HB := n1_; clear n0_ n1_; clear hb ho16) | ((with_reducible refine gate_callee (f := 28) rfl ?_); refine goesL_ (some 10) rfl rfl Try.func28 (by kernel_rfl) rfl #[.int .i64 0, .int .i64 1, .int .i64 1] rfl (by (try simp only [List.map_toArray, List.map_cons, List.map_nil]); first | done | rfl | (simp only [List.length_drop, List.length_take]; rfl)) ?_; (with_reducible refine (fringelaw26_of.calls 0 1 1 t240 t241 t242 _ A3.out).mono ?_); rintro e w17 ⟨rfl, hb⟩; refine ⟨_, rfl, ?_⟩; have n0_ := Aside0.mk (Kd.R_below (by (with_reducible repeat (first | apply Kd.R_alloc | apply Kd.R_drewN | apply Kd.R_drew)); exact HO239.out) hb); have n1_ := Aside0.mk (below_step (by repeat (first | (with_reducible first | exact HB.out | apply below_alloc | apply pw_below_drewN | apply below_drew1) | exact HB.out)) hb); clear HO239; clear HB; have HO239 := n0_; have HB := n1_; clear n0_ n1_; (try clear hb); (try clear hb2); (try clear hk); (try clear hi)) | ((with_reducible refine gate_callee (f := 28) rfl ?_); refine goesL_ (some 11) rfl rfl Try.func28 (by kernel_rfl) rfl #[.int .i64 (-1), .int .i64 0, .int .i64 1] rfl (by (try simp only [List.map_toArray, List.map_cons, List.map_nil]); first | done | rfl | (simp only [List.length_drop, List.length_take]; rfl)) ?_; (with_reducible refine (fringelaw26_of.calls (-1) 0 1 t243 t244 t245 _ A4.out).mono ?_); rintro e w18 ⟨rfl, hb⟩; refine ⟨_, rfl, ?_⟩; have n0_ := Aside0.mk (Kd.R_below (by (with_reducible repeat (first | apply Kd.R_alloc | apply Kd.R_drewN | apply Kd.R_drew)); exact HO239.out) hb); have n1_ := Aside0.mk (below_step (by repeat (first | (with_reducible first | exact HB.out | apply below_alloc | apply pw_below_drewN | apply below_drew1) | exact HB.out)) hb); clear HO239; clear HB; have HO239 := n0_; have HB := n1_; clear n0_ n1_; (try clear hb); (try clear hb2); (try clear hk); (try clear hi)) | ((with_reducible refine gate_dst (N := 12) rfl ?_); (try (refine gate_guard (by rfl) ?_; dsimp only)); refine Kd.R_lit k36 _ 36 ?hg (N := 12) ?hd (xs := ([(⟨t240, t241, t242⟩ : S36), (⟨t243, t244, t245⟩ : S36)] : List (S36))) (inner := [.int .i64 t240, .int .i64 t241, .int .i64 t242, .int .i64 t243, .int .i64 t244, .int .i64 t245]) (ok := fun _ => True) (okp := fun _ => True) ?hr ?hp (fun _ hk => hk) trivial (Below.refl _ _) (Nat.le_refl _) (by simp) ?_; (case hd => rfl); (case hg => rfl); (case hr => first | (go_simp; done) | (go_simp; rfl)); (case hp => exact (Reps.c3 (show Kd.M k36 _ _ _ (⟨t240, t241, t242⟩ : S36) [.int .i64 t240, .int .i64 t241, .int .i64 t242] from (k36_mkM _ _ _ (⟨t240, t241, t242⟩ : S36) )) (Reps.c3 (show Kd.M k36 _ _ _ (⟨t243, t244, t245⟩ : S36) [.int .i64 t243, .int .i64 t244, .int .i64 t245] from (k36_mkM _ _ _ (⟨t243, t244, t245⟩ : S36) )) (Reps.none _ _)))); intro v247 w19 ho20 hb hg_ hnew_; clear hg_ hnew_; (first | rw [← Ny246.out] at ho20 | (simp only [Int.reduceToNat] at ho20; rw [← Ny246.out] at ho20)); have n0_ := Aside0.mk (Kd.R_elder' (by (with_reducible repeat (first | apply Kd.R_alloc | apply Kd.R_drewN | apply Kd.R_drew)); exact HO239.out) (Kd.R_base ho20) hb); have n1_ := Aside0.mk (Kd.R_lower (Kd.R_new' ho20 (Kd.R_lt (by (with_reducible repeat (first | apply Kd.R_alloc | apply Kd.R_drewN | apply Kd.R_drew)); exact HO239.out))) (below_size (by repeat (first | (with_reducible first | exact HB.out | apply below_alloc | apply pw_below_drewN | apply below_drew1) | exact HB.out)))); have n2_ := Aside0.mk (below_step (by repeat (first | (with_reducible first | exact HB.out | apply below_alloc | apply pw_below_drewN | apply below_drew1) | exact HB.out)) hb); clear HO239; clear HB; have HO239 := n0_; have HO248 := n1_; have HB := n2_; clear n0_ n1_ n2_; clear hb ho20) | ((with_reducible refine gate_callee (f := 28) rfl ?_); refine goesL_ (some 15) rfl rfl Try.func28 (by kernel_rfl) rfl #[.int .i64 2, .int .i64 0, .int .i64 1] rfl (by (try simp only [List.map_toArray, List.map_cons, List.map_nil]); first | done | rfl | (simp only [List.length_drop, List.length_take]; rfl)) ?_; (with_reducible refine (fringelaw26_of.calls 2 0 1 t249 t250 t251 _ A5.out).mono ?_); rintro e w21 ⟨rfl, hb⟩; refine ⟨_, rfl, ?_⟩; have n0_ := Aside0.mk (Kd.R_below (by (with_reducible repeat (first | apply Kd.R_alloc | apply Kd.R_drewN | apply Kd.R_drew)); exact HO239.out) hb); have n1_ := Aside0.mk (Kd.R_below (by (with_reducible repeat (first | apply Kd.R_alloc | apply Kd.R_drewN | apply Kd.R_drew)); exact HO248.out) hb); have n2_ := Aside0.mk (below_step (by repeat (first | (with_reducible first | exact HB.out | apply below_alloc | apply pw_below_drewN | apply below_drew1) | exact HB.out)) hb); clear HO239; clear HO248; clear HB; have HO239 := n0_; have HO248 := n1_; have HB := n2_; clear n0_ n1_ n2_; (try clear hb); (try clear hb2); (try clear hk); (try clear hi)) | ((with_reducible refine gate_dst (N := 17) rfl ?_); (try (refine gate_guard (by rfl) ?_; dsimp only)); refine Kd.R_lit k38 _ 38 ?hg (N := 17) ?hd (xs := ([(⟨0, 1, (⟨t249, t250, t251⟩ : S36), 5⟩ : S38)] : List (S38))) (inner := [.int .i64 0, .int .i64 1, .int .i64 t249, .int .i64 t250, .int .i64 t251, .int .i64 5]) (ok := fun _ => True) (okp := fun _ => True) ?hr ?hp (fun _ hk => hk) trivial (Below.refl _ _) (Nat.le_refl _) (by simp) ?_; (case hd => rfl); (case hg => rfl); (case hr => first | (go_simp; done) | (go_simp; rfl)); (case hp => exact (Reps.c6 (show Kd.M k38 _ _ _ (⟨0, 1, (⟨t249, t250, t251⟩ : S36), 5⟩ : S38) [.int .i64 0, .int .i64 1, .int .i64 t249, .int .i64 t250, .int .i64 t251, .int .i64 5] from (k38_mkM _ _ _ (⟨0, 1, (⟨t249, t250, t251⟩ : S36), 5⟩ : S38) )) (Reps.none _ _))); intro v253 w22 ho23 hb hg_ hnew_; clear hg_ hnew_; (first | rw [← Ny252.out] at ho23 | (simp only [Int.reduceToNat] at ho23; rw [← Ny252.out] at ho23)); have n0_ := Aside0.mk (Kd.R_below (by (with_reducible repeat (first | apply Kd.R_alloc | apply Kd.R_drewN | apply Kd.R_drew)); exact HO239.out) hb); have n1_ := Aside0.mk (Kd.R_below (by (with_reducible repeat (first | apply Kd.R_alloc | apply Kd.R_drewN | apply Kd.R_drew)); exact HO248.out) hb); have n2_ := Aside0.mk (Kd.R_lower ho23 (below_size (by repeat (first | (with_reducible first | exact HB.out | apply below_alloc | apply pw_below_drewN | apply below_drew1) | exact HB.out)))); have n3_ := Aside0.mk (below_step (by repeat (first | (with_reducible first | exact HB.out | apply below_alloc | apply pw_below_drewN | apply below_drew1) | exact HB.out)) hb); clear HO239; clear HO248; clear HB; have HO239 := n0_; have HO248 := n1_; have HO254 := n2_; have HB := n3_; clear n0_ n1_ n2_ n3_; clear hb ho23; obtain ⟨Ao24, co24, eo24⟩ := Kd.R_slice HO239.out; subst eo24; obtain ⟨Ao25, co25, eo25⟩ := Kd.R_slice HO254.out; subst eo25) | ((with_reducible refine gate_callee (f := 9) rfl ?_); refine goesL_ (some 18) rfl rfl Try.func9 (by kernel_rfl) rfl #[.slice Ao24 y237.length co24, .slice Ao25 y252.length co25] rfl (by (try simp only [List.map_toArray, List.map_cons, List.map_nil]); first | done | rfl | (simp only [List.length_drop, List.length_take]; rfl)) ?_; (with_reducible refine (gain_Act.calls k _ _ y237 _ _ y252 t255 t256 _ ?side1 ?side2 ?side3 ?side4 A6.out).mono ?_); (case side1 => repeat (first | exact (Kd.R_reads' HO239.out).2.2 | (with_reducible refine Kd.C_alloc ?_ _) | (with_reducible refine Kd.C_drewN ?_ _) | (with_reducible refine Kd.C_drew ?_))); (case side2 => exact (Kd.R_reads' HO239.out).2.1); (case side3 => repeat (first | exact (Kd.R_reads' HO254.out).2.2 | (with_reducible refine Kd.C_alloc ?_ _) | (with_reducible refine Kd.C_drewN ?_ _) | (with_reducible refine Kd.C_drew ?_))); (case side4 => exact (Kd.R_reads' HO254.out).2.1); rintro e w26 ⟨v257, rfl, ho0, hb⟩; refine ⟨_, rfl, ?_⟩; have n0_ := Aside0.mk (Kd.R_below (by (with_reducible repeat (first | apply Kd.R_alloc | apply Kd.R_drewN | apply Kd.R_drew)); exact HO239.out) hb); have n1_ := Aside0.mk (Kd.R_below (by (with_reducible repeat (first | apply Kd.R_alloc | apply Kd.R_drewN | apply Kd.R_drew)); exact HO248.out) hb); have n2_ := Aside0.mk (Kd.R_elder' (by (with_reducible repeat (first | apply Kd.R_alloc | apply Kd.R_drewN | apply Kd.R_drew)); exact HO254.out) (Kd.R_base ho0) hb); have n3_ := Aside0.mk (Kd.R_lower (Kd.R_new' ho0 (Kd.R_lt (by (with_reducible repeat (first | apply Kd.R_alloc | apply Kd.R_drewN | apply Kd.R_drew)); exact HO254.out))) (below_size (by repeat (first | (with_reducible first | exact HB.out | apply below_alloc | apply pw_below_drewN | apply below_drew1) | exact HB.out)))); have n4_ := Aside0.mk (below_step (by repeat (first | (with_reducible first | exact HB.out | apply below_alloc | apply pw_below_drewN | apply below_drew1) | exact HB.out)) hb); clear HO239; clear HO248; clear HO254; clear HB; have HO239 := n0_; have HO248 := n1_; have HO254 := n2_; have HO258 := n3_; have HB := n4_; clear n0_ n1_ n2_ n3_ n4_; (try clear hb); (try clear hb2); (try clear hk); (try clear hi); (try clear ho0); obtain ⟨Ao27, co27, eo27⟩ := Kd.R_slice HO248.out; subst eo27) | ((with_reducible refine gate_callee (f := 20) rfl ?_); refine goesL_ (some 24) rfl rfl Try.func20 (by kernel_rfl) rfl #[.slice Ao24 y237.length co24, .slice Ao27 y246.length co27] rfl (by (try simp only [List.map_toArray, List.map_cons, List.map_nil]); first | done | rfl | (simp only [List.length_drop, List.length_take]; rfl)) ?_; (with_reducible refine (gain_Alike.calls k _ _ y237 _ _ y246 t259 t260 _ ?side1 ?side2 ?side3 ?side4 A7.out).mono ?_); (case side1 => repeat (first | exact (Kd.R_reads' HO239.out).2.2 | (with_reducible refine Kd.C_alloc ?_ _) | (with_reducible refine Kd.C_drewN ?_ _) | (with_reducible refine Kd.C_drew ?_))); (case side2 => exact (Kd.R_reads' HO239.out).2.1); (case side3 => repeat (first | exact (Kd.R_reads' HO248.out).2.2 | (with_reducible refine Kd.C_alloc ?_ _) | (with_reducible refine Kd.C_drewN ?_ _) | (with_reducible refine Kd.C_drew ?_))); (case side4 => exact (Kd.R_reads' HO248.out).2.1); rintro e w28 ⟨rfl, hb⟩; refine ⟨_, rfl, ?_⟩; have n0_ := Aside0.mk (Kd.R_below (by (with_reducible repeat (first | apply Kd.R_alloc | apply Kd.R_drewN | apply Kd.R_drew)); exact HO239.out) hb); have n1_ := Aside0.mk (Kd.R_below (by (with_reducible repeat (first | apply Kd.R_alloc | apply Kd.R_drewN | apply Kd.R_drew)); exact HO248.out) hb); have n2_ := Aside0.mk (Kd.R_below (by (with_reducible repeat (first | apply Kd.R_alloc | apply Kd.R_drewN | apply Kd.R_drew)); exact HO254.out) hb); have n3_ := Aside0.mk (Kd.R_below (by (with_reducible repeat (first | apply Kd.R_alloc | apply Kd.R_drewN | apply Kd.R_drew)); exact HO258.out) hb); have n4_ := Aside0.mk (below_step (by repeat (first | (with_reducible first | exact HB.out | apply below_alloc | apply pw_below_drewN | apply below_drew1) | exact HB.out)) hb); clear HO239; clear HO248; clear HO254; clear HO258; clear HB; have HO239 := n0_; have HO248 := n1_; have HO254 := n2_; have HO258 := n3_; have HB := n4_; clear n0_ n1_ n2_ n3_ n4_; (try clear hb); (try clear hb2); (try clear hk); (try clear hi)) | (go_at_call 28; (with_reducible refine (fringelaw26_of.calls 0 (-2) 1 t261 t262 t263 _ A9.out).mono ?_); rintro e w29 ⟨rfl, hb⟩; have n0_ := Aside0.mk (Kd.R_below (by (with_reducible repeat (first | apply Kd.R_alloc | apply Kd.R_drewN | apply Kd.R_drew)); exact HO239.out) hb); have n1_ := Aside0.mk (Kd.R_below (by (with_reducible repeat (first | apply Kd.R_alloc | apply Kd.R_drewN | apply Kd.R_drew)); exact HO248.out) hb); have n2_ := Aside0.mk (Kd.R_below (by (with_reducible repeat (first | apply Kd.R_alloc | apply Kd.R_drewN | apply Kd.R_drew)); exact HO254.out) hb); have n3_ := Aside0.mk (Kd.R_below (by (with_reducible repeat (first | apply Kd.R_alloc | apply Kd.R_drewN | apply Kd.R_drew)); exact HO258.out) hb); have n4_ := Aside0.mk (below_step (by repeat (first | (with_reducible first | exact HB.out | apply below_alloc | apply pw_below_drewN | apply below_drew1) | exact HB.out)) hb); clear HO239; clear HO248; clear HO254; clear HO258; clear HB; have HO239 := n0_; have HO248 := n1_; have HO254 := n2_; have HO258 := n3_; have HB := n4_; clear n0_ n1_ n2_ n3_ n4_; (try clear hb); (try clear hb2); (try clear hk); (try clear hi)) | ((with_reducible refine gate_dst (N := 33) rfl ?_); (try (refine gate_guard (by rfl) ?_; dsimp only)); refine Kd.R_lit k38 _ 38 ?hg (N := 33) ?hd (xs := ([(⟨0, 1, (⟨t261, t262, t263⟩ : S36), 5⟩ : S38)] : List (S38))) (inner := [.int .i64 0, .int .i64 1, .int .i64 t261, .int .i64 t262, .int .i64 t263, .int .i64 5]) (ok := fun _ => True) (okp := fun _ => True) ?hr ?hp (fun _ hk => hk) trivial (Below.refl _ _) (Nat.le_refl _) (by simp) ?_; (case hd => rfl); (case hg => rfl); (case hr => first | (go_simp; done) | (go_simp; rfl)); (case hp => exact (Reps.c6 (show Kd.M k38 _ _ _ (⟨0, 1, (⟨t261, t262, t263⟩ : S36), 5⟩ : S38) [.int .i64 0, .int .i64 1, .int .i64 t261, .int .i64 t262, .int .i64 t263, .int .i64 5] from (k38_mkM _ _ _ (⟨0, 1, (⟨t261, t262, t263⟩ : S36), 5⟩ : S38) )) (Reps.none _ _))); intro v265 w30 ho31 hb hg_ hnew_; clear hg_ hnew_; (first | rw [← Ny264.out] at ho31 | (simp only [Int.reduceToNat] at ho31; rw [← Ny264.out] at ho31)); have n0_ := Aside0.mk (Kd.R_below (by (with_reducible repeat (first | apply Kd.R_alloc | apply Kd.R_drewN | apply Kd.R_drew)); exact HO239.out) hb); have n1_ := Aside0.mk (Kd.R_below (by (with_reducible repeat (first | apply Kd.R_alloc | apply Kd.R_drewN | apply Kd.R_drew)); exact HO248.out) hb); have n2_ := Aside0.mk (Kd.R_elder' (by (with_reducible repeat (first | apply Kd.R_alloc | apply Kd.R_drewN | apply Kd.R_drew)); exact HO254.out) (Kd.R_base ho31) hb); have n3_ := Aside0.mk (Kd.R_elder' (by (with_reducible repeat (first | apply Kd.R_alloc | apply Kd.R_drewN | apply Kd.R_drew)); exact HO258.out) (Kd.R_base ho31) hb); have n4_ := Aside0.mk (Kd.R_lower (Kd.R_new' (Kd.R_new' ho31 (Kd.R_lt (by (with_reducible repeat (first | apply Kd.R_alloc | apply Kd.R_drewN | apply Kd.R_drew)); exact HO254.out))) (Kd.R_lt (by (with_reducible repeat (first | apply Kd.R_alloc | apply Kd.R_drewN | apply Kd.R_drew)); exact HO258.out))) (below_size (by repeat (first | (with_reducible first | exact HB.out | apply below_alloc | apply pw_below_drewN | apply below_drew1) | exact HB.out)))); have n5_ := Aside0.mk (below_step (by repeat (first | (with_reducible first | exact HB.out | apply below_alloc | apply pw_below_drewN | apply below_drew1) | exact HB.out)) hb); clear HO239; clear HO248; clear HO254; clear HO258; clear HB; have HO239 := n0_; have HO248 := n1_; have HO254 := n2_; have HO258 := n3_; have HO266 := n4_; have HB := n5_; clear n0_ n1_ n2_ n3_ n4_ n5_; clear hb ho31; obtain ⟨Ao32, co32, eo32⟩ := Kd.R_slice HO258.out; subst eo32; obtain ⟨Ao33, co33, eo33⟩ := Kd.R_slice HO266.out; subst eo33) | (go_at_call 13; (with_reducible refine (fringeref26_Same.calls k _ _ t255 _ _ y264 true _ ?side1 ?side2 ?side3 ?side4 A10.out).mono ?_); (case side1 => repeat (first | exact (Kd.R_reads' HO258.out).2.2 | (with_reducible refine Kd.C_alloc ?_ _) | (with_reducible refine Kd.C_drewN ?_ _) | (with_reducible refine Kd.C_drew ?_))); (case side2 => exact (Kd.R_reads' HO258.out).2.1); (case side3 => repeat (first | exact (Kd.R_reads' HO266.out).2.2 | (with_reducible refine Kd.C_alloc ?_ _) | (with_reducible refine Kd.C_drewN ?_ _) | (with_reducible refine Kd.C_drew ?_))); (case side4 => exact (Kd.R_reads' HO266.out).2.1); rintro e w' ⟨rfl, ⟨nd, rfl⟩⟩))
    go_ret
    exact ⟨by first | rfl | (rw [hend.out]; done) | (simp only [hend.out]; done) | (simp [*]; first | exact hend.out | exact eq_of_beq hend.out | exact of_decide_eq_true hend.out) | (have h_ := hend.out; simp_all; done) | (simp [*, errW_none, errW_some] <;> rfl), by repeat (first | (with_reducible first | exact HB.out | apply below_alloc | apply pw_below_drewN | apply below_drew1) | exact HB.out)⟩
   ·rw [if_neg c12] at H
    have c12b0 : (t260 == 0) = false := beq_eq_false_iff_ne.mpr c12
    have c12b1 : (t260 != 0) = true := bne_iff_ne.mpr c12
    exact absurd H (by simp)
  ·replace c11 := Bool.eq_false_iff.mpr c11
   subst c11
   rw [if_neg (show ¬ (false = true) by decide)] at H
   exact absurd H (by simp)
 ·rw [if_neg c8] at H
  have c8b0 : (t256 == 0) = false := beq_eq_false_iff_ne.mpr c8
  have c8b1 : (t256 != 0) = true := bne_iff_ne.mpr c8
  exact absurd H (by simp)

theorem fringelaw26_alive.only {k : Nat} {r : Bool} (h : fringelaw26_alive.f k  = some r) : r = true := at_only fringelaw26_alive.mono (K := 120) (by kernel_rfl) h
theorem fringelaw26_alive.calls (k : Nat)  (r : Bool) (w : World) (h : fringelaw26_alive.f k  = some r) :
  Calls Try.prog 14 #[] w fun e w' => e = .returned (.bool r) ∧ Below w.heap.size w w' := by
 have hr := fringelaw26_alive.only h
 subst hr
 exact fringelaw26_alive.callsT k w h

end Go.Proofs.Ytnlaklkneaaakaa.Q
