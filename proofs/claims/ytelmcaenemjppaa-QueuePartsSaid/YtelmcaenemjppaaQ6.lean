-- Written by qprint.py (a program of this session) over the program of the kit that prints contracts. Not trusted: Lean checks it.
import Derived.Test.YtelmcaenemjppaaQ0
import Derived.Test.YtelmcaenemjppaaQ4
import Derived.Test.YtelmcaenemjppaaQ5
namespace Go.Proofs.Ytelmcaenemjppaa.Q
open Go.RowKit Go.Proofs.YtelmcaenemjppaaW.PrintWords Go.Proofs.YtelmcaenemjppaaW.PrintLast Go.Proofs.YtelmcaenemjppaaW.PrintMore
attribute [local go_sem] max2_int min2_int max_two min_two max_three min_three max_four min_four   -- for this text's walks alone
set_option linter.unusedVariables false
set_option linter.unusedSimpArgs false

/-! ### queue_turn: function 71 (by hand) -/
def queue_turn.sooner (l : List S42) (at_ : Int) (x : S42) : Bool := decide (at_ < 0) || decide (wrap64 ((wrap64 (x.f2 + 1)) * (rd_T42 l at_).f1) < wrap64 ((wrap64 ((rd_T42 l at_).f2 + 1)) * x.f1))
def queue_turn.go (l : List S42) : List S42 → Int → Int → Int
 | [], _, a => a
 | x :: t, i, a => queue_turn.go l t (i + 1) (if decide (x.f3 > 0) && queue_turn.sooner l a x then i else a)
def queue_turn.f (l0_0 : List S42) (a0_1 : Int) (a0_2 : Int) : Option Int := if l0_0.length < 9223372036854775807 then some (queue_turn.go l0_0 l0_0 0 (-1)) else none
set_option maxHeartbeats 8000000 in
set_option maxRecDepth 100000 in
theorem queue_turn.one (l : List S42) (A : Option Addr) (c B1 B0 : Nat) (at_ : Int) (x : S42) (W : World) (h1 : W.cell? ⟨B1, 0, none⟩ = some (.int .i64 at_)) (h0 : W.cell? ⟨B0, 0, none⟩ = some (.slice A l.length c)) (hr : Kd.C k42 W A l.length l)
  (hat : at_ < 0 ∨ (0 ≤ at_ ∧ at_ < l.length)) :
  Calls Try.prog 87 #[.agg #[.string x.f0, .int .i64 x.f1, .int .i64 x.f2, .int .i64 x.f3], .pointer (some ⟨B1, 0, none⟩), .pointer (some ⟨B0, 0, none⟩)] W fun e w' => e = .returned (.bool (queue_turn.sooner l at_ x)) ∧ Below W.heap.size W w' := by
 have hB1 : B1 < W.heap.size := World.block_lt_of_cell? W _ h1
 have hB0 : B0 < W.heap.size := World.block_lt_of_cell? W _ h0
 have hn1 : B1 ≠ W.heap.size := by omega
 have hn0 : B0 ≠ W.heap.size := by omega
 have HB := Aside0.mk (show Below W.heap.size W (W.alloc (.cells #[.string x.f0, .int .i64 x.f1, .int .i64 x.f2, .int .i64 x.f3] 42)) from (Below.refl _ W).alloc (Nat.le_refl _) _)
 have g1 : (W.alloc (.cells #[.string x.f0, .int .i64 x.f1, .int .i64 x.f2, .int .i64 x.f3] 42)).cell? ⟨B1, 0, none⟩ = some (.int .i64 at_) := (HB.out.cell (p := ⟨B1, 0, none⟩) hB1).trans h1
 have g0 : (W.alloc (.cells #[.string x.f0, .int .i64 x.f1, .int .i64 x.f2, .int .i64 x.f3] 42)).cell? ⟨B0, 0, none⟩ = some (.slice A l.length c) := (HB.out.cell (p := ⟨B0, 0, none⟩) hB0).trans h0
 by_cases ha : at_ < 0
 ·have f1 : decide (at_ < 0) = true := decide_eq_true ha
  have HS := Aside0.mk (show queue_turn.sooner l at_ x = true by unfold queue_turn.sooner; rw [f1, Bool.true_or])
  clear hr hat h1 h0
  go_enter Try.func87, Try.ntmps87
  go_wp2_with (go_quiet (fail))
  all_goals (go_ret; exact ⟨by rw [HS.out]; rfl, by repeat (first | exact HB.out | apply pw_below_drewN | apply below_drew1)⟩)
 ·have f1 : decide (at_ < 0) = false := decide_eq_false ha
  have p1 : 0 ≤ at_ := by omega
  have q1 : at_ < (l.length : Int) := by omega
  obtain ⟨ad, e1, hx0, hx1, hx2, hx3⟩ := at_T42 hr at_ p1 q1
  cases e1
  replace hx1 := (HB.out.cell (World.block_lt_of_cell? W _ hx1)).trans hx1
  replace hx2 := (HB.out.cell (World.block_lt_of_cell? W _ hx2)).trans hx2
  clear hx0 hx3
  replace p1 := eq_true p1
  replace q1 := eq_true q1
  generalize hres : queue_turn.sooner l at_ x = res
  have HS := Aside0.mk (show decide (wrap64 ((wrap64 (x.f2 + 1)) * (rd_T42 l at_).f1) < wrap64 ((wrap64 ((rd_T42 l at_).f2 + 1)) * x.f1)) = res by rw [← hres]; unfold queue_turn.sooner; rw [f1, Bool.false_or])
  generalize rd_T42 l at_ = y at hx1 hx2 HS
  clear hr hat h1 h0 hres ha
  go_enter Try.func87, Try.ntmps87
  go_wp2_with (go_quiet (fail))
  all_goals (go_ret; exact ⟨by rw [← HS.out]; rfl, by repeat (first | exact HB.out | apply pw_below_drewN | apply below_drew1)⟩)
set_option maxHeartbeats 8000000 in
set_option maxRecDepth 100000 in
theorem queue_turn.calls (A0_0 : Option Addr) (c0_0 : Nat) (l0_0 : List (S42)) (a0_1 : Int) (a0_2 : Int) (r : Int) (w : World) (hr0_0 : Kd.C k42 w A0_0 l0_0.length l0_0) (hc0_0 : l0_0.length ≤ c0_0) (h : queue_turn.f l0_0 a0_1 a0_2 = some r) :
  Calls Try.prog 71 #[.agg #[.slice A0_0 l0_0.length c0_0, .int .i64 a0_1, .int .i64 a0_2]] w fun e w' => e = .returned (.int .i64 r) ∧ Below w.heap.size w w' := by
 have hmax : l0_0.length < 9223372036854775807 := by
  unfold queue_turn.f at h
  split at h
  ·assumption
  ·cases h
 unfold queue_turn.f at h
 rw [if_pos hmax] at h
 have HRES := Aside0.mk (Option.some.inj h)
 have HM := Aside0.mk hmax
 have HR0 := Aside0.mk hr0_0
 clear h hmax hr0_0 hc0_0
 go_enter Try.func71, Try.ntmps71
 go_wp2
 go_loopg [11] l0_0.length (fun gk v11 w' => ∃ i : Nat, i ≤ l0_0.length ∧ l0_0.length - i ≤ gk ∧ v11 = .int .i64 i ∧ (∃ at_ : Int, (at_ < 0 ∨ (0 ≤ at_ ∧ at_ < l0_0.length)) ∧ Aside0 (w'.heap[w.heap.size + 1]? = some (.cells #[.int .i64 at_] 3 (0, 0))) ∧ Aside0 (queue_turn.go l0_0 (l0_0.drop i) i at_ = r)) ∧ Aside0 (w'.heap[w.heap.size]? = some (.cells #[.slice A0_0 l0_0.length c0_0, .int .i64 a0_1, .int .i64 a0_2] 24 (0, 0))) ∧ Aside0 (Below w.heap.size w w'))
 case atStart =>
  refine ⟨0, Nat.zero_le _, Nat.le_refl _, rfl, ⟨-1, Or.inl (by omega), ⟨?_⟩, HRES⟩, ⟨blk_alloc (blk_new w _) _⟩, ⟨?_⟩⟩
  ·have := blk_new (w.alloc (.cells #[.slice A0_0 l0_0.length c0_0, .int .i64 a0_1, .int .i64 a0_2] 24)) (.cells #[.int .i64 (-1)] 3)
   simpa using this
  ·repeat (first | exact Below.refl _ _ | apply below_alloc)
 case round =>
  clear HRES
  obtain ⟨i, hi, hg, rfl, ⟨at_, hat, BK1, HA⟩, BK0, HB⟩ := hrel
  have HAT := Aside0.mk hat
  have HI := Aside0.mk hi
  have HG := Aside0.mk hg
  clear hi hg hat
  by_cases c : i < l0_0.length
  ·have hdec : decide ((i : Int) < (l0_0.length : Int)) = true := decide_eq_true (by omega)
   have p1 : 0 ≤ (i : Int) := by omega
   have q1 : (i : Int) < (l0_0.length : Int) := by omega
   obtain ⟨ad, e1, hx0, hx1, hx2, hx3⟩ := at_T42 HR0.out i p1 q1
   have HAD := Aside0.mk e1
   replace hx0 := (HB.out.cell (World.block_lt_of_cell? w _ hx0)).trans hx0
   replace hx1 := (HB.out.cell (World.block_lt_of_cell? w _ hx1)).trans hx1
   replace hx2 := (HB.out.cell (World.block_lt_of_cell? w _ hx2)).trans hx2
   replace hx3 := (HB.out.cell (World.block_lt_of_cell? w _ hx3)).trans hx3
   simp only [Int.toNat_natCast] at hx0 hx1 hx2 hx3
   replace p1 := eq_true p1
   replace q1 := eq_true q1
   subst e1
   have HC := Aside0.mk c
   clear c HAD
   have HE : Aside0 (rd_T42 l0_0 (i : Int) = l0_0.getD i z42) := ⟨rfl⟩
   generalize rd_T42 l0_0 (i : Int) = x at hx0 hx1 hx2 hx3 HE
   have hstep : queue_turn.go l0_0 (l0_0.drop (i + 1)) ((i + 1 : Nat) : Int) (if decide (x.f3 > 0) && queue_turn.sooner l0_0 at_ x then (i : Int) else at_) = r := by
    have hlt := HC.out
    have := HA.out
    rw [List.drop_eq_getElem_cons hlt, queue_turn.go] at this
    have e : l0_0[i] = x := by rw [HE.out, List.getD_eq_getElem?_getD, List.getElem?_eq_getElem hlt]; rfl
    rw [e] at this
    exact this
   have HST := Aside0.mk hstep
   clear hstep HA
   by_cases e1 : x.f3 > 0
   ·have f1 : decide (0 < x.f3) = true := decide_eq_true e1
    have hcall := queue_turn.one l0_0 (some ad) c0_0 (w.heap.size + 1) w.heap.size at_ x (wr.alloc (.cells #[.string x.f0, .int .i64 x.f1, .int .i64 x.f2, .int .i64 x.f3] 42)) ((blk_cell (blk_alloc BK1.out _) 0).trans rfl) ((blk_cell (blk_alloc BK0.out _) 0).trans rfl) (Kd.C_below HR0.out (HB.out.alloc HB.out.size _)) HAT.out
    have HB2 := Aside0.mk (HB.out.alloc HB.out.size (.cells #[.string x.f0, .int .i64 x.f1, .int .i64 x.f2, .int .i64 x.f3] 42))
    cases hso : queue_turn.sooner l0_0 at_ x with
    | true =>
     rw [hso] at hcall
     have HST2 := Aside0.mk (show queue_turn.go l0_0 (l0_0.drop (i + 1)) ((i + 1 : Nat) : Int) (i : Int) = r by have := HST.out; rw [decide_eq_true e1, hso, Bool.true_and, if_pos rfl] at this; exact this)
     clear hso e1 HST
     go_wp2_with (go_at_call 87; refine hcall.mono ?_; rintro e w2 ⟨rfl, hb'⟩; have NK1 := blk_below (blk_alloc BK1.out _) hb'; have NK0 := blk_below (blk_alloc BK0.out _) hb'; have hz1 := blk_frozen NK1 0; have hc1 := (blk_cell NK1 0).trans rfl; have NB1 := Aside0.mk NK1; have NB0 := Aside0.mk NK0; have HB3 := Aside0.mk (below_then HB2.out HB2.out.size hb'); clear NK1 NK0 hb' hcall)
     go_roundg (l0_0.length - (i + 1))
     case measure => have := HC.out; have := HG.out; omega
     case rel =>
      have hc0 := HC.out
      refine ⟨i + 1, by omega, by have := HG.out; omega, ?_, ⟨(i : Int), Or.inr ⟨by omega, by omega⟩, ⟨blk_put NB1.out 0 _ rfl⟩, HST2⟩, ⟨blk_far NB0.out (by simp) _⟩, ⟨by refine below_set HB3.out ?_; simp⟩⟩
      have e : wrap64 ((i : Int) + 1) = ((i + 1 : Nat) : Int) := by have := HM.out; unfold wrap64; omega
      first | rfl | (rw [← e]; rfl) | (simp [← e]; done) | (simp; omega)
    | false =>
     rw [hso] at hcall
     have HST2 := Aside0.mk (show queue_turn.go l0_0 (l0_0.drop (i + 1)) ((i + 1 : Nat) : Int) at_ = r by have := HST.out; rw [decide_eq_true e1, hso, Bool.true_and, if_neg (by simp)] at this; exact this)
     clear hso e1 HST
     go_wp2_with (go_at_call 87; refine hcall.mono ?_; rintro e w2 ⟨rfl, hb'⟩; have NB1 := Aside0.mk (blk_below (blk_alloc BK1.out _) hb'); have NB0 := Aside0.mk (blk_below (blk_alloc BK0.out _) hb'); have HB3 := Aside0.mk (below_then HB2.out HB2.out.size hb'); clear hb' hcall)
     go_roundg (l0_0.length - (i + 1))
     case measure => have := HC.out; have := HG.out; omega
     case rel =>
      have hc0 := HC.out
      refine ⟨i + 1, by omega, by have := HG.out; omega, ?_, ⟨at_, HAT.out, ⟨NB1.out⟩, HST2⟩, ⟨NB0.out⟩, ⟨HB3.out⟩⟩
      have e : wrap64 ((i : Int) + 1) = ((i + 1 : Nat) : Int) := by have := HM.out; unfold wrap64; omega
      first | rfl | (rw [← e]; rfl) | (simp [← e]; done) | (simp; omega)
   ·have f1 : decide (0 < x.f3) = false := decide_eq_false e1
    have HST2 := Aside0.mk (show queue_turn.go l0_0 (l0_0.drop (i + 1)) ((i + 1 : Nat) : Int) at_ = r by have := HST.out; rw [decide_eq_false e1, Bool.false_and, if_neg (by simp)] at this; exact this)
    clear e1 HST
    go_wp2
    go_roundg (l0_0.length - (i + 1))
    case measure => have := HC.out; have := HG.out; omega
    case rel =>
     have hc0 := HC.out
     refine ⟨i + 1, by omega, by have := HG.out; omega, ?_, ⟨at_, HAT.out, ⟨blk_alloc BK1.out _⟩, HST2⟩, ⟨blk_alloc BK0.out _⟩, ⟨HB.out.alloc HB.out.size _⟩⟩
     have e : wrap64 ((i : Int) + 1) = ((i + 1 : Nat) : Int) := by have := HM.out; unfold wrap64; omega
     first | rfl | (rw [← e]; rfl) | (simp [← e]; done) | (simp; omega)
  ·have hdec : decide ((i : Int) < (l0_0.length : Int)) = false := decide_eq_false (by omega)
   have hdec2 : decide (i < l0_0.length) = false := decide_eq_false c
   have HF := Aside0.mk (show at_ = r by have := HA.out; rw [List.drop_eq_nil_of_le (by omega), queue_turn.go] at this; exact this)
   have hc1 : wr.cell? ⟨w.heap.size + 1, 0, none⟩ = some (.int .i64 at_) := (blk_cell BK1.out 0).trans rfl
   clear c HA
   go_wp2
   go_ret
   exact ⟨by rw [HF.out]; rfl, HB.out⟩

/-! ### queue_Next: function 15 (by hand) -/
/-- What serving makes of a queue: which one, the error, and the queue behind it. -/
def queue_serve.f (l : List S42) (num den : Int) : Option (Int × Int × List S42 × Int × Int) :=
 (queue_turn.f l num den).bind fun i => if i < 0 then some (0, 6, l, num, den) else if i.toNat < l.length then (if (rd_T42 l i).f2 ≥ 1000000 then some (0, 16, l, num, den)
  else some (i, 0, l.set i.toNat ⟨(rd_T42 l i).f0, (rd_T42 l i).f1, wrap64 ((rd_T42 l i).f2 + 1), wrap64 ((rd_T42 l i).f3 - 1)⟩, wrap64 ((rd_T42 l i).f2 + 1), (rd_T42 l i).f1)) else none
set_option maxHeartbeats 8000000 in
set_option maxRecDepth 100000 in
theorem queue_serve.calls (B n c base : Nat) (A : Option Addr) (l : List S42) (num den : Int) (r1 r2 : Int) (l' : List S42) (num' den' : Int) (w : World) (hB : w.heap[B]? = some (.cells #[.slice A n c, .int .i64 num, .int .i64 den] 24 (0, 0)))
  (HO : Kd.R k42 42 w base (fun _ => True) (.slice A n c) l) (hb : base ≤ B) (h : queue_serve.f l num den = some (r1, r2, l', num', den')) :
  Calls Try.prog 51 #[.pointer (some ⟨B, 0, none⟩)] w fun e w' => e = .returned (.tuple #[.int .i64 r1, .int .i64 r2]) ∧ w'.heap[B]? = some (.cells #[.slice A n c, .int .i64 num', .int .i64 den'] 24 (0, 0)) ∧ Kd.R k42 42 w' base (fun _ => True) (.slice A n c) l' ∧ Below base w w' ∧ Kept w w' (fun k => k = B ∨ some k = (Value.slice A n c).ownBlock) := by
 obtain ⟨at_, hat, H⟩ := Option.bind_eq_some_iff.mp (show (queue_turn.f l num den).bind _ = _ from h)
 have HT := Aside0.mk hat
 have HBK := Aside0.mk hB
 have HO0 := Aside0.mk HO
 have hrd := Kd.R_reads' HO
 obtain ⟨hn, hnc, hC⟩ := hrd
 subst hn
 have HC := Aside0.mk hC
 have HNC := Aside0.mk hnc
 have hc0 := (blk_cell hB 0).trans rfl
 have hc1 := (blk_cell hB 1).trans rfl
 have hc2 := (blk_cell hB 2).trans rfl
 have hbs : base ≤ w.heap.size := Nat.le_of_lt (Nat.lt_of_le_of_lt hb (blk_lt hB))
 have HBS := Aside0.mk hbs
 have HBB := Aside0.mk hb
 clear h hat hB HO hC hnc hbs hb
 by_cases c1 : at_ < 0
 ·rw [if_pos c1] at H
  simp only [Option.some.injEq, Prod.mk.injEq] at H
  obtain ⟨rfl, rfl, rfl, rfl, rfl⟩ := H
  have f1 : decide (at_ < 0) = true := decide_eq_true c1
  clear c1
  go_enter Try.func51, Try.ntmps51
  go_wp2_with (go_at_call 71; refine (queue_turn.calls A c l num den at_ _ HC.out HNC.out HT.out).mono ?_; rintro e w1 ⟨rfl, hb1⟩; have HB1 := Aside0.mk hb1; clear hb1)
  go_ret2
  exact ⟨rfl, blk_below HBK.out HB1.out, Kd.R_below HO0.out HB1.out, HB1.out.mono HBS.out, Kept.of_below HB1.out _⟩
 ·rw [if_neg c1] at H
  have f1 : decide (at_ < 0) = false := decide_eq_false c1
  obtain ⟨a, rfl⟩ := Int.eq_ofNat_of_zero_le (show 0 ≤ at_ by omega)
  clear c1
  by_cases c2 : ((a : Int)).toNat < l.length
  ·rw [if_pos c2] at H
   have p1 : 0 ≤ (a : Int) := by omega
   have q1 : (a : Int) < (l.length : Int) := by omega
   have hne : l ≠ [] := by rintro rfl; simp at c2
   obtain ⟨g, hA, hgb⟩ : ∃ g, A = some ⟨g, 0, none⟩ ∧ base ≤ g := by
    obtain ⟨_, inner, ho, _⟩ := HO0.out
    rcases ho.2 with ⟨hv, _⟩ | ⟨g', cap', cur, hv, hb', _⟩
    ·injection hv with h1 h2 h3
     exact absurd (List.length_eq_zero_iff.1 h2) hne
    ·injection hv with h1 h2 h3
     exact ⟨g', h1, hb'⟩
   subst hA
   have hgB : g ≠ B := by
    have := Kd.R_ne HO0.out HBK.out (fun e => by cases e)
    rintro rfl
    exact this rfl
   have hrd : rd_T42 l (a : Int) = l.getD a z42 := rfl
   rw [hrd] at H
   generalize hx : l.getD a z42 = x at H
   have HX := Aside0.mk hx
   have HP := Aside0.mk p1
   have HQ := Aside0.mk q1
   have HGB := Aside0.mk hgb
   replace p1 := eq_true p1
   replace q1 := eq_true q1
   have hBg : B ≠ g := fun e => hgB e.symm
   clear hx hrd hne c2 hgb
   by_cases c3 : x.f2 ≥ 1000000
   ·rw [if_pos c3] at H
    simp only [Option.some.injEq, Prod.mk.injEq] at H
    obtain ⟨rfl, rfl, rfl, rfl, rfl⟩ := H
    have f2 : decide (1000000 ≤ x.f2) = true := decide_eq_true c3
    clear c3
    go_enter Try.func51, Try.ntmps51
    go_wp2_with (go_at_call 71; refine (queue_turn.calls (some ⟨g, 0, none⟩) c l num den a _ HC.out HNC.out HT.out).mono ?_; rintro e w1 ⟨rfl, hb1⟩; have HB1 := Aside0.mk hb1; have HO1 := Aside0.mk (Kd.R_below HO0.out hb1); have hk := blk_below HBK.out hb1; have hd0 := (blk_cell hk 0).trans rfl; have hd1 := (blk_cell hk 1).trans rfl; have hd2 := (blk_cell hk 2).trans rfl; obtain ⟨ce, hcl, hM, hcc, hfr⟩ := Kd.R_elem HO1.out z42 (a : Int) HP.out HQ.out; rw [show l.getD ((a : Int).toNat) z42 = x from HX.out] at hM; obtain rfl := k42_openM hM; have hx2 : w1.cell? ⟨g, a * 4 + 2, none⟩ = some (.int .i64 x.f2) := hcc 2 _ rfl; clear hcl hM hcc hfr hk hb1)
    go_ret2
    exact ⟨rfl, blk_below HBK.out HB1.out, HO1.out, HB1.out.mono HBS.out, Kept.of_below HB1.out _⟩
   ·rw [if_neg c3] at H
    simp only [Option.some.injEq, Prod.mk.injEq, Int.toNat_natCast] at H
    obtain ⟨rfl, rfl, rfl, rfl, rfl⟩ := H
    have f2 : decide (1000000 ≤ x.f2) = false := decide_eq_false c3
    clear c3
    go_enter Try.func51, Try.ntmps51
    go_wp2_with (go_at_call 71; refine (queue_turn.calls (some ⟨g, 0, none⟩) c l num den a _ HC.out HNC.out HT.out).mono ?_; rintro e w1 ⟨rfl, hb1⟩; have HB1 := Aside0.mk hb1; have HO1 := Aside0.mk (Kd.R_below HO0.out hb1); have hk := blk_below HBK.out hb1; have HK := Aside0.mk hk; have hd0 := (blk_cell hk 0).trans rfl; have hd1 := (blk_cell hk 1).trans rfl; have hd2 := (blk_cell hk 2).trans rfl; have hz1 := blk_frozen hk 1; have hz2 := blk_frozen hk 2; obtain ⟨ce, hcl, hM, hcc, hfr⟩ := Kd.R_elem HO1.out z42 (a : Int) HP.out HQ.out; rw [show l.getD ((a : Int).toNat) z42 = x from HX.out] at hM; obtain rfl := k42_openM hM; have hx1 : w1.cell? ⟨g, a * 4 + 1, none⟩ = some (.int .i64 x.f1) := hcc 1 _ rfl; have hx2 : w1.cell? ⟨g, a * 4 + 2, none⟩ = some (.int .i64 x.f2) := hcc 2 _ rfl; have hx3 : w1.cell? ⟨g, a * 4 + 3, none⟩ = some (.int .i64 x.f3) := hcc 3 _ rfl; have hf2 : w1.frozen? ⟨g, a * 4 + 2, none⟩ = false := hfr 2; have hf3 : w1.frozen? ⟨g, a * 4 + 3, none⟩ = false := hfr 3; clear hcl hM hcc hfr hk hb1)
    go_region
    go_wp2
    go_ret2
    obtain ⟨ce, hcl, hM, hcc, hfr⟩ := Kd.R_elem HO1.out z42 (a : Int) HP.out HQ.out
    rw [show l.getD ((a : Int).toNat) z42 = x from HX.out] at hM
    obtain rfl := k42_openM hM
    have s1 := (Kd.R_seg HO1.out (a : Int) HP.out HQ.out (seg := [.int .i64 (wrap64 (x.f3 - 1))]) (j := 3) hcl hcc (show 3 + 1 ≤ 4 by decide) (x' := (⟨x.f0, x.f1, x.f2, wrap64 (x.f3 - 1)⟩ : S42)) (k42_mkM _ _ _ (⟨x.f0, x.f1, x.f2, wrap64 (x.f3 - 1)⟩ : S42)) (fun _ hk => hk)).1
    clear hcl hcc hM hfr
    obtain ⟨ce, hcl, hM, hcc, hfr⟩ := Kd.R_elem s1 z42 (a : Int) HP.out HQ.out
    rw [show (l.set ((a : Int).toNat) (⟨x.f0, x.f1, x.f2, wrap64 (x.f3 - 1)⟩ : S42)).getD ((a : Int).toNat) z42 = ⟨x.f0, x.f1, x.f2, wrap64 (x.f3 - 1)⟩ by
     have := HQ.out; rw [List.getD_eq_getElem?_getD, List.getElem?_set_self (by omega)]; rfl] at hM
    obtain rfl := k42_openM hM
    have s2 := (Kd.R_seg s1 (a : Int) HP.out HQ.out (seg := [.int .i64 (wrap64 (x.f2 + 1))]) (j := 2) hcl hcc (show 2 + 1 ≤ 4 by decide) (x' := (⟨x.f0, x.f1, wrap64 (x.f2 + 1), wrap64 (x.f3 - 1)⟩ : S42)) (k42_mkM _ _ _ (⟨x.f0, x.f1, wrap64 (x.f2 + 1), wrap64 (x.f3 - 1)⟩ : S42)) (fun _ hk => hk)).1
    clear hcl hcc hM hfr s1
    rw [List.set_set] at s2
    have b2 := blk_far (blk_far HK.out (p := ⟨g, a * 4 + 3, none⟩) hBg (.int .i64 (wrap64 (x.f3 - 1)))) (p := ⟨g, a * 4 + 2, none⟩) hBg (.int .i64 (wrap64 (x.f2 + 1)))
    have b3 := blk_put b2 1 (.int .i64 (wrap64 (x.f2 + 1))) rfl
    have b4 := blk_put b3 2 (.int .i64 x.f1) rfl
    have s3 := Kd.R_set s2 b2 (by intro q hq; simp [k42, Kd.iso, Kd.pair, Kd.string, Kd.int, Kd.scalar] at hq; omega) 1 (.int .i64 (wrap64 (x.f2 + 1)))
    have s4 := Kd.R_set s3 b3 (by intro q hq; simp [k42, Kd.iso, Kd.pair, Kd.string, Kd.int, Kd.scalar] at hq; omega) 2 (.int .i64 x.f1)
    refine ⟨rfl, b4, Kd.R_drew s4, (((((HB1.out.mono HBS.out).setCell (p := ⟨g, a * 4 + 3, none⟩) HGB.out _).setCell (p := ⟨g, a * 4 + 2, none⟩) HGB.out _).setCell (p := ⟨B, 1, none⟩) HBB.out _).setCell (p := ⟨B, 2, none⟩) HBB.out _).drew, ?_⟩
    refine ((((Kept.of_below HB1.out _).setCell (Or.inl ?_) _).setCell (Or.inl ?_) _).setCell (Or.inl ?_) _).setCell (Or.inl ?_) _
    ·exact Or.inr (by simp [Value.ownBlock])
    ·exact Or.inr (by simp [Value.ownBlock])
    ·exact Or.inl rfl
    ·exact Or.inl rfl
  ·rw [if_neg c2] at H; exact absurd H (by simp)
theorem queue_serve.keep {W W2 : World} {l : List S42} {A : Option Addr} {n c g B base : Nat} {cs : Array Value} (HO : Kd.R k42 42 W base (fun _ => True) (.slice A n c) l) (hb : W.heap[B]? = some (.cells cs 24 (0, 0))) (hk : Kept W W2 (fun k => k = g ∨ some k = (Value.slice A n c).ownBlock)) (hne : B ≠ g) : W2.heap[B]? = some (.cells cs 24 (0, 0)) :=
 blk_kept hb hk (fun h => h.elim hne (fun h => Kd.R_ne HO hb (fun e => by cases e) h))
def queue_Next.f (k : Nat) (l0_0 : List S42) (a0_1 : Int) (a0_2 : Int) : Option (List S42 × Int × Int × Int × Int) := (queue_Check.f k l0_0 a0_1 a0_2).bind fun e => if e = 0 then (queue_twin.f l0_0 a0_1 a0_2).bind fun t => (queue_serve.f t.1 t.2.1 t.2.2).bind fun s => if s.2.1 = 0 then some (s.2.2.1, s.2.2.2.1, s.2.2.2.2, s.1, 0) else some ([], 0, 0, 0, s.2.1) else some ([], 0, 0, 0, e)
theorem queue_Next.mono : ∀ a b c k, LeO (queue_Next.f k a b c) (queue_Next.f (k + 1) a b c) := by
 intro a b c k
 unfold queue_Next.f
 exact LeO.bind (queue_Check.mono _ _ _ _) (fun _ => LeO.refl _)
set_option maxHeartbeats 8000000 in
set_option maxRecDepth 100000 in
theorem queue_Next.calls (k : Nat) (A0_0 : Option Addr) (c0_0 : Nat) (l0_0 : List (S42)) (a0_1 : Int) (a0_2 : Int) (r1 : List (S42)) (r2 : Int) (r3 : Int) (r4 : Int) (r5 : Int) (w : World) (hr0_0 : Kd.C k42 w A0_0 l0_0.length l0_0) (hc0_0 : l0_0.length ≤ c0_0) (h : queue_Next.f k l0_0 a0_1 a0_2 = some (r1, r2, r3, r4, r5)) :
  Calls Try.prog 15 #[.agg #[.slice A0_0 l0_0.length c0_0, .int .i64 a0_1, .int .i64 a0_2]] w fun e w' => ∃ v0_ : Value, e = .returned (.tuple #[.agg #[v0_, .int .i64 r2, .int .i64 r3], .int .i64 r4, .int .i64 r5]) ∧ Kd.R k42 42 w' w.heap.size (fun _ => True) v0_ r1 ∧ Below w.heap.size w w' := by
 have hu24 := Try.underlying24
 have HR0 := Aside0.mk hr0_0
 have HC0 := Aside0.mk hc0_0
 obtain ⟨e0, he0, H⟩ := Option.bind_eq_some_iff.mp (show (queue_Check.f k l0_0 a0_1 a0_2).bind _ = _ from h)
 have HE := Aside0.mk he0
 clear h he0 hr0_0 hc0_0
 obtain ⟨O1, hO1⟩ : ∃ O : Obj, O = .cells #[.slice A0_0 l0_0.length c0_0, .int .i64 a0_1, .int .i64 a0_2] 24 := ⟨_, rfl⟩
 have hb1 : Below w.heap.size w (w.alloc (.cells #[.slice A0_0 l0_0.length c0_0, .int .i64 a0_1, .int .i64 a0_2] 24)) := (Below.refl _ w).alloc (Nat.le_refl _) _
 have hb2 := hb1.alloc hb1.size (.cells #[.slice none 0 0, .int .i64 0, .int .i64 0] 24)
 have hk1 := blk_alloc (blk_new w (.cells #[.slice A0_0 l0_0.length c0_0, .int .i64 a0_1, .int .i64 a0_2] 24)) (.cells #[.slice none 0 0, .int .i64 0, .int .i64 0] 24)
 have hk2 := blk_new (w.alloc (.cells #[.slice A0_0 l0_0.length c0_0, .int .i64 a0_1, .int .i64 a0_2] 24)) (.cells #[.slice none 0 0, .int .i64 0, .int .i64 0] 24)
 have hsz : (w.alloc (.cells #[.slice A0_0 l0_0.length c0_0, .int .i64 a0_1, .int .i64 a0_2] 24)).heap.size = w.heap.size + 1 := by simp
 rw [hsz] at hk2
 have HB2 := Aside0.mk hb2
 have HK1 := Aside0.mk hk1
 have HK2 := Aside0.mk hk2
 have HCH := Aside0.mk (queue_Check.calls k A0_0 c0_0 l0_0 a0_1 a0_2 e0 _ (Kd.C_below HR0.out hb2) HC0.out HE.out)
 clear hb1 hb2 hk1 hk2 hsz hO1 O1
 by_cases c0 : e0 = 0
 ·rw [if_pos c0] at H
  subst c0
  replace H := Option.bind_eq_some_iff.mp H
  obtain ⟨⟨t1, t2, t3⟩, ht, H⟩ := H
  replace H := Option.bind_eq_some_iff.mp H
  obtain ⟨⟨s1, s2, s3, s4, s5⟩, hs, H⟩ := H
  dsimp only at H
  have HT := Aside0.mk ht
  have HS := Aside0.mk hs
  clear ht hs
  have HTW := Aside0.mk (fun W (hW : Below w.heap.size w W) => queue_twin.calls A0_0 c0_0 l0_0 a0_1 a0_2 t1 t2 t3 W (Kd.C_below HR0.out hW) HC0.out HT.out)
  by_cases c2 : s2 = 0
  ·rw [if_pos c2] at H
   simp only [Option.some.injEq, Prod.mk.injEq] at H
   obtain ⟨rfl, rfl, rfl, rfl, rfl⟩ := H
   have f2 : (s2 != 0) = false := by have c2 : s2 = 0 := c2; rw [c2]; rfl
   clear c2
   go_enter Try.func15, Try.ntmps15
   go_wp2_with (first | (go_at_call 29; ((with_reducible refine HCH.out.mono ?_)); rintro e w1 ⟨rfl, hb⟩; have HB3 := Aside0.mk (below_step HB2.out hb); have hk := blk_below HK1.out hb; have HK3 := Aside0.mk hk; have d0 := (blk_cell hk 0).trans rfl; have d1 := (blk_cell hk 1).trans rfl; have d2 := (blk_cell hk 2).trans rfl; have hk2 := blk_below HK2.out hb; have HK4 := Aside0.mk hk2; clear hb hk hk2) | (go_at_call 50; ((with_reducible refine (HTW.out _ HB3.out).mono ?_)); rintro e w2 ⟨v0, rfl, ho, hb⟩; have HO := Aside0.mk ho; have HB5 := Aside0.mk (below_step HB3.out hb); have HK5 := Aside0.mk (blk_below HK4.out hb); have HLT := Aside0.mk (blk_lt (blk_below HK4.out hb)); clear hb ho d0 d1 d2; obtain ⟨Ao, co, eo⟩ := Kd.R_slice HO.out; subst eo))
   have hser := queue_serve.calls w2.heap.size t1.length co w.heap.size Ao t1 t2 t3 s1 s2 s3 s4 s5 (w2.alloc (.cells #[.slice Ao t1.length co, .int .i64 t2, .int .i64 t3] 24)) (blk_new w2 (.cells #[.slice Ao t1.length co, .int .i64 t2, .int .i64 t3] 24)) (Kd.R_alloc (Kd.R_lower HO.out HB3.out.size) (.cells #[.slice Ao t1.length co, .int .i64 t2, .int .i64 t3] 24)) HB5.out.size HS.out
   refine hser.mono ?_
   rintro e w3 ⟨rfl, hk6, ho6, hbe, hke⟩
   have HO6 := Aside0.mk ho6
   have HB6 := Aside0.mk (Below.trans ((HB5.out.alloc HB5.out.size (.cells #[.slice Ao t1.length co, .int .i64 t2, .int .i64 t3] 24))) hbe)
   have hk7 := queue_serve.keep (Kd.R_alloc HO.out (.cells #[.slice Ao t1.length co, .int .i64 t2, .int .i64 t3] 24)) (blk_alloc HK5.out (.cells #[.slice Ao t1.length co, .int .i64 t2, .int .i64 t3] 24)) hke (Nat.ne_of_lt HLT.out)
   have HK7 := Aside0.mk hk7
   have d0 := (blk_cell hk6 0).trans rfl
   have d1 := (blk_cell hk6 1).trans rfl
   have d2 := (blk_cell hk6 2).trans rfl
   have b0 := (blk_cell hk7 0).trans rfl
   have b1 := (blk_cell hk7 1).trans rfl
   have b2 := (blk_cell hk7 2).trans rfl
   have z0 := blk_frozen hk7 0
   have z1 := blk_frozen hk7 1
   have z2 := blk_frozen hk7 2
   have n7 : w.heap.size + 1 ≠ w2.heap.size := Nat.ne_of_lt HLT.out
   clear ho6 hke hbe hk6 hk7 hser
   go_wp2
   refine bodyPost_ret (results_ctt rfl _ _ (w.heap.size + 1) 24 _ (0, 0) _ rfl (blk_put (blk_put (blk_put HK7.out 0 _ rfl) 1 _ rfl) 2 _ rfl) Try.underlying24 rfl (by kernel_rfl)) rfl ?_
   exact ⟨_, rfl, Kd.R_set (Kd.R_set (Kd.R_set HO6.out HK7.out (by decide) 0 _) (blk_put HK7.out 0 _ rfl) (by decide) 1 _) (blk_put (blk_put HK7.out 0 _ rfl) 1 _ rfl) (by decide) 2 _, below_set (below_set (below_set HB6.out (by simp)) (by simp)) (by simp)⟩
  ·rw [if_neg c2] at H
   simp only [Option.some.injEq, Prod.mk.injEq] at H
   obtain ⟨rfl, rfl, rfl, rfl, rfl⟩ := H
   have f2 : (s2 != 0) = true := bne_iff_ne.mpr c2
   clear c2
   go_enter Try.func15, Try.ntmps15
   go_wp2_with (first | (go_at_call 29; ((with_reducible refine HCH.out.mono ?_)); rintro e w1 ⟨rfl, hb⟩; have HB3 := Aside0.mk (below_step HB2.out hb); have hk := blk_below HK1.out hb; have HK3 := Aside0.mk hk; have d0 := (blk_cell hk 0).trans rfl; have d1 := (blk_cell hk 1).trans rfl; have d2 := (blk_cell hk 2).trans rfl; have hk2 := blk_below HK2.out hb; have HK4 := Aside0.mk hk2; clear hb hk hk2) | (go_at_call 50; ((with_reducible refine (HTW.out _ HB3.out).mono ?_)); rintro e w2 ⟨v0, rfl, ho, hb⟩; have HO := Aside0.mk ho; have HB5 := Aside0.mk (below_step HB3.out hb); have HK5 := Aside0.mk (blk_below HK4.out hb); have HLT := Aside0.mk (blk_lt (blk_below HK4.out hb)); clear hb ho d0 d1 d2; obtain ⟨Ao, co, eo⟩ := Kd.R_slice HO.out; subst eo))
   have hser := queue_serve.calls w2.heap.size t1.length co w.heap.size Ao t1 t2 t3 s1 s2 s3 s4 s5 (w2.alloc (.cells #[.slice Ao t1.length co, .int .i64 t2, .int .i64 t3] 24)) (blk_new w2 (.cells #[.slice Ao t1.length co, .int .i64 t2, .int .i64 t3] 24)) (Kd.R_alloc (Kd.R_lower HO.out HB3.out.size) (.cells #[.slice Ao t1.length co, .int .i64 t2, .int .i64 t3] 24)) HB5.out.size HS.out
   refine hser.mono ?_
   rintro e w3 ⟨rfl, hk6, ho6, hbe, hke⟩
   have HO6 := Aside0.mk ho6
   have HB6 := Aside0.mk (Below.trans ((HB5.out.alloc HB5.out.size (.cells #[.slice Ao t1.length co, .int .i64 t2, .int .i64 t3] 24))) hbe)
   have hk7 := queue_serve.keep (Kd.R_alloc HO.out (.cells #[.slice Ao t1.length co, .int .i64 t2, .int .i64 t3] 24)) (blk_alloc HK5.out (.cells #[.slice Ao t1.length co, .int .i64 t2, .int .i64 t3] 24)) hke (Nat.ne_of_lt HLT.out)
   have HK7 := Aside0.mk hk7
   have d0 := (blk_cell hk6 0).trans rfl
   have d1 := (blk_cell hk6 1).trans rfl
   have d2 := (blk_cell hk6 2).trans rfl
   have b0 := (blk_cell hk7 0).trans rfl
   have b1 := (blk_cell hk7 1).trans rfl
   have b2 := (blk_cell hk7 2).trans rfl
   have z0 := blk_frozen hk7 0
   have z1 := blk_frozen hk7 1
   have z2 := blk_frozen hk7 2
   have n7 : w.heap.size + 1 ≠ w2.heap.size := Nat.ne_of_lt HLT.out
   clear ho6 hke hbe hk6 hk7 hser
   go_wp2
   refine bodyPost_ret (results_ctt rfl _ _ (w.heap.size + 1) 24 _ (0, 0) _ rfl (blk_put (blk_put (blk_put HK7.out 0 _ rfl) 1 _ rfl) 2 _ rfl) Try.underlying24 rfl (by kernel_rfl)) rfl ?_
   exact ⟨_, rfl, Kd.R_nil _ _ _ _ _, below_set (below_set (below_set HB6.out (by simp)) (by simp)) (by simp)⟩
 ·rw [if_neg c0] at H
  simp only [Option.some.injEq, Prod.mk.injEq] at H
  obtain ⟨rfl, rfl, rfl, rfl, rfl⟩ := H
  have f1 : (e0 != 0) = true := bne_iff_ne.mpr c0
  clear c0
  go_enter Try.func15, Try.ntmps15
  go_wp2_with (go_at_call 29; ((with_reducible refine HCH.out.mono ?_)); rintro e w1 ⟨rfl, hb⟩; have HB3 := Aside0.mk (below_step HB2.out hb); have hk2 := blk_below HK2.out hb; have HK4 := Aside0.mk hk2; have d0 := (blk_cell hk2 0).trans rfl; have d1 := (blk_cell hk2 1).trans rfl; have d2 := (blk_cell hk2 2).trans rfl; have z0 := blk_frozen hk2 0; have z1 := blk_frozen hk2 1; have z2 := blk_frozen hk2 2; clear hb hk2)
  refine bodyPost_ret (results_ctt rfl _ _ (w.heap.size + 1) 24 _ (0, 0) _ rfl (blk_put (blk_put (blk_put HK4.out 0 _ rfl) 1 _ rfl) 2 _ rfl) Try.underlying24 rfl (by kernel_rfl)) rfl ?_
  exact ⟨_, rfl, Kd.R_nil _ _ _ _ _, below_set (below_set (below_set HB3.out (by simp)) (by simp)) (by simp)⟩

/-! ### fringeref42_in: function 54 -/
def fringeref42_in.f (a0 : Int) (a1 : Int) (a2 : Int) : Option (Bool) := if a0 ≥ a1 then (some (decide (a0 ≤ a2))) else (some false)
set_option maxHeartbeats 8000000 in
set_option maxRecDepth 100000 in
theorem fringeref42_in.calls (a0 : Int) (a1 : Int) (a2 : Int) (r : Bool) (w : World) (h : fringeref42_in.f a0 a1 a2 = some r) :
  Calls Try.prog 54 #[.int .i64 a0, .int .i64 a1, .int .i64 a2] w fun e w' => e = .returned (.bool r) ∧ Drawn0 w w' := by
 have H : (if a0 ≥ a1 then (some (decide (a0 ≤ a2))) else (some false)) = some r := h
 clear h
 by_cases c4 : a0 ≥ a1
 ·rw [if_pos c4] at H
  have c4b0 : decide (a1 ≤ a0) = true := decide_eq_true c4
  clear c4
  obtain rfl := Option.some.inj H
  go_enter Try.func54, Try.ntmps54
  go_wp2
  go_ret
  exact ⟨by first | rfl | (simp; done) | (simp [*]; done), by repeat (first | exact Drawn0.refl _ | apply Drawn0.step)⟩
 ·rw [if_neg c4] at H
  have c4b0 : decide (a1 ≤ a0) = false := decide_eq_false c4
  clear c4
  obtain rfl := Option.some.inj H
  go_enter Try.func54, Try.ntmps54
  go_wp2
  go_ret
  exact ⟨by first | rfl | (simp; done) | (simp [*]; done), by repeat (first | exact Drawn0.refl _ | apply Drawn0.step)⟩

end Go.Proofs.Ytelmcaenemjppaa.Q
