-- Written by qprint.py (a program of this session) over the program of the kit that prints contracts. Not trusted: Lean checks it.
import Derived.Test.YtnlaklkneaaakaaQ0
import Derived.Test.YtnlaklkneaaakaaQ4
namespace Go.Proofs.Ytnlaklkneaaakaa.Q
open Go.RowKit Go.Proofs.YtnlaklkneaaakaaW.PrintWords Go.Proofs.YtnlaklkneaaakaaW.PrintLast Go.Proofs.YtnlaklkneaaakaaW.PrintMore
attribute [local go_sem] max2_int min2_int max_two min_two max_three min_three max_four min_four   -- for this text's walks alone
set_option linter.unusedVariables false
set_option linter.unusedSimpArgs false

/-! ### slices_IndexFunc__api_Vis_api_Vis: function 57 (by hand) -/

def fnVis.idx (p : S38 → Option Bool) : List S38 → Int → Option Int
 | [], _ => some (-1)
 | x :: t, i => (p x).bind fun b => if b = true then some i else fnVis.idx p t (i + 1)
set_option maxHeartbeats 8000000 in
set_option maxRecDepth 100000 in
theorem fnVis.indexFunc (K : Nat) (hK : ∀ (args : Array Value) (W : World), (callFunc K args).run Try.prog W = .ok (.enter K args) W) (lb : Array Value) (p : S38 → Option Bool) (A0 : Option Addr) (c0 : Nat) (l0 : List S38) (r : Int) (w : World) (hr0 : Kd.C k38 w A0 l0.length l0) (hlim : l0.length < 9223372036854775807)
  (hp : ∀ (W : World) (x : S38) (b : Bool), p x = some b → Below w.heap.size w W → Calls Try.prog K (#[.agg #[.int .i64 x.f0, .int .i64 x.f1, .int .i64 x.f2.f0, .int .i64 x.f2.f1, .int .i64 x.f2.f2, .int .i64 x.f3]] ++ lb) W fun e w' => e = .returned (.bool b) ∧ Below W.heap.size W w') (h : fnVis.idx p l0 0 = some r) :
  Calls Try.prog 57 #[.slice A0 l0.length c0, .func (.func K) #[] lb] w fun e w' => e = .returned (.int .i64 r) ∧ Below w.heap.size w w' := by
 have HR0 := Aside0.mk hr0
 have HP := Aside0.mk hp
 have HH := Aside0.mk h
 have HB := Aside0.mk (Below.refl w.heap.size w)
 have HM := Aside0.mk hlim
 clear hr0 hp hlim h
 go_enter Try.func57, Try.ntmps57
 go_wp2
 go_loopg [8] l0.length (fun gk v8 w' => ∃ i : Nat, i ≤ l0.length ∧ l0.length - i ≤ gk ∧ v8 = .int .i64 i ∧ Aside0 (Below w.heap.size w w') ∧ Aside0 (fnVis.idx p (l0.drop i) i = some r))
 case atStart => exact ⟨0, Nat.zero_le _, Nat.le_refl _, rfl, HB, HH⟩
 case round =>
  clear HB HH
  obtain ⟨i, hi, hg, rfl, HB, HN⟩ := hrel
  have HI := Aside0.mk hi
  have HG := Aside0.mk hg
  clear hi hg
  by_cases c : i < l0.length
  ·have hdec : decide ((i : Int) < (l0.length : Int)) = true := decide_eq_true (by omega)
   have p1 : 0 ≤ (i : Int) := by omega
   have q1 : (i : Int) < (l0.length : Int) := by omega
   obtain ⟨ad, e1, hx0, hx1, hx2, hx3, hx4, hx5⟩ := at_T38 HR0.out i p1 q1
   cases e1
   replace hx0 := (HB.out.cell (World.block_lt_of_cell? w _ hx0)).trans hx0
   replace hx1 := (HB.out.cell (World.block_lt_of_cell? w _ hx1)).trans hx1
   replace hx2 := (HB.out.cell (World.block_lt_of_cell? w _ hx2)).trans hx2
   replace hx3 := (HB.out.cell (World.block_lt_of_cell? w _ hx3)).trans hx3
   replace hx4 := (HB.out.cell (World.block_lt_of_cell? w _ hx4)).trans hx4
   replace hx5 := (HB.out.cell (World.block_lt_of_cell? w _ hx5)).trans hx5
   simp only [Int.toNat_natCast] at hx0 hx1 hx2 hx3 hx4 hx5
   have hd : l0.drop i = rd_T38 l0 (i : Int) :: l0.drop (i + 1) := by
    rw [List.drop_eq_getElem_cons c]
    congr 1
    show _ = l0.getD (i : Int).toNat _
    rw [Int.toNat_natCast, List.getD_eq_getElem?_getD, List.getElem?_eq_getElem c]; rfl
   have hn := HN.out
   rw [hd, fnVis.idx] at hn
   obtain ⟨b, hb, hn⟩ := Option.bind_eq_some_iff.mp hn
   have hcall := HP.out wr (rd_T38 l0 i) b hb HB.out
   have HCALL := Aside0.mk hcall
   have HNN := Aside0.mk hn
   clear hd hn hb hcall HN
   replace p1 := eq_true p1
   have q1i : (i < l0.length) = True := eq_true c
   replace q1 := eq_true q1
   have HC := Aside0.mk c
   clear c
   generalize rd_T38 l0 (i : Int) = x at *
   cases b with
   | true =>
    go_wp2_with (fail)
    refine HCALL.out.mono ?_
    rintro e w' ⟨rfl, hb'⟩
    have HB2 := Aside0.mk (below_step HB.out hb')
    clear hb'
    go_wp2_with (fail)
    go_ret
    have e := HNN.out
    first | rw [if_pos rfl] at e | rw [if_pos trivial] at e
    exact ⟨by rw [← Option.some.inj e]; rfl, HB2.out⟩
   | false =>
    go_wp2_with (fail)
    refine HCALL.out.mono ?_
    rintro e w' ⟨rfl, hb'⟩
    have HB2 := Aside0.mk (below_step HB.out hb')
    clear hb'
    go_wp2_with (fail)
    go_roundg (l0.length - (i + 1))
    case measure => have := HC.out; have := HG.out; omega
    case rel =>
     have hc := HC.out
     have hm := HM.out
     refine ⟨i + 1, by omega, by have := HG.out; omega, ?_, HB2, ⟨?_⟩⟩
     ·have e : wrap64 ((i : Int) + 1) = ((i + 1 : Nat) : Int) := by unfold wrap64; omega
      first | rfl | (rw [← e]; rfl) | (simp [← e]; done) | (simp; omega)
     ·have e := HNN.out
      first | rw [if_neg (by simp)] at e | simp only [if_false] at e
      exact e
  ·have hdec : decide ((i : Int) < (l0.length : Int)) = false := decide_eq_false (by omega)
   have hdec2 : decide (i < l0.length) = false := decide_eq_false c
   have e := HN.out
   rw [List.drop_eq_nil_of_le (by omega), fnVis.idx] at e
   have HE := Aside0.mk (Option.some.inj e)
   clear e c HN
   go_wp2
   go_ret
   exact ⟨by rw [← HE.out]; rfl, HB.out⟩
theorem fnVis.idx_ge (p : S38 → Option Bool) : ∀ (l : List S38) (s r : Int), fnVis.idx p l s = some r → 0 ≤ s → r = -1 ∨ s ≤ r
 | [], s, r, h, _ => .inl (Option.some.inj h).symm
 | x :: t, s, r, h, hs => by
  rw [fnVis.idx] at h
  obtain ⟨b, _, h⟩ := Option.bind_eq_some_iff.mp h
  split at h
  ·exact .inr (by have := Option.some.inj h; omega)
  ·rcases fnVis.idx_ge p t (s + 1) r h (by omega) with h | h
   ·exact .inl h
   ·exact .inr (by omega)
def fnVis.any (p : S38 → Option Bool) (l : List S38) : Option Bool := if l.length < 9223372036854775807 then (fnVis.idx p l 0).bind fun r => some (decide (r ≥ 0)) else none
set_option maxHeartbeats 8000000 in
set_option maxRecDepth 100000 in
theorem fnVis.containsFunc (K : Nat) (hK : ∀ (args : Array Value) (W : World), (callFunc K args).run Try.prog W = .ok (.enter K args) W) (lb : Array Value) (p : S38 → Option Bool) (A0 : Option Addr) (c0 : Nat) (l0 : List S38) (r : Bool) (w : World) (hr0 : Kd.C k38 w A0 l0.length l0)
  (hp : ∀ (W : World) (x : S38) (b : Bool), p x = some b → Below w.heap.size w W → Calls Try.prog K (#[.agg #[.int .i64 x.f0, .int .i64 x.f1, .int .i64 x.f2.f0, .int .i64 x.f2.f1, .int .i64 x.f2.f2, .int .i64 x.f3]] ++ lb) W fun e w' => e = .returned (.bool b) ∧ Below W.heap.size W w') (h : fnVis.any p l0 = some r) :
  Calls Try.prog 31 #[.slice A0 l0.length c0, .func (.func K) #[] lb] w fun e w' => e = .returned (.bool r) ∧ Below w.heap.size w w' := by
 unfold fnVis.any at h
 by_cases c : l0.length < 9223372036854775807
 ·rw [if_pos c] at h
  obtain ⟨i, hi, h⟩ := Option.bind_eq_some_iff.mp h
  obtain rfl := Option.some.inj h
  have HI := Aside0.mk (fnVis.indexFunc K hK lb p A0 c0 l0 i w hr0 c hp hi)
  clear hr0 hp c h hi hK
  go_enter Try.func31, Try.ntmps31
  go_wp2_with (fail)
  refine HI.out.mono ?_
  rintro e w' ⟨rfl, hb⟩
  have HB := Aside0.mk hb
  clear hb
  go_wp2_with (fail)
  go_ret
  exact ⟨rfl, HB.out⟩
 ·rw [if_neg c] at h; exact absurd h (by simp)

/-! ### gain_made__api_Vis_api_Vis: function 32 (by hand) -/

def madeVis.go (one : Nat → S38 → Option (S38 × Int)) : List S38 → Nat → List S38 → Option (List S38 × Int)
 | [], _, acc => some (acc, 0)
 | x :: t, i, acc => (one i x).bind fun r => if r.2 = 0 then (if acc.length < 2932031007402 then madeVis.go one t (i + 1) (acc ++ [r.1]) else none) else some ([], 16)
theorem madeVis.cells (W : World) (base : Nat) (y : S38) : k38.M W base (fun _ => False) y [.int .i64 y.f0, .int .i64 y.f1, .int .i64 y.f2.f0, .int .i64 y.f2.f1, .int .i64 y.f2.f2, .int .i64 y.f3] := by
 repeat (first | exact ⟨_, _, rfl, rfl, rfl⟩ | exact ⟨[_], _, rfl, rfl, rfl⟩ | refine ⟨[_], _, rfl, rfl, ?_⟩ | refine ⟨[_, _, _], _, rfl, ?_, ?_⟩ | rfl)
theorem madeVis.info : (Try.prog.info? 38).map (fun i => (i.zero, i.size, i.bytes)) = some (some (.agg #[.int .i64 0, .int .i64 0, .int .i64 0, .int .i64 0, .int .i64 0, .int .i64 0]), 6, 48) := by kernel_rfl
set_option maxHeartbeats 8000000 in
set_option maxRecDepth 100000 in
theorem madeVis.calls (K : Nat) (hK : ∀ (args : Array Value) (W : World), (callFunc K args).run Try.prog W = .ok (.enter K args) W) (lb : Array Value) (one : Nat → S38 → Option (S38 × Int)) (A0 : Option Addr) (c0 : Nat) (l0 : List S38) (r1 : List S38) (r2 : Int) (w : World) (hr0 : Kd.C k38 w A0 l0.length l0) (hlim : l0.length < 9223372036854775807)
  (hp : ∀ (W : World) (i : Nat) (x y : S38) (e : Int), one i x = some (y, e) → Below w.heap.size w W → Calls Try.prog K (#[.int .i64 i, .agg #[.int .i64 x.f0, .int .i64 x.f1, .int .i64 x.f2.f0, .int .i64 x.f2.f1, .int .i64 x.f2.f2, .int .i64 x.f3]] ++ lb) W fun e' w' => e' = .returned (.tuple #[.agg #[.int .i64 y.f0, .int .i64 y.f1, .int .i64 y.f2.f0, .int .i64 y.f2.f1, .int .i64 y.f2.f2, .int .i64 y.f3], .int .i64 e]) ∧ Below W.heap.size W w') (h : madeVis.go one l0 0 [] = some (r1, r2)) :
  Calls Try.prog 32 #[.slice A0 l0.length c0, .func (.func K) #[] lb] w fun e w' => ∃ v0_ : Value, e = .returned (.tuple #[v0_, .int .i64 r2]) ∧ Kd.R k38 38 w' w.heap.size (fun _ => True) v0_ r1 ∧ Below w.heap.size w w' := by
 have HR0 := Aside0.mk hr0
 have HP := Aside0.mk hp
 have HH := Aside0.mk h
 have HB := Aside0.mk (Below.refl w.heap.size w)
 have HM := Aside0.mk hlim
 clear hr0 hp hlim h
 go_enter Try.func32, Try.ntmps32
 go_wp2
 go_loopg [6, 13] l0.length (fun gk v6 v13 w' => ∃ (i : Nat) (acc : List S38), i ≤ l0.length ∧ l0.length - i ≤ gk ∧ v13 = .int .i64 i ∧ Aside0 (Kd.R k38 38 w' w.heap.size (fun _ => True) v6 acc) ∧ Aside0 (Below w.heap.size w w') ∧ Aside0 (madeVis.go one (l0.drop i) i acc = some (r1, r2)))
 case atStart => exact ⟨0, [], Nat.zero_le _, Nat.le_refl _, rfl, ⟨Kd.R_nil _ _ _ _ _⟩, HB, HH⟩
 case round =>
  clear HB HH
  obtain ⟨i, acc, hi, hg, rfl, HO, HB, HN⟩ := hrel
  have HI := Aside0.mk hi
  have HG := Aside0.mk hg
  clear hi hg
  by_cases c : i < l0.length
  ·have hdec : decide ((i : Int) < (l0.length : Int)) = true := decide_eq_true (by omega)
   have p1 : 0 ≤ (i : Int) := by omega
   have q1 : (i : Int) < (l0.length : Int) := by omega
   obtain ⟨ad, e1, hx0, hx1, hx2, hx3, hx4, hx5⟩ := at_T38 HR0.out i p1 q1
   cases e1
   replace hx0 := (HB.out.cell (World.block_lt_of_cell? w _ hx0)).trans hx0
   replace hx1 := (HB.out.cell (World.block_lt_of_cell? w _ hx1)).trans hx1
   replace hx2 := (HB.out.cell (World.block_lt_of_cell? w _ hx2)).trans hx2
   replace hx3 := (HB.out.cell (World.block_lt_of_cell? w _ hx3)).trans hx3
   replace hx4 := (HB.out.cell (World.block_lt_of_cell? w _ hx4)).trans hx4
   replace hx5 := (HB.out.cell (World.block_lt_of_cell? w _ hx5)).trans hx5
   simp only [Int.toNat_natCast] at hx0 hx1 hx2 hx3 hx4 hx5
   have hd : l0.drop i = rd_T38 l0 (i : Int) :: l0.drop (i + 1) := by
    rw [List.drop_eq_getElem_cons c]
    congr 1
    show _ = l0.getD (i : Int).toNat _
    rw [Int.toNat_natCast, List.getD_eq_getElem?_getD, List.getElem?_eq_getElem c]; rfl
   have hn := HN.out
   rw [hd, madeVis.go] at hn
   obtain ⟨⟨y, e⟩, hb, hn⟩ := Option.bind_eq_some_iff.mp hn
   dsimp only at hn
   have hb1 : Below w.heap.size w (wr.alloc (.cells #[.int .i64 (rd_T38 l0 (i : Int)).f0, .int .i64 (rd_T38 l0 (i : Int)).f1, .int .i64 (rd_T38 l0 (i : Int)).f2.f0, .int .i64 (rd_T38 l0 (i : Int)).f2.f1, .int .i64 (rd_T38 l0 (i : Int)).f2.f2, .int .i64 (rd_T38 l0 (i : Int)).f3] 38)) := HB.out.alloc HB.out.size _
   have hcall := HP.out (wr.alloc (.cells #[.int .i64 (rd_T38 l0 (i : Int)).f0, .int .i64 (rd_T38 l0 (i : Int)).f1, .int .i64 (rd_T38 l0 (i : Int)).f2.f0, .int .i64 (rd_T38 l0 (i : Int)).f2.f1, .int .i64 (rd_T38 l0 (i : Int)).f2.f2, .int .i64 (rd_T38 l0 (i : Int)).f3] 38)) i (rd_T38 l0 i) y e hb hb1
   have HCALL := Aside0.mk hcall
   have HB1 := Aside0.mk hb1
   have HO1 := Aside0.mk (Kd.R_alloc HO.out (.cells #[.int .i64 (rd_T38 l0 (i : Int)).f0, .int .i64 (rd_T38 l0 (i : Int)).f1, .int .i64 (rd_T38 l0 (i : Int)).f2.f0, .int .i64 (rd_T38 l0 (i : Int)).f2.f1, .int .i64 (rd_T38 l0 (i : Int)).f2.f2, .int .i64 (rd_T38 l0 (i : Int)).f3] 38))
   have HNN := Aside0.mk hn
   clear hd hn hb hb1 hcall HN HO HB
   replace p1 := eq_true p1
   have q1i : (i < l0.length) = True := eq_true c
   replace q1 := eq_true q1
   have HC := Aside0.mk c
   clear c
   generalize rd_T38 l0 (i : Int) = x at *
   by_cases ce : e = 0
   ·have HE := Aside0.mk ce
    have f1 : (e != 0) = false := bne_eq_false_iff_eq.mpr ce
    have hn := HNN.out
    rw [if_pos ce] at hn
    by_cases cl : acc.length < 2932031007402
    ·rw [if_pos cl] at hn
     have HN2 := Aside0.mk hn
     have HCL := Aside0.mk cl
     clear hn cl ce HNN
     go_wp2_with (fail)
     refine HCALL.out.mono ?_
     rintro e' w2 ⟨rfl, hb'⟩
     have HB2 := Aside0.mk (below_step HB1.out hb')
     have HO2 := Aside0.mk (Kd.R_below HO1.out hb')
     clear hb' HB1 HO1 HCALL
     have HB3 := Aside0.mk (HB2.out.alloc HB2.out.size (.cells #[.int .i64 y.f0, .int .i64 y.f1, .int .i64 y.f2.f0, .int .i64 y.f2.f1, .int .i64 y.f2.f2, .int .i64 y.f3] 38))
     have HO3 := Aside0.mk (Kd.R_alloc HO2.out (.cells #[.int .i64 y.f0, .int .i64 y.f1, .int .i64 y.f2.f0, .int .i64 y.f2.f1, .int .i64 y.f2.f2, .int .i64 y.f3] 38))
     clear HB2 HO2
     go_wp2_with ((with_reducible refine gate_builtin (b := .append) (xs := #[.tmp 27, .tmp 29]) rfl ?_); at_builtin; refine Kd.R_append k38 (w0 := w) w.heap.size rfl (.tmp 27) (.tmp 29) 23 38 (.agg #[.int .i64 0, .int .i64 0, .int .i64 0, .int .i64 0, .int .i64 0, .int .i64 0]) 48 rfl Try.underlying23 madeVis.info rfl (by decide) (by omega) u6 acc y [.int .i64 y.f0, .int .i64 y.f1, .int .i64 y.f2.f0, .int .i64 y.f2.f1, .int .i64 y.f2.f2, .int .i64 y.f3] (fun _ => True) (fun _ => False) rfl ?aX ?aP (fun _ hk => hk.elim) ?aF ?aO ?aB ?aS ?aL ?_; (case aX => first | rfl | (simp [Act.eval]; done) | (go_simp; done)); (case aP => exact madeVis.cells _ _ y); (case aB => exact HB3.out); (case aF => exact fun _ _ => trivial); (case aO => exact HO3.out); (case aS => exact below_size HB3.out); (case aL => have := HCL.out; omega); intro v9 w9 ho hb hg hat; have HO4 := Aside0.mk ho; have HB4 := Aside0.mk hb; clear ho hb hg hat)
     go_roundg (l0.length - (i + 1))
     case measure => have := HC.out; have := HG.out; omega
     case rel =>
      have hc := HC.out
      have hm := HM.out
      refine ⟨i + 1, acc ++ [y], by omega, by have := HG.out; omega, ?_, HO4, HB4, HN2⟩
      have e : wrap64 ((i : Int) + 1) = ((i + 1 : Nat) : Int) := by unfold wrap64; omega
      first | rfl | (rw [← e]; rfl) | (simp [← e]; done) | (simp; omega)
    ·rw [if_neg cl] at hn; exact absurd hn (by simp)
   ·have f1 : (e != 0) = true := bne_iff_ne.mpr ce
    have hn := HNN.out
    rw [if_neg ce] at hn
    simp only [Option.some.injEq, Prod.mk.injEq] at hn
    obtain ⟨rfl, rfl⟩ := hn
    clear HNN
    go_wp2_with (fail)
    refine HCALL.out.mono ?_
    rintro e' w2 ⟨rfl, hb'⟩
    have HB2 := Aside0.mk (below_step HB1.out hb')
    clear hb' HB1 HO1 HCALL
    go_wp2_with (fail)
    go_ret2
    exact ⟨_, rfl, Kd.R_nil _ _ _ _ _, HB2.out.alloc HB2.out.size _⟩
  ·have hdec : decide ((i : Int) < (l0.length : Int)) = false := decide_eq_false (by omega)
   have hdec2 : decide (i < l0.length) = false := decide_eq_false c
   have e := HN.out
   rw [List.drop_eq_nil_of_le (by omega), madeVis.go] at e
   simp only [Option.some.injEq, Prod.mk.injEq] at e
   obtain ⟨rfl, rfl⟩ := e
   clear c HN
   go_wp2
   go_ret2
   exact ⟨_, rfl, HO.out, HB.out⟩

/-! ### cmp_Or__api_Errno: function 47 -/
def cmp_Or__api_Errno.l0 : Nat → Int → List Int → Int → Int → Option (Int)
 | 0, _, _, _, _ => none
 | k + 1, x3, x6, x7, x8 => if x8 < x7 then (if 0 ≤ x8 then (if x8 < (x6.length : Int) then (if (rd x6 x8) = x3 then (cmp_Or__api_Errno.l0 k x3 x6 x7 (wrap64 (x8 + 1))) else (some (rd x6 x8))) else (none)) else (none)) else (some x3)
def cmp_Or__api_Errno.f (k : Nat) (l0 : List Int) : Option (Int) := cmp_Or__api_Errno.l0 k 0 l0 (l0.length : Int) 0
theorem cmp_Or__api_Errno.mono_l : ∀ k, (∀ y0 y1 y2 y3, LeO (cmp_Or__api_Errno.l0 k y0 y1 y2 y3) (cmp_Or__api_Errno.l0 (k + 1) y0 y1 y2 y3))
 | 0 => fun _ _ _ _ r h => by simp [cmp_Or__api_Errno.l0] at h
 | k + 1 => by
  have ih0 := cmp_Or__api_Errno.mono_l k
  ·intro y0 y1 y2 y3
   unfold cmp_Or__api_Errno.l0
   repeat' first
   | (with_reducible exact ih0 _ _ _ _)
   | (with_reducible exact LeO.refl _)
   | (with_reducible exact LeO.none _)
   | (with_reducible refine LeO.ite ?_ ?_)
   | (with_reducible refine LeO.bind ?_ (fun _ => ?_))
   | exact ih0 _ _ _ _
   | exact LeO.none _
   | refine LeO.ite ?_ ?_
   | refine LeO.bind ?_ (fun _ => ?_)
theorem cmp_Or__api_Errno.mono : ∀ a0 k, LeO (cmp_Or__api_Errno.f k a0) (cmp_Or__api_Errno.f (k + 1) a0) := by
 intro a0 k
 have ih0 := cmp_Or__api_Errno.mono_l k
 unfold cmp_Or__api_Errno.f
 repeat' first
   | (with_reducible exact ih0 _ _ _ _)
   | (with_reducible exact LeO.refl _)
   | (with_reducible exact LeO.none _)
   | (with_reducible refine LeO.ite ?_ ?_)
   | (with_reducible refine LeO.bind ?_ (fun _ => ?_))
   | exact ih0 _ _ _ _
   | exact LeO.none _
   | refine LeO.ite ?_ ?_
   | refine LeO.bind ?_ (fun _ => ?_)
set_option maxHeartbeats 8000000 in
set_option maxRecDepth 100000 in
theorem cmp_Or__api_Errno.calls (k : Nat) (A0 : Option Addr) (c0 : Nat) (l0 : List Int) (r : Int) (w : World) (hr0 : Kd.C (Kd.int .i64) w A0 l0.length l0) (hc0 : l0.length ≤ c0) (h : cmp_Or__api_Errno.f k l0 = some r) :
  Calls Try.prog 47 #[.slice A0 l0.length c0] w fun e w' => e = .returned (.int .i64 r) ∧ Drawn0 w w' := by
 have HR0 := Aside0.mk hr0
 have HC0 := Aside0.mk hc0
 clear hr0 hc0
 have H : (cmp_Or__api_Errno.l0 k 0 l0 (l0.length : Int) 0) = some r := h
 clear h
 have H' := Aside0.mk H
 clear H
 go_enter Try.func47, Try.ntmps47
 go_wp2
 go_loopg [8] k (fun kq v8 w' => ∃ (x8_1 : Int), v8 = .int .i64 x8_1 ∧ Aside0 (cmp_Or__api_Errno.l0 kq 0 l0 (l0.length : Int) x8_1 = some r) ∧ Aside0 (kq ≤ k) ∧ Drawn0 w w')
 case atStart => exact ⟨(0), (by first | rfl | (simp; done) | (simp [*]; done)), H', ⟨Nat.le_refl _⟩, by repeat (first | exact Drawn0.refl _ | apply Drawn0.step)⟩
 case round =>
  clear H'
  obtain ⟨x8_1, rfl, HA, HK1, ⟨m1, rfl⟩⟩ := hrel
  cases gk with
  | zero => exact absurd HA.out (by simp [cmp_Or__api_Errno.l0])
  | succ k1 =>
   have H := HA.out
   clear HA
   simp only [cmp_Or__api_Errno.l0] at H
   by_cases c2 : x8_1 < (l0.length : Int)
   ·rw [if_pos c2] at H
    have c2b0 : decide (x8_1 < (l0.length : Int)) = true := decide_eq_true c2
    clear c2
    by_cases c3 : 0 ≤ x8_1
    ·rw [if_pos c3] at H
     have c3b0 : decide (0 ≤ x8_1) = true := decide_eq_true c3
     clear c3
     by_cases c4 : x8_1 < (l0.length : Int)
     ·rw [if_pos c4] at H
      have c4b0 : decide (x8_1 < (l0.length : Int)) = true := decide_eq_true c4
      clear c4
      by_cases c5 : (rd l0 x8_1) = 0
      ·rw [if_pos c5] at H
       have c5b0 : ((rd l0 x8_1) == 0) = true := beq_iff_eq.mpr c5
       have c5b1 : ((rd l0 x8_1) != 0) = false := bne_eq_false_iff_eq.mpr c5
       clear c5
       have H' := Aside0.mk H
       clear H
       have p114 : 0 ≤ (x8_1 : Int) := of_decide_eq_true (by first | (with_reducible assumption) | assumption)
       have q114 : x8_1 < (l0.length : Int) := of_decide_eq_true (by first | (with_reducible assumption) | assumption)
       obtain ⟨ad114, e114, hx114_0⟩ := Kd.at_int HR0.out x8_1 p114 q114
       cases e114
       replace p114 := eq_true p114
       replace q114 := eq_true q114
       go_wp2
       go_roundg k1
       case measure => have := HK1.out; omega
       case rel => exact ⟨(wrap64 (x8_1 + 1)), (by first | rfl | (simp; done) | (simp [*]; done)), H', ⟨by have := HK1.out; omega⟩, by repeat (first | exact Drawn0.refl _ | apply Drawn0.step)⟩
      ·rw [if_neg c5] at H
       have c5b0 : ((rd l0 x8_1) == 0) = false := beq_eq_false_iff_ne.mpr c5
       have c5b1 : ((rd l0 x8_1) != 0) = true := bne_iff_ne.mpr c5
       obtain rfl := Option.some.inj H
       have p114 : 0 ≤ (x8_1 : Int) := of_decide_eq_true (by first | (with_reducible assumption) | assumption)
       have q114 : x8_1 < (l0.length : Int) := of_decide_eq_true (by first | (with_reducible assumption) | assumption)
       obtain ⟨ad114, e114, hx114_0⟩ := Kd.at_int HR0.out x8_1 p114 q114
       cases e114
       replace p114 := eq_true p114
       replace q114 := eq_true q114
       go_wp2
       go_ret
       exact ⟨by first | rfl | (simp; done) | (simp [*]; done), by repeat (first | exact Drawn0.refl _ | apply Drawn0.step)⟩
     ·rw [if_neg c4] at H
      exact absurd H (by simp)
    ·rw [if_neg c3] at H
     exact absurd H (by simp)
   ·rw [if_neg c2] at H
    have c2b0 : decide (x8_1 < (l0.length : Int)) = false := decide_eq_false c2
    clear c2
    obtain rfl := Option.some.inj H
    go_wp2
    go_ret
    exact ⟨by first | rfl | (simp; done) | (simp [*]; done), by repeat (first | exact Drawn0.refl _ | apply Drawn0.step)⟩

/-! ### cx_check: function 58 -/
def cx_check.f (k : Nat) (a0_0 : Int) (a0_1 : Int) (a0_2 : Int) (a1_0 : Int) (a1_1 : Int) (a1_2 : Int) : Option (Int) := (cx_Check.f k a0_0 a0_1 a0_2).bind fun t117 => ((cx_Check.f k a1_0 a1_1 a1_2).bind fun t118 => ((cmp_Or__api_Errno.f k (([t117, t118] : List Int))).bind fun t122 => (some t122)))
theorem cx_check.mono : ∀ a0 a1 a2 a3 a4 a5 k, LeO (cx_check.f k a0 a1 a2 a3 a4 a5) (cx_check.f (k + 1) a0 a1 a2 a3 a4 a5) := by
 intro a0 a1 a2 a3 a4 a5 k
 unfold cx_check.f
 repeat' first
   | (with_reducible exact cmp_Or__api_Errno.mono _ _)
   | (with_reducible exact cx_Check.mono _ _ _ _)
   | (with_reducible exact LeO.refl _)
   | (with_reducible exact LeO.none _)
   | (with_reducible refine LeO.ite ?_ ?_)
   | (with_reducible refine LeO.bind ?_ (fun _ => ?_))
   | exact cmp_Or__api_Errno.mono _ _
   | exact cx_Check.mono _ _ _ _
   | exact LeO.none _
   | refine LeO.ite ?_ ?_
   | refine LeO.bind ?_ (fun _ => ?_)
set_option maxHeartbeats 8000000 in
set_option maxRecDepth 100000 in
theorem cx_check.calls (k : Nat) (a0_0 : Int) (a0_1 : Int) (a0_2 : Int) (a1_0 : Int) (a1_1 : Int) (a1_2 : Int) (r : Int) (w : World) (h : cx_check.f k a0_0 a0_1 a0_2 a1_0 a1_1 a1_2 = some r) :
  Calls Try.prog 58 #[.agg #[.int .i64 a0_0, .int .i64 a0_1, .int .i64 a0_2], .agg #[.int .i64 a1_0, .int .i64 a1_1, .int .i64 a1_2]] w fun e w' => e = .returned (.int .i64 r) ∧ Below w.heap.size w w' := by
 have hu36 := Try.underlying36
 have HB := Aside0.mk (Below.refl w.heap.size w)
 have H : ((cx_Check.f k a0_0 a0_1 a0_2).bind fun t117 => ((cx_Check.f k a1_0 a1_1 a1_2).bind fun t118 => ((cmp_Or__api_Errno.f k (([t117, t118] : List Int))).bind fun t122 => (some t122)))) = some r := h
 clear h
 replace H := Option.bind_eq_some_iff.mp H
 obtain ⟨t117, A30, H⟩ := H
 replace H : ((cx_Check.f k a1_0 a1_1 a1_2).bind fun t118 => ((cmp_Or__api_Errno.f k (([t117, t118] : List Int))).bind fun t122 => (some t122))) = some r := H
 have A3 := Aside0.mk A30
 clear A30
 replace H := Option.bind_eq_some_iff.mp H
 obtain ⟨t118, A40, H⟩ := H
 replace H : ((cmp_Or__api_Errno.f k (([t117, t118] : List Int))).bind fun t122 => (some t122)) = some r := H
 have A4 := Aside0.mk A40
 clear A40
 obtain ⟨y119, hy119⟩ : ∃ y_ : List Int, y_ = (([t117, t118] : List Int)) := ⟨_, rfl⟩
 replace H : ((cmp_Or__api_Errno.f k y119).bind fun t122 => (some t122)) = some r := by first | (rw [hy119]; with_reducible exact H) | (have H2_ := (Option.bind_some _ _).symm.trans H; rw [hy119]; with_reducible exact H2_) | (have H2_ := (Option.bind_some _ _).symm.trans H; with_reducible exact H2_) | with_reducible exact H | (rw [hy119]; exact H) | exact H
 have Ny119 := Aside0.mk hy119
 clear hy119
 replace H := Option.bind_eq_some_iff.mp H
 obtain ⟨t122, A50, H⟩ := H
 replace H : (some t122) = some r := H
 have A5 := Aside0.mk A50
 clear A50
 obtain rfl := Option.some.inj H
 go_enter Try.func58, Try.ntmps58
 try go_wp2_with (first | ((with_reducible refine gate_dst (N := 2) rfl ?_); refine box_event ?hg (N := 2) ?hd (cs := #[.int .i64 a0_0, .int .i64 a0_1, .int .i64 a0_2]) (t := 36) ?hr ?_; (case hd => rfl); (case hg => rfl); (case hr => first | (go_simp; done) | (go_simp; rfl)); intro gb115 hg w6 hbox hb; have n0_ := Aside0.mk (below_step (by repeat (first | (with_reducible first | exact HB.out | apply below_alloc | apply pw_below_drewN | apply below_drew1) | exact HB.out)) hb); have n1_ := Aside0.mk (hbox); have n2_ := Aside0.mk ((by rw [hg]; exact (below_size (by repeat (first | (with_reducible first | exact HB.out | apply below_alloc | apply pw_below_drewN | apply below_drew1) | exact HB.out))) : w.heap.size ≤ gb115)); have n3_ := Aside0.mk ((by rw [hg]; exact (below_size (by repeat (first | (with_reducible first | exact HB.out | apply below_alloc | apply pw_below_drewN | apply below_drew1) | exact HB.out))) : w.heap.size ≤ gb115)); clear HB; have HB := n0_; have BK115 := n1_; have GW115 := n2_; have GE115 := n3_; clear n0_ n1_ n2_ n3_; clear hb hbox hg) | ((with_reducible refine gate_dst (N := 3) rfl ?_); refine box_event ?hg (N := 3) ?hd (cs := #[.int .i64 a1_0, .int .i64 a1_1, .int .i64 a1_2]) (t := 36) ?hr ?_; (case hd => rfl); (case hg => rfl); (case hr => first | (go_simp; done) | (go_simp; rfl)); intro gb116 hg w7 hbox hb; have n0_ := Aside0.mk (blk_below (g := gb115) (o := .cells #[.int .i64 a0_0, .int .i64 a0_1, .int .i64 a0_2] 36 (0, 0)) (by (with_reducible repeat (first | refine blk_drewN ?_ _ | refine blk_drew ?_ | refine blk_alloc ?_ _)); exact BK115.out) hb); have n1_ := Aside0.mk (below_step (by repeat (first | (with_reducible first | exact HB.out | apply below_alloc | apply pw_below_drewN | apply below_drew1 | refine below_set ?_ GE115.out) | exact HB.out)) hb); have n2_ := Aside0.mk (hbox); have n3_ := Aside0.mk ((by rw [hg]; exact (below_size (by repeat (first | (with_reducible first | exact HB.out | apply below_alloc | apply pw_below_drewN | apply below_drew1 | refine below_set ?_ GE115.out) | exact HB.out))) : w.heap.size ≤ gb116)); have n4_ := Aside0.mk ((by rw [hg]; exact (below_size (by repeat (first | (with_reducible first | exact HB.out | apply below_alloc | apply pw_below_drewN | apply below_drew1 | refine below_set ?_ GE115.out) | exact HB.out))) : w.heap.size ≤ gb116)); have n5_ := Aside0.mk ((by rw [hg]; exact Nat.ne_of_lt (blk_lt (g := gb115) (o := .cells #[.int .i64 a0_0, .int .i64 a0_1, .int .i64 a0_2] 36 (0, 0)) (by (with_reducible repeat (first | refine blk_drewN ?_ _ | refine blk_drew ?_ | refine blk_alloc ?_ _)); exact BK115.out)) : gb115 ≠ gb116)); have n6_ := Aside0.mk ((by rw [hg]; exact Nat.ne_of_gt (blk_lt (g := gb115) (o := .cells #[.int .i64 a0_0, .int .i64 a0_1, .int .i64 a0_2] 36 (0, 0)) (by (with_reducible repeat (first | refine blk_drewN ?_ _ | refine blk_drew ?_ | refine blk_alloc ?_ _)); exact BK115.out)) : gb116 ≠ gb115)); clear BK115; clear HB; have BK115 := n0_; have HB := n1_; have BK116 := n2_; have GW116 := n3_; have GE116 := n4_; have NB115_116 := n5_; have NB116_115 := n6_; clear n0_ n1_ n2_ n3_ n4_ n5_ n6_; clear hb hbox hg))
 have n0_ := Aside0.mk (blk_drew BK115.out)
 have n1_ := Aside0.mk (blk_drew BK116.out)
 have n2_ := Aside0.mk (below_drew1 HB.out)
 clear BK115
 clear BK116
 clear HB
 have BK115 := n0_
 have BK116 := n1_
 have HB := n2_
 clear n0_ n1_ n2_
 refine start_ (n := 7) (S := fun w' => w'.cell? ⟨gb115, 0, none⟩ = some (.int .i64 a0_0) ∧ w'.cell? ⟨gb115, 1, none⟩ = some (.int .i64 a0_1) ∧ w'.cell? ⟨gb115, 2, none⟩ = some (.int .i64 a0_2) ∧ w'.cell? ⟨gb116, 0, none⟩ = some (.int .i64 a1_0) ∧ w'.cell? ⟨gb116, 1, none⟩ = some (.int .i64 a1_1) ∧ w'.cell? ⟨gb116, 2, none⟩ = some (.int .i64 a1_2)) (ds := []) #[false, false, false, false, false, false, false] (by kernel_rfl) rfl rfl ⟨(blk_cell BK115.out 0).trans rfl, (blk_cell BK115.out 1).trans rfl, (blk_cell BK115.out 2).trans rfl, (blk_cell BK116.out 0).trans rfl, (blk_cell BK116.out 1).trans rfl, (blk_cell BK116.out 2).trans rfl⟩ (fun hHeld => ?_)
 generalize w7.drew = w8 at BK115 BK116 HB hHeld ⊢
 refine take_ (i := 0) (N := some 5) (v := ?_) (a' := ?_) #[true, false, false, false, false, false, false] rfl rfl (by kernel_rfl) (fun _ _ _ h => h) (Or.inl ⟨by rfl, ?_⟩) hHeld ?_ ?_
 rotate_left
 ·rintro w' ⟨s0, s1, s2, s3, s4, s5⟩
  go_simp
  with_reducible rfl
 rotate_left
 ·simp only [Act.put, List.setIfInBounds_toArray, List.set_cons_zero, List.set_cons_succ, i64_w, i32_w]
  rfl
 refine take_ (i := 2) (N := some 7) (v := ?_) (a' := ?_) #[true, false, true, false, false, false, false] rfl rfl (by kernel_rfl) (fun _ _ _ h => h) (Or.inl ⟨by rfl, ?_⟩) hHeld ?_ ?_
 rotate_left
 ·rintro w' ⟨s0, s1, s2, s3, s4, s5⟩
  go_simp
  with_reducible rfl
 rotate_left
 ·simp only [Act.put, List.setIfInBounds_toArray, List.set_cons_zero, List.set_cons_succ, i64_w, i32_w]
  rfl
 refine one_ (i := 1) (N := some 6) #[true, true, true, false, false, false, false] rfl rfl (by kernel_rfl) (by decide) (fun K hK => ?_)
 refine goes_ Try.func30 (by kernel_rfl) rfl #[.agg #[.int .i64 a0_0, .int .i64 a0_1, .int .i64 a0_2]] (by rfl) rfl rfl (by (try simp only [List.map_toArray, List.map_cons, List.map_nil]); first | done | rfl | (simp only [List.length_drop, List.length_take]; rfl)) ?_
 with_reducible refine (cx_Check.calls k a0_0 a0_1 a0_2 t117 _ A3.out).mono ?_
 rintro e w9 ⟨rfl, hb⟩
 refine ⟨_, rfl, ?_⟩
 have n0_ := Aside0.mk (blk_below (g := gb115) (o := .cells #[.int .i64 a0_0, .int .i64 a0_1, .int .i64 a0_2] 36 (0, 0)) (by (with_reducible repeat (first | refine blk_drewN ?_ _ | refine blk_drew ?_ | refine blk_alloc ?_ _)); exact BK115.out) hb)
 have n1_ := Aside0.mk (blk_below (g := gb116) (o := .cells #[.int .i64 a1_0, .int .i64 a1_1, .int .i64 a1_2] 36 (0, 0)) (by (with_reducible repeat (first | refine blk_drewN ?_ _ | refine blk_drew ?_ | refine blk_alloc ?_ _)); exact BK116.out) hb)
 have n2_ := Aside0.mk (below_step (by repeat (first | (with_reducible first | exact HB.out | apply below_alloc | apply pw_below_drewN | apply below_drew1 | refine below_set ?_ GE115.out | refine below_set ?_ GE116.out) | exact HB.out)) hb)
 clear BK115
 clear BK116
 clear HB
 have BK115 := n0_
 have BK116 := n1_
 have HB := n2_
 clear n0_ n1_ n2_
 (try clear hb)
 (try clear hb2)
 (try clear hk)
 (try clear hi)
 refine hK.out _ _ ⟨(blk_cell BK115.out 0).trans rfl, (blk_cell BK115.out 1).trans rfl, (blk_cell BK115.out 2).trans rfl, (blk_cell BK116.out 0).trans rfl, (blk_cell BK116.out 1).trans rfl, (blk_cell BK116.out 2).trans rfl⟩ (fun hHeld => ?_)
 clear hK K
 refine norm_ (a' := ?_) ?_ ?_
 rotate_left
 ·show Act.put _ (some 6) _ = _
  simp only [Act.put, List.setIfInBounds_toArray, List.set_cons_zero, List.set_cons_succ, i64_w, i32_w]
  rfl
 refine one_ (i := 3) (N := some 8) #[true, true, true, true, false, false, false] rfl rfl (by kernel_rfl) (by decide) (fun K hK => ?_)
 refine goes_ Try.func30 (by kernel_rfl) rfl #[.agg #[.int .i64 a1_0, .int .i64 a1_1, .int .i64 a1_2]] (by rfl) rfl rfl (by (try simp only [List.map_toArray, List.map_cons, List.map_nil]); first | done | rfl | (simp only [List.length_drop, List.length_take]; rfl)) ?_
 with_reducible refine (cx_Check.calls k a1_0 a1_1 a1_2 t118 _ A4.out).mono ?_
 rintro e w10 ⟨rfl, hb⟩
 refine ⟨_, rfl, ?_⟩
 have n0_ := Aside0.mk (blk_below (g := gb115) (o := .cells #[.int .i64 a0_0, .int .i64 a0_1, .int .i64 a0_2] 36 (0, 0)) (by (with_reducible repeat (first | refine blk_drewN ?_ _ | refine blk_drew ?_ | refine blk_alloc ?_ _)); exact BK115.out) hb)
 have n1_ := Aside0.mk (blk_below (g := gb116) (o := .cells #[.int .i64 a1_0, .int .i64 a1_1, .int .i64 a1_2] 36 (0, 0)) (by (with_reducible repeat (first | refine blk_drewN ?_ _ | refine blk_drew ?_ | refine blk_alloc ?_ _)); exact BK116.out) hb)
 have n2_ := Aside0.mk (below_step (by repeat (first | (with_reducible first | exact HB.out | apply below_alloc | apply pw_below_drewN | apply below_drew1 | refine below_set ?_ GE115.out | refine below_set ?_ GE116.out) | exact HB.out)) hb)
 clear BK115
 clear BK116
 clear HB
 have BK115 := n0_
 have BK116 := n1_
 have HB := n2_
 clear n0_ n1_ n2_
 (try clear hb)
 (try clear hb2)
 (try clear hk)
 (try clear hi)
 refine hK.out _ _ ⟨(blk_cell BK115.out 0).trans rfl, (blk_cell BK115.out 1).trans rfl, (blk_cell BK115.out 2).trans rfl, (blk_cell BK116.out 0).trans rfl, (blk_cell BK116.out 1).trans rfl, (blk_cell BK116.out 2).trans rfl⟩ (fun hHeld => ?_)
 clear hK K
 refine norm_ (a' := ?_) ?_ ?_
 rotate_left
 ·show Act.put _ (some 8) _ = _
  simp only [Act.put, List.setIfInBounds_toArray, List.set_cons_zero, List.set_cons_succ, i64_w, i32_w]
  rfl
 refine one_ (i := 4) (N := some 9) #[true, true, true, true, true, false, false] rfl rfl (by kernel_rfl) (by decide) (fun K hK => ?_)
 refine Kd.R_lit_step (Kd.int .i64) _ 24 ?hg (N := 9) ?hd (xs := ([t117, t118] : List Int)) (inner := [.int .i64 t117, .int .i64 t118]) (ok := fun _ => True) (okp := fun _ => True) ?hr ?hp (fun _ hk => hk) trivial (Below.refl _ _) (Nat.le_refl _) (by simp) ?_; (case hd => rfl); (case hg => rfl); (case hr => first | (go_simp; done) | (go_simp; rfl)); (case hp => exact (Reps.one (show Kd.M (Kd.int .i64) _ _ _ t117 [.int .i64 t117] from rfl) (Reps.one (show Kd.M (Kd.int .i64) _ _ _ t118 [.int .i64 t118] from rfl) (Reps.none _ _))))
 intro v120 w11 ho12 hb hg_ hnew_
 clear hg_ hnew_
 (first | rw [← Ny119.out] at ho12 | (simp only [Int.reduceToNat] at ho12; rw [← Ny119.out] at ho12))
 have n0_ := Aside0.mk (Kd.R_lower ho12 (below_size (by repeat (first | (with_reducible first | exact HB.out | apply below_alloc | apply pw_below_drewN | apply below_drew1 | refine below_set ?_ GE115.out | refine below_set ?_ GE116.out) | exact HB.out))))
 have n1_ := Aside0.mk (blk_below (g := gb115) (o := .cells #[.int .i64 a0_0, .int .i64 a0_1, .int .i64 a0_2] 36 (0, 0)) (by (with_reducible repeat (first | refine blk_drewN ?_ _ | refine blk_drew ?_ | refine blk_alloc ?_ _)); exact BK115.out) hb)
 have n2_ := Aside0.mk (blk_below (g := gb116) (o := .cells #[.int .i64 a1_0, .int .i64 a1_1, .int .i64 a1_2] 36 (0, 0)) (by (with_reducible repeat (first | refine blk_drewN ?_ _ | refine blk_drew ?_ | refine blk_alloc ?_ _)); exact BK116.out) hb)
 have n3_ := Aside0.mk (below_step (by repeat (first | (with_reducible first | exact HB.out | apply below_alloc | apply pw_below_drewN | apply below_drew1 | refine below_set ?_ GE115.out | refine below_set ?_ GE116.out) | exact HB.out)) hb)
 clear BK115
 clear BK116
 clear HB
 have HO121 := n0_
 have BK115 := n1_
 have BK116 := n2_
 have HB := n3_
 clear n0_ n1_ n2_ n3_
 clear hb ho12
 obtain ⟨Ao13, co13, eo13⟩ := Kd.R_slice HO121.out
 (first | subst eo13 | (injection eo13 with f1_ f2_ f3_; have f4_ := f1_.symm; have f5_ := f3_.symm; clear f1_ f2_ f3_; subst f4_; subst f5_))
 refine hK.out _ _ ⟨(blk_cell BK115.out 0).trans rfl, (blk_cell BK115.out 1).trans rfl, (blk_cell BK115.out 2).trans rfl, (blk_cell BK116.out 0).trans rfl, (blk_cell BK116.out 1).trans rfl, (blk_cell BK116.out 2).trans rfl⟩ (fun hHeld => ?_)
 clear hK K
 refine norm_ (a' := ?_) ?_ ?_
 rotate_left
 ·show Act.put _ (some 9) _ = _
  simp only [Act.put, List.setIfInBounds_toArray, List.set_cons_zero, List.set_cons_succ, i64_w, i32_w]
  rfl
 refine one_ (i := 5) (N := some 10) #[true, true, true, true, true, true, false] rfl rfl (by kernel_rfl) (by decide) (fun K hK => ?_)
 refine goes_ Try.func47 (by kernel_rfl) rfl #[.slice Ao13 y119.length co13] (by rfl) rfl rfl (by (try simp only [List.map_toArray, List.map_cons, List.map_nil]); first | done | rfl | (simp only [List.length_drop, List.length_take]; rfl)) ?_
 with_reducible refine (cmp_Or__api_Errno.calls k _ _ y119 t122 _ ?side1 ?side2 A5.out).mono ?_
 (case side1 => repeat (first | exact (Kd.R_reads' HO121.out).2.2 | (with_reducible refine Kd.C_alloc ?_ _) | (with_reducible refine Kd.C_drewN ?_ _) | (with_reducible refine Kd.C_drew ?_)))
 (case side2 => exact (Kd.R_reads' HO121.out).2.1)
 rintro e w' ⟨rfl, ⟨nd, rfl⟩⟩
 refine ⟨_, rfl, ?_⟩
 refine hK.out _ _ ⟨(blk_cell BK115.out 0).trans rfl, (blk_cell BK115.out 1).trans rfl, (blk_cell BK115.out 2).trans rfl, (blk_cell BK116.out 0).trans rfl, (blk_cell BK116.out 1).trans rfl, (blk_cell BK116.out 2).trans rfl⟩ (fun hHeld => ?_)
 clear hK K
 refine norm_ (a' := ?_) ?_ ?_
 rotate_left
 ·show Act.put _ (some 10) _ = _
  simp only [Act.put, List.setIfInBounds_toArray, List.set_cons_zero, List.set_cons_succ, i64_w, i32_w]
  rfl
 refine pure_ (i := 6) (N := some 4) (v := ?_) (a' := ?_) #[true, true, true, true, true, true, true] rfl rfl (by kernel_rfl) (fun _ _ _ h => h) (Or.inl ⟨by rfl, ?_⟩) ?_ ?_
 rotate_left
 ·intro w'
  go_simp
  with_reducible rfl
 rotate_left
 ·simp only [Act.put, List.setIfInBounds_toArray, List.set_cons_zero, List.set_cons_succ, i64_w, i32_w]
  rfl
 refine done_ (by kernel_rfl) ?_
 try go_wp2
 go_ret
 exact ⟨by first | rfl | (simp [errW_none, errW_some] <;> rfl) | (simp [*, errW_none, errW_some] <;> rfl), by repeat (first | (with_reducible first | exact HB.out | apply below_alloc | apply pw_below_drewN | apply below_drew1 | refine below_set ?_ GE115.out | refine below_set ?_ GE116.out) | exact HB.out)⟩

/-! ### cx_reduced: function 59 (by hand) -/
def cx_reduced.g (k : Nat) (q a0 a1 a2 : Int) : Option (Int × Int × Int × Int) := if q = 0 then none else (cx_Check.f k (wrap64 (Int.tdiv a0 q)) (wrap64 (Int.tdiv a1 q)) (wrap64 (Int.tdiv a2 q))).bind fun t => if t = 0 then some (wrap64 (Int.tdiv a0 q), wrap64 (Int.tdiv a1 q), wrap64 (Int.tdiv a2 q), 0) else some (0, 0, 0, 16)
def cx_reduced.f (k : Nat) (a0 : Int) (a1 : Int) (a2 : Int) : Option (Int × Int × Int × Int) := (cx_gcd.f k (([a0, a1, a2] : List Int))).bind fun g => cx_reduced.g k (if a2 < 0 then wrap64 (-g) else g) a0 a1 a2
theorem cx_reduced.mono : ∀ a0 a1 a2 k, LeO (cx_reduced.f k a0 a1 a2) (cx_reduced.f (k + 1) a0 a1 a2) := by
 intro a0 a1 a2 k
 unfold cx_reduced.f cx_reduced.g
 exact LeO.bind (cx_gcd.mono _ _) (fun _ => LeO.ite (LeO.refl _) (LeO.bind (cx_Check.mono _ _ _ _) (fun _ => LeO.refl _)))
/-- A row that has just been laid. -/
theorem cx_reduced.C_new {α : Type} (d : Kd α) (W : World) (e : Nat) (inner : List Value) (xs : List α) (hr : Reps (d.K (W.alloc (.cells inner.toArray e))) d.sz xs inner) (hl : xs.length ≤ 9223372036854775807) : Kd.C d (W.alloc (.cells inner.toArray e)) (some ⟨W.heap.size, 0, none⟩) xs.length xs := by
 refine ⟨rfl, hl, fun _ => ⟨_, rfl, fun j p hj => ?_⟩⟩
 have hjl : j < xs.length := (List.getElem?_eq_some_iff.1 hj).1
 have h1 : j * d.sz + d.sz ≤ inner.length := by rw [hr.1, ← Nat.succ_mul]; exact Nat.mul_le_mul_right _ hjl
 refine ⟨(inner.drop (j * d.sz)).take d.sz, by rw [List.length_take, List.length_drop]; omega, hr.2 j p hj, fun i u hu => ?_⟩
 have hi : i < d.sz := by
  have := (List.getElem?_eq_some_iff.1 hu).1
  rw [List.length_take] at this
  omega
 have e1 : (⟨W.heap.size, 0, none⟩ : Addr).add (j * d.sz + i) = ⟨W.heap.size, j * d.sz + i, none⟩ := by unfold Addr.add; split <;> simp_all
 rw [e1, blk_cell (blk_new W (.cells inner.toArray e)), List.getElem?_toArray]
 rw [List.getElem?_take, if_pos hi, List.getElem?_drop] at hu
 exact hu
theorem cx_reduced.C_new_ints (k : IntKind) (W : World) (e : Nat) (xs : List Int) (hl : xs.length ≤ 9223372036854775807) : Kd.C (Kd.int k) (W.alloc (.cells (nums k xs).toArray e)) (some ⟨W.heap.size, 0, none⟩) xs.length xs := by
 refine cx_reduced.C_new (Kd.int k) W e (nums k xs) xs ⟨by rw [nums_length]; exact (Nat.mul_one _).symm, fun j p hj => ?_⟩ hl
 show (((nums k xs).drop (j * 1)).take 1) = [Value.int k p]
 rw [Nat.mul_one]
 have hjl : j < (nums k xs).length := by rw [nums_length]; exact (List.getElem?_eq_some_iff.1 hj).1
 rw [List.drop_eq_getElem_cons hjl, List.take_succ_cons, List.take_zero]
 simp only [nums, List.getElem_map]
 rw [(List.getElem?_eq_some_iff.1 hj).2]
set_option maxHeartbeats 8000000 in
set_option maxRecDepth 100000 in
theorem cx_reduced.calls (k : Nat) (a0 : Int) (a1 : Int) (a2 : Int) (r1 : Int) (r2 : Int) (r3 : Int) (r4 : Int) (w : World) (h : cx_reduced.f k a0 a1 a2 = some (r1, r2, r3, r4)) :
  Calls Try.prog 59 #[.int .i64 a0, .int .i64 a1, .int .i64 a2] w fun e w' => e = .returned (.tuple #[.agg #[.int .i64 r1, .int .i64 r2, .int .i64 r3], .int .i64 r4]) ∧ Below w.heap.size w w' := by
 have hu_ := Try.underlying36
 obtain ⟨g, hg, H⟩ := Option.bind_eq_some_iff.mp (show (cx_gcd.f k (([a0, a1, a2] : List Int))).bind _ = _ from h)
 have HG := Aside0.mk hg
 clear h hg
 have hb0 : Below w.heap.size w (w.alloc (.cells #[.int .i64 0, .int .i64 0, .int .i64 0] 36)) := (Below.refl _ w).alloc (Nat.le_refl _) _
 have hb1 := hb0.alloc hb0.size (.cells #[.int .i64 a0, .int .i64 a1, .int .i64 a2] 2)
 have hL : Kd.C (Kd.int .i64) ((w.alloc (.cells #[.int .i64 0, .int .i64 0, .int .i64 0] 36)).alloc (.cells #[.int .i64 a0, .int .i64 a1, .int .i64 a2] 2)) (some ⟨w.heap.size + 1, 0, none⟩) 3 [a0, a1, a2] := by
  have h := cx_reduced.C_new_ints .i64 (w.alloc (.cells #[.int .i64 0, .int .i64 0, .int .i64 0] 36)) 2 [a0, a1, a2] (by simp)
  rw [show (w.alloc (.cells #[.int .i64 0, .int .i64 0, .int .i64 0] 36)).heap.size = w.heap.size + 1 by simp] at h
  exact h
 have hbk := blk_alloc (blk_new w (.cells #[.int .i64 0, .int .i64 0, .int .i64 0] 36)) (.cells #[.int .i64 a0, .int .i64 a1, .int .i64 a2] 2)
 have HB1 := Aside0.mk hb1
 have hcall := cx_gcd.calls k _ 3 [a0, a1, a2] g _ hL (by simp) HG.out
 simp only [List.length_cons, List.length_nil, Nat.zero_add, Nat.reduceAdd] at hcall
 have HCALL := Aside0.mk hcall
 clear hcall
 have HBK := Aside0.mk hbk
 clear hb0 hb1 hL hbk
 unfold cx_reduced.g at H
 generalize hq : (if a2 < 0 then wrap64 (-g) else g) = q at H
 by_cases c0 : q = 0
 ·rw [if_pos c0] at H; exact absurd H (by simp)
 ·rw [if_neg c0] at H
  obtain ⟨t, ht, H⟩ := Option.bind_eq_some_iff.mp H
  have HT := Aside0.mk ht
  clear ht
  have z0 : (q == 0) = false := beq_eq_false_iff_ne.mpr c0
  have z1 : (q != 0) = true := bne_iff_ne.mpr c0
  have z2 : decide (q = 0) = false := decide_eq_false c0
  by_cases c1 : a2 < 0
  ·rw [if_pos c1] at hq
   have f1 : decide (a2 < 0) = true := decide_eq_true c1
   clear c1
   subst hq
   by_cases c2 : t = 0
   ·rw [if_pos c2] at H
    have f2 : (t != 0) = false := by rw [c2]; rfl
    simp only [Option.some.injEq, Prod.mk.injEq] at H
    obtain ⟨rfl, rfl, rfl, rfl⟩ := H
    clear c2
    go_enter Try.func59, Try.ntmps59
    go_wp2_with (go_at_call 56; ((with_reducible refine HCALL.out.mono ?_)); rintro e w1 ⟨rfl, hb⟩; have HB2 := Aside0.mk (below_step HB1.out hb); have HBK2 := Aside0.mk (blk_below HBK.out hb); clear hb)
    go_region
    go_wp2_with (go_at_call 30; ((with_reducible refine (cx_Check.calls k _ _ _ t _ HT.out).mono ?_)); rintro e w2 ⟨rfl, hb⟩; have HB3 := Aside0.mk (below_step (HB2.out.alloc HB2.out.size _).drew hb); have hk := blk_below (blk_drew (blk_alloc HBK2.out _)) hb; have HBK3 := Aside0.mk hk; have d0 := (blk_cell hk 0).trans rfl; have d1 := (blk_cell hk 1).trans rfl; have d2 := (blk_cell hk 2).trans rfl; have y0 := blk_frozen hk 0; have y1 := blk_frozen hk 1; have y2 := blk_frozen hk 2; have hk9 := blk_below (blk_drew (blk_new w1 _)) hb; have b0 := (blk_cell hk9 0).trans rfl; have b1 := (blk_cell hk9 1).trans rfl; have b2 := (blk_cell hk9 2).trans rfl; have n9 : w.heap.size ≠ w1.heap.size := Nat.ne_of_lt (blk_lt HBK2.out); clear hb hk hk9)
    refine bodyPost_ret (results_ct rfl _ _ w.heap.size 36 _ (0, 0) _ rfl (blk_put (blk_put (blk_put HBK3.out 0 _ rfl) 1 _ rfl) 2 _ rfl) Try.underlying36 rfl (by kernel_rfl)) rfl ?_
    exact ⟨rfl, below_set (below_set (below_set HB3.out (Nat.le_refl _)) (Nat.le_refl _)) (Nat.le_refl _)⟩
   ·rw [if_neg c2] at H
    have f2 : (t != 0) = true := bne_iff_ne.mpr c2
    simp only [Option.some.injEq, Prod.mk.injEq] at H
    obtain ⟨rfl, rfl, rfl, rfl⟩ := H
    clear c2
    go_enter Try.func59, Try.ntmps59
    go_wp2_with (go_at_call 56; ((with_reducible refine HCALL.out.mono ?_)); rintro e w1 ⟨rfl, hb⟩; have HB2 := Aside0.mk (below_step HB1.out hb); have HBK2 := Aside0.mk (blk_below HBK.out hb); clear hb)
    go_region
    go_wp2_with (go_at_call 30; ((with_reducible refine (cx_Check.calls k _ _ _ t _ HT.out).mono ?_)); rintro e w2 ⟨rfl, hb⟩; have HB3 := Aside0.mk (below_step (HB2.out.alloc HB2.out.size _).drew hb); have hk := blk_below (blk_drew (blk_alloc HBK2.out _)) hb; have HBK3 := Aside0.mk hk; have d0 := (blk_cell hk 0).trans rfl; have d1 := (blk_cell hk 1).trans rfl; have d2 := (blk_cell hk 2).trans rfl; have y0 := blk_frozen hk 0; have y1 := blk_frozen hk 1; have y2 := blk_frozen hk 2; have hk9 := blk_below (blk_drew (blk_new w1 _)) hb; have b0 := (blk_cell hk9 0).trans rfl; have b1 := (blk_cell hk9 1).trans rfl; have b2 := (blk_cell hk9 2).trans rfl; have n9 : w.heap.size ≠ w1.heap.size := Nat.ne_of_lt (blk_lt HBK2.out); clear hb hk hk9)
    refine bodyPost_ret (results_ct rfl _ _ w.heap.size 36 _ (0, 0) _ rfl (blk_put (blk_put (blk_put HBK3.out 0 _ rfl) 1 _ rfl) 2 _ rfl) Try.underlying36 rfl (by kernel_rfl)) rfl ?_
    exact ⟨rfl, below_set (below_set (below_set HB3.out (Nat.le_refl _)) (Nat.le_refl _)) (Nat.le_refl _)⟩
  ·rw [if_neg c1] at hq
   have f1 : decide (a2 < 0) = false := decide_eq_false c1
   clear c1
   subst hq
   by_cases c2 : t = 0
   ·rw [if_pos c2] at H
    have f2 : (t != 0) = false := by rw [c2]; rfl
    simp only [Option.some.injEq, Prod.mk.injEq] at H
    obtain ⟨rfl, rfl, rfl, rfl⟩ := H
    clear c2
    go_enter Try.func59, Try.ntmps59
    go_wp2_with (go_at_call 56; ((with_reducible refine HCALL.out.mono ?_)); rintro e w1 ⟨rfl, hb⟩; have HB2 := Aside0.mk (below_step HB1.out hb); have HBK2 := Aside0.mk (blk_below HBK.out hb); clear hb)
    go_region
    go_wp2_with (go_at_call 30; ((with_reducible refine (cx_Check.calls k _ _ _ t _ HT.out).mono ?_)); rintro e w2 ⟨rfl, hb⟩; have HB3 := Aside0.mk (below_step (HB2.out.alloc HB2.out.size _).drew hb); have hk := blk_below (blk_drew (blk_alloc HBK2.out _)) hb; have HBK3 := Aside0.mk hk; have d0 := (blk_cell hk 0).trans rfl; have d1 := (blk_cell hk 1).trans rfl; have d2 := (blk_cell hk 2).trans rfl; have y0 := blk_frozen hk 0; have y1 := blk_frozen hk 1; have y2 := blk_frozen hk 2; have hk9 := blk_below (blk_drew (blk_new w1 _)) hb; have b0 := (blk_cell hk9 0).trans rfl; have b1 := (blk_cell hk9 1).trans rfl; have b2 := (blk_cell hk9 2).trans rfl; have n9 : w.heap.size ≠ w1.heap.size := Nat.ne_of_lt (blk_lt HBK2.out); clear hb hk hk9)
    refine bodyPost_ret (results_ct rfl _ _ w.heap.size 36 _ (0, 0) _ rfl (blk_put (blk_put (blk_put HBK3.out 0 _ rfl) 1 _ rfl) 2 _ rfl) Try.underlying36 rfl (by kernel_rfl)) rfl ?_
    exact ⟨rfl, below_set (below_set (below_set HB3.out (Nat.le_refl _)) (Nat.le_refl _)) (Nat.le_refl _)⟩
   ·rw [if_neg c2] at H
    have f2 : (t != 0) = true := bne_iff_ne.mpr c2
    simp only [Option.some.injEq, Prod.mk.injEq] at H
    obtain ⟨rfl, rfl, rfl, rfl⟩ := H
    clear c2
    go_enter Try.func59, Try.ntmps59
    go_wp2_with (go_at_call 56; ((with_reducible refine HCALL.out.mono ?_)); rintro e w1 ⟨rfl, hb⟩; have HB2 := Aside0.mk (below_step HB1.out hb); have HBK2 := Aside0.mk (blk_below HBK.out hb); clear hb)
    go_region
    go_wp2_with (go_at_call 30; ((with_reducible refine (cx_Check.calls k _ _ _ t _ HT.out).mono ?_)); rintro e w2 ⟨rfl, hb⟩; have HB3 := Aside0.mk (below_step (HB2.out.alloc HB2.out.size _).drew hb); have hk := blk_below (blk_drew (blk_alloc HBK2.out _)) hb; have HBK3 := Aside0.mk hk; have d0 := (blk_cell hk 0).trans rfl; have d1 := (blk_cell hk 1).trans rfl; have d2 := (blk_cell hk 2).trans rfl; have y0 := blk_frozen hk 0; have y1 := blk_frozen hk 1; have y2 := blk_frozen hk 2; have hk9 := blk_below (blk_drew (blk_new w1 _)) hb; have b0 := (blk_cell hk9 0).trans rfl; have b1 := (blk_cell hk9 1).trans rfl; have b2 := (blk_cell hk9 2).trans rfl; have n9 : w.heap.size ≠ w1.heap.size := Nat.ne_of_lt (blk_lt HBK2.out); clear hb hk hk9)
    refine bodyPost_ret (results_ct rfl _ _ w.heap.size 36 _ (0, 0) _ rfl (blk_put (blk_put (blk_put HBK3.out 0 _ rfl) 1 _ rfl) 2 _ rfl) Try.underlying36 rfl (by kernel_rfl)) rfl ?_
    exact ⟨rfl, below_set (below_set (below_set HB3.out (Nat.le_refl _)) (Nat.le_refl _)) (Nat.le_refl _)⟩

end Go.Proofs.Ytnlaklkneaaakaa.Q
