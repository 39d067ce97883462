-- Written by qprint.py (a program of this session) over the program of the kit that prints contracts. Not trusted: Lean checks it.
import Derived.Test.YtihmhcdcbcleeaaQ0
import Derived.Test.YtihmhcdcbcleeaaQ5
namespace Go.Proofs.Ytihmhcdcbcleeaa.Q
open Go.RowKit Go.Proofs.YtihmhcdcbcleeaaW.PrintWords Go.Proofs.YtihmhcdcbcleeaaW.PrintLast Go.Proofs.YtihmhcdcbcleeaaW.PrintMore
attribute [local go_sem] max2_int min2_int max_two min_two max_three min_three max_four min_four   -- for this text's walks alone
set_option linter.unusedVariables false
set_option linter.unusedSimpArgs false

/-! ### sky_Merge: function 11 (by hand) -/
def sky_Merge.good (s : S33) : Bool := decide (0 ≤ s.f0 ∧ s.f0 < 8 ∧ 0 ≤ s.f1 ∧ s.f1 < 8)
def sky_Merge.at_ (s : S33) : Nat := s.f1.toNat * 8 + s.f0.toNat
def sky_Merge.put (m : List Int) (s : S33) : List Int := m.set (sky_Merge.at_ s) (wrap64 (m.getD (sky_Merge.at_ s) 0 + s.f2))
def sky_Merge.scan (m : List Int) : List Nat → List S33 → List S33 × Int
 | [], out => (out, 0)
 | n :: t, out => if m.getD n 0 > 1000 then ([], 16) else if m.getD n 0 > 0 then sky_Merge.scan m t (out ++ [⟨((n % 8 : Nat) : Int), ((n / 8 : Nat) : Int), m.getD n 0⟩]) else sky_Merge.scan m t out
def sky_Merge.f (k : Nat) (l0 : List S33) : Option (List S33 × Int) := (sky_Check.f k l0).bind fun e => if e = 0 then (if l0.length < 9223372036854775807 ∧ l0.all sky_Merge.good = true then some (sky_Merge.scan (l0.foldl sky_Merge.put (List.replicate 64 0)) (List.range 64) []) else none) else some ([], e)
theorem sky_Merge.put_len (m : List Int) (s : S33) : (sky_Merge.put m s).length = m.length := by simp [sky_Merge.put]
theorem sky_Merge.puts_len (l : List S33) : ∀ m : List Int, (l.foldl sky_Merge.put m).length = m.length := by
 induction l with
 | nil => intro m; rfl
 | cons s t ih => intro m; rw [List.foldl_cons, ih, sky_Merge.put_len]
theorem sky_Merge.idx_agg {P : Program} (W : World) (t e len sz : Nat) (cs : Array Value) (y : Nat) (ht : P.underlying t = some (.array len e)) (hy : y < len) (d : TypeDesc) (he : P.underlying e = some d) (hd : (match d with | .struct _ | .array _ _ => true | _ => false) = true) (hs : (P.info? e).map (·.size) = some sz) :
  (Instr.index t (.agg cs) (.int .i64 (y : Int))).run P W = .ok (.agg (cs.extract (y * sz) (y * sz + sz))) W := by
 cases hq : P.info? e with
 | none => simp [hq] at hs
 | some i =>
  have hs' : i.size = sz := by simpa [hq] using hs
  have hlt : (0 : Int) ≤ (y : Int) ∧ (y : Int) < (len : Int) := ⟨by omega, by omega⟩
  have hagg : (isAgg e).run P W = .ok true W := by
   unfold isAgg
   rw [Sem.run_bind, run_underlying he W]
   cases d <;> simp_all
  unfold Instr.index
  simp [asIntOf, Sem.run_bind, run_underlying ht, hlt, part, hagg, sizeOf, typeInfo, hq, hs']
  omega
theorem sky_Merge.idx_one {P : Program} (W : World) (t e len : Nat) (cs : Array Value) (v : Value) (y : Nat) (ht : P.underlying t = some (.array len e)) (hy : y < len) (d : TypeDesc) (he : P.underlying e = some d) (hd : (match d with | .struct _ | .array _ _ => true | _ => false) = false) (hs : (P.info? e).map (·.size) = some 1) (hv : cs[y]? = some v) :
  (Instr.index t (.agg cs) (.int .i64 (y : Int))).run P W = .ok v W := by
 cases hq : P.info? e with
 | none => simp [hq] at hs
 | some i =>
  have hs' : i.size = 1 := by simpa [hq] using hs
  have hlt : (0 : Int) ≤ (y : Int) ∧ (y : Int) < (len : Int) := ⟨by omega, by omega⟩
  have hagg : (isAgg e).run P W = .ok false W := by
   unfold isAgg
   rw [Sem.run_bind, run_underlying he W]
   cases d <;> simp_all
  unfold Instr.index
  simp [asIntOf, Sem.run_bind, run_underlying ht, hlt, part, hagg, sizeOf, typeInfo, hq, hs', hv]
  omega
theorem sky_Merge.row_eq (m : List Int) (y : Nat) : (nums .i64 m).toArray.extract (y * 8) (y * 8 + 8) = (nums .i64 ((m.drop (y * 8)).take 8)).toArray := by
 apply Array.toList_inj.mp
 simp [nums, List.map_take, List.map_drop]
theorem sky_Merge.row_get (m : List Int) (hm : m.length = 64) (y x : Nat) (hy : y < 8) (hx : x < 8) : (nums .i64 ((m.drop (y * 8)).take 8)).toArray[x]? = some (.int .i64 (m.getD (y * 8 + x) 0)) := by
 have h : y * 8 + x < m.length := by omega
 rw [List.getElem?_toArray]
 simp [nums, List.getElem?_take, hx, List.getElem?_drop, List.getElem?_map, List.getElem?_eq_getElem h, List.getD_eq_getElem?_getD]
theorem sky_Merge.scan_step (m : List Int) (y x : Nat) (hy : y < 8) (hx : x < 8) (out : List S33) : sky_Merge.scan m (List.range' (y * 8 + x) (64 - (y * 8 + x))) out =
  if m.getD (y * 8 + x) 0 > 1000 then ([], 16) else if m.getD (y * 8 + x) 0 > 0 then sky_Merge.scan m (List.range' (y * 8 + (x + 1)) (64 - (y * 8 + (x + 1)))) (out ++ [⟨(x : Int), (y : Int), m.getD (y * 8 + x) 0⟩]) else sky_Merge.scan m (List.range' (y * 8 + (x + 1)) (64 - (y * 8 + (x + 1)))) out := by
 have e : 64 - (y * 8 + x) = (64 - (y * 8 + (x + 1))) + 1 := by omega
 have e1 : (y * 8 + x) % 8 = x := by omega
 have e2 : (y * 8 + x) / 8 = y := by omega
 rw [e, List.range'_succ, sky_Merge.scan, e1, e2]
 rfl
theorem sky_Merge.heap_rowed (wr : World) (o : Obj) (row : Array Value) (k : Nat) (hk : k < wr.heap.size) : ((wr.alloc o).setRow wr.heap.size row).heap[k]? = wr.heap[k]? := by
 rw [setRow_other _ _ _ _ (by omega)]; exact Below.heap_alloc wr o k hk
theorem sky_Merge.below_rowed {B : Nat} {w wr : World} (h : Below B w wr) (hB : B ≤ wr.heap.size) (o : Obj) (row : Array Value) : Below B w ((wr.alloc o).setRow wr.heap.size row) := by
 have h2 := h.alloc hB o
 refine ⟨h2.os, h2.tape, h2.output, ?_, fun k hk => ?_⟩
 ·rw [size_setRow]; exact h2.size
 ·rw [setRow_other _ _ _ _ (by omega)]; exact h2.block k hk
theorem sky_Merge.mono : ∀ a0 k, LeO (sky_Merge.f k a0) (sky_Merge.f (k + 1) a0) := by
 intro a0 k
 unfold sky_Merge.f
 exact LeO.bind (sky_Check.mono a0 k) (fun _ => LeO.refl _)
set_option maxHeartbeats 8000000 in
set_option maxRecDepth 100000 in
theorem sky_Merge.calls (k : Nat) (A0 : Option Addr) (c0 : Nat) (l0 : List (S33)) (r1 : List (S33)) (r2 : Int) (w : World) (hr0 : Kd.C k33 w A0 l0.length l0) (hc0 : l0.length ≤ c0) (h : sky_Merge.f k l0 = some (r1, r2)) :
  Calls Try.prog 11 #[.slice A0 l0.length c0] w fun e w' => ∃ v0_ : Value, e = .returned (.tuple #[v0_, .int .i64 r2]) ∧ Kd.R k33 33 w' w.heap.size (fun _ => True) v0_ r1 ∧ Below w.heap.size w w' := by
 have hu33 := Try.underlying33
 have HR0 := Aside0.mk hr0
 have HC0 := Aside0.mk hc0
 clear hr0 hc0
 obtain ⟨e0, he0, H⟩ := Option.bind_eq_some_iff.mp (show (sky_Check.f k l0).bind _ = _ from h)
 have HE := Aside0.mk he0
 clear h he0
 by_cases c1 : e0 = 0
 ·rw [if_pos c1] at H
  subst c1
  by_cases c2 : l0.length < 9223372036854775807 ∧ l0.all sky_Merge.good = true
  ·rw [if_pos c2] at H
   have HM := Aside0.mk c2.1
   have HG := Aside0.mk c2.2
   have HRES := Aside0.mk (Option.some.inj H)
   clear H c2
   go_enter Try.func11, Try.ntmps11
   go_wp2_with (go_at_call 27; refine (sky_Check.calls k _ _ l0 0 _ HR0.out HC0.out HE.out).mono ?_; rintro e w1 ⟨rfl, hb⟩; have HB := Aside0.mk hb; clear hb)
   go_loopg [20] l0.length (fun gk v20 w' => ∃ i : Nat, i ≤ l0.length ∧ l0.length - i ≤ gk ∧ v20 = .int .i64 i ∧ (∃ m : List Int, Aside0 (m.length = 64) ∧ Aside0 ((l0.drop i).foldl sky_Merge.put m = l0.foldl sky_Merge.put (List.replicate 64 0)) ∧ Aside0 (w'.heap[w1.heap.size]? = some (.cells (nums .i64 m).toArray 75 (0, 0)))) ∧ Aside0 (Below w.heap.size w w'))
   case atStart =>
    refine ⟨0, Nat.zero_le _, Nat.le_refl _, rfl, ⟨List.replicate 64 0, ⟨by simp⟩, ⟨rfl⟩, ⟨?_⟩⟩, ⟨HB.out.alloc HB.out.size _⟩⟩
    exact blk_new w1 _
   case round =>
    obtain ⟨i, hi, hg, rfl, ⟨m, ML, MF, BK⟩, HB2⟩ := hrel
    have HI := Aside0.mk hi
    have HGK := Aside0.mk hg
    clear hi hg
    have hB1 : w.heap.size ≤ w1.heap.size := HB.out.size
    by_cases c : i < l0.length
    ·have hdec : decide ((i : Int) < (l0.length : Int)) = true := decide_eq_true (by omega)
     have p1 : 0 ≤ (i : Int) := by omega
     have q1 : (i : Int) < (l0.length : Int) := by omega
     obtain ⟨ad, e1, hx0, hx1, hx2⟩ := at_T33 HR0.out i p1 q1
     cases e1
     replace hx0 := (HB2.out.cell (World.block_lt_of_cell? w _ hx0)).trans hx0
     replace hx1 := (HB2.out.cell (World.block_lt_of_cell? w _ hx1)).trans hx1
     replace hx2 := (HB2.out.cell (World.block_lt_of_cell? w _ hx2)).trans hx2
     simp only [Int.toNat_natCast] at hx0 hx1 hx2
     replace p1 := eq_true p1
     replace q1 := eq_true q1
     have hgood : sky_Merge.good (l0.getD i z33) = true := List.all_eq_true.1 HG.out _ (by rw [List.getD_eq_getElem?_getD, List.getElem?_eq_getElem c]; exact List.getElem_mem c)
     have hstep : (l0.drop (i + 1)).foldl sky_Merge.put (sky_Merge.put m (l0.getD i z33)) = l0.foldl sky_Merge.put (List.replicate 64 0) := by
      rw [← MF.out, List.drop_eq_getElem_cons c, List.foldl_cons, List.getD_eq_getElem?_getD, List.getElem?_eq_getElem c]; rfl
     have HC := Aside0.mk c
     clear c
     have e0 : rd_T33 l0 (i : Int) = l0.getD i z33 := rfl
     rw [e0] at hx0 hx1 hx2
     generalize l0.getD i z33 = x at hx0 hx1 hx2 hgood hstep
     clear e0
     obtain ⟨x0, x1, x2⟩ := x
     have hgd := of_decide_eq_true hgood
     simp only at hgd hx0 hx1 hx2
     obtain ⟨g1, g2, g3, g4⟩ := hgd
     obtain ⟨nx, rfl⟩ := Int.eq_ofNat_of_zero_le g1
     obtain ⟨ny, rfl⟩ := Int.eq_ofNat_of_zero_le g3
     clear g1 g3 hgood
     have hnx : nx < 8 := by omega
     have hny : ny < 8 := by omega
     have HNX := Aside0.mk hnx
     have HNY := Aside0.mk hny
     have hblt : w1.heap.size < wr.heap.size := blk_lt BK.out
     have hne : w1.heap.size ≠ wr.heap.size := by omega
     have hat : sky_Merge.at_ ⟨(nx : Int), (ny : Int), x2⟩ = ny * 8 + nx := rfl
     have hk : (nums .i64 m).toArray[ny * 8 + nx]? = some (.int .i64 (m.getD (ny * 8 + nx) 0)) := by
      have hl : ny * 8 + nx < m.length := by rw [ML.out]; omega
      rw [List.getElem?_toArray]; simp [nums, List.getElem?_map, List.getElem?_eq_getElem hl, List.getD_eq_getElem?_getD]
     have hc0 := (blk_cell (blk_alloc BK.out (.cells #[.int .i64 nx, .int .i64 ny, .int .i64 x2] 33)) (ny * 8 + nx)).trans hk
     have hz0 := blk_frozen (blk_alloc BK.out (.cells #[.int .i64 nx, .int .i64 ny, .int .i64 x2] 33)) (ny * 8 + nx)
     have HST := Aside0.mk hstep
     have HK := Aside0.mk hk
     clear hstep hk hat
     go_wp2
     go_region
     go_wp2
     go_roundg (l0.length - (i + 1))
     case measure => have := HC.out; have := HGK.out; omega
     case rel =>
      have hc := HC.out
      refine ⟨i + 1, by omega, by have := HGK.out; omega, ?_, ⟨sky_Merge.put m ⟨(nx : Int), (ny : Int), x2⟩, ⟨by rw [sky_Merge.put_len]; exact ML.out⟩, HST, ⟨?_⟩⟩, ⟨?_⟩⟩
      ·have e : wrap64 ((i : Int) + 1) = ((i + 1 : Nat) : Int) := by have := HM.out; unfold wrap64; omega
       first | rfl | (rw [← e]; rfl) | (simp [← e]; done) | (simp; omega)
      ·refine blk_alloc (blk_put BK.out _ _ ?_) _
       simp [sky_Merge.put, sky_Merge.at_, nums, List.map_set, List.getD_eq_getElem?_getD]
      ·refine (Below.alloc (Below.setCell HB2.out hB1 _) (by simp; exact HB2.out.size) _).drew
    ·have hdec : decide ((i : Int) < (l0.length : Int)) = false := decide_eq_false (by omega)
     have hdec2 : decide (i < l0.length) = false := decide_eq_false c
     have HF := Aside0.mk (show m = l0.foldl sky_Merge.put (List.replicate 64 0) by have := MF.out; rw [List.drop_eq_nil_of_le (by omega)] at this; exact this)
     have hsz : (Try.prog.info? 75).map (·.size) = some (nums .i64 m).toArray.size := by
      rw [List.size_toArray, nums_length, ML.out]; kernel_rfl
     have hbk := BK.out
     have HSZ := Aside0.mk hsz
     have HBK := Aside0.mk hbk
     clear hsz hbk
     go_wp2_with (refine wpList_load_row rfl 75 _ rfl w1.heap.size rfl 75 _ (0, 0) _ HBK.out Try.underlying75 rfl HSZ.out ?_)
     have HRES2 := Aside0.mk (show sky_Merge.scan m (List.range' (0 * 8) (64 - 0 * 8)) [] = (r1, r2) by rw [HF.out, ← HRES.out]; rfl)
     clear HBK HSZ BK MF HRES HF HG HR0 HC0 HE HI HGK
     have HB := HB2
     clear HB2
     go_loopg [8, 38] 8 (fun gk v8 v38 w' => ∃ y : Nat, y ≤ 8 ∧ 8 - y ≤ gk ∧ v38 = .int .i64 y ∧ (∃ out : List S33, Aside0 (out.length ≤ y * 8) ∧ Aside0 (sky_Merge.scan m (List.range' (y * 8) (64 - y * 8)) out = (r1, r2)) ∧ Aside0 (Kd.R k33 33 w' w.heap.size (fun _ => True) v8 out)) ∧ Aside0 (Below w.heap.size w w'))
     case atStart => exact ⟨0, Nat.zero_le _, Nat.le_refl _, rfl, ⟨[], ⟨Nat.zero_le _⟩, HRES2, ⟨Kd.R_nil _ _ _ _ _⟩⟩, HB⟩
     case round =>
      clear HRES2 HB
      obtain ⟨y, hy, hg, rfl, ⟨out, HL, HSC, HO⟩, HB⟩ := hrel
      have HY := Aside0.mk hy
      have HG := Aside0.mk hg
      clear hy hg
      by_cases c : y < 8
      ·have hdec : decide ((y : Int) < 8) = true := decide_eq_true (by omega)
       have hdec2 : decide (y < 8) = true := decide_eq_true c
       have hidx : ∀ W, (Instr.index 75 (.agg (nums .i64 m).toArray) (.int .i64 (y : Int))).run Try.prog W = .ok (.agg (nums .i64 ((m.drop (y * 8)).take 8)).toArray) W := fun W => by
        rw [sky_Merge.idx_agg W 75 74 8 8 _ y Try.underlying75 c _ Try.underlying74 rfl (by kernel_rfl), sky_Merge.row_eq]
       have hml := ML.out
       have HRG := Aside0.mk (fun x (hx : x < 8) => sky_Merge.row_get m hml y x c hx)
       have HRS := Aside0.mk (show (nums .i64 ((m.drop (y * 8)).take 8)).toArray.size = 8 by rw [List.size_toArray, nums_length, List.length_take, List.length_drop, hml]; omega)
       have HR1 := Aside0.mk (show (nums .i64 ((m.drop (y * 8)).take 8)).toArray.all (·.oneCell') = true by
        rw [Array.all_eq_true_iff_forall_mem]; intro v hv; have hv2 := List.mem_of_mem_take (by simpa [nums, List.map_take] using hv); have hv3 := List.mem_of_mem_drop (by simpa [List.map_drop] using hv2); obtain ⟨_, _, rfl⟩ := List.mem_map.1 hv3; rfl)
       have HC := Aside0.mk c
       clear c hml
       generalize (nums .i64 ((m.drop (y * 8)).take 8)).toArray = row at hidx HRG HRS HR1
       obtain ⟨wo, hwo⟩ : ∃ wo : World, wo = wr := ⟨_, rfl⟩
       have HWO := Aside0.mk hwo
       clear hwo
       go_wp2_with (first | (refine wpList_store_row rfl 74 _ _ rfl wr.heap.size row rfl rfl 74 _ (blk_new wr _) (by rw [HRS.out]; kernel_rfl) (by rw [HRS.out]; rfl) HR1.out ?_) | (refine wpList_load_row rfl 74 _ rfl wr.heap.size rfl 74 row (0, 0) _ ?hbk Try.underlying74 rfl (by rw [HRS.out]; kernel_rfl) ?_; (case hbk => exact setRow_heap _ _ _ _ _ _ (blk_new wr _))))
       have HB2 := Aside0.mk (sky_Merge.below_rowed HB.out HB.out.size (.cells #[.int .i64 0, .int .i64 0, .int .i64 0, .int .i64 0, .int .i64 0, .int .i64 0, .int .i64 0, .int .i64 0] 74) row)
       have HO2 := Aside0.mk (Kd.R_step HO.out (fun k _ hk => sky_Merge.heap_rowed wr (.cells #[.int .i64 0, .int .i64 0, .int .i64 0, .int .i64 0, .int .i64 0, .int .i64 0, .int .i64 0, .int .i64 0] 74) row k hk))
       have HSC2 := Aside0.mk (show sky_Merge.scan m (List.range' (y * 8 + 0) (64 - (y * 8 + 0))) out = (r1, r2) from HSC.out)
       clear HB HO HSC HWO
       go_loopg [8, 43] 8 (fun gi v8 v43 w' => ∃ x : Nat, x ≤ 8 ∧ 8 - x ≤ gi ∧ v43 = .int .i64 x ∧ (∃ out : List S33, Aside0 (out.length ≤ y * 8 + x) ∧ Aside0 (sky_Merge.scan m (List.range' (y * 8 + x) (64 - (y * 8 + x))) out = (r1, r2)) ∧ Aside0 (Kd.R k33 33 w' w.heap.size (fun _ => True) v8 out)) ∧ Aside0 (Below w.heap.size w w'))
       case atStart => exact ⟨0, Nat.zero_le _, Nat.le_refl _, rfl, ⟨out, HL, HSC2, HO2⟩, HB2⟩
       case round =>
        clear HSC2 HB2 HO2 HL
        obtain ⟨x, hx, hg, rfl, ⟨out, HL, HSC, HO⟩, HB⟩ := hrel
        have HX := Aside0.mk hx
        have HGI := Aside0.mk hg
        clear hx hg
        by_cases c : x < 8
        ·have hdec : decide ((x : Int) < 8) = true := decide_eq_true (by omega)
         have hdec2 : decide (x < 8) = true := decide_eq_true c
         have hix : ∀ W, (Instr.index 74 (.agg row) (.int .i64 (x : Int))).run Try.prog W = .ok (.int .i64 (m.getD (y * 8 + x) 0)) W := fun W => sky_Merge.idx_one W 74 3 8 row _ x Try.underlying74 c _ Try.underlying3 rfl (by kernel_rfl) (HRG.out x c)
         have hss := HSC.out
         rw [sky_Merge.scan_step m y x HC.out c out] at hss
         have HXC := Aside0.mk c
         clear c HSC
         generalize m.getD (y * 8 + x) 0 = v at hix hss
         by_cases c1 : v > 1000
         ·rw [if_pos c1] at hss
          obtain ⟨rfl, rfl⟩ : [] = r1 ∧ (16 : Int) = r2 := by simpa using hss
          have f1 : decide (1000 < v) = true := decide_eq_true c1
          clear c1 hss
          go_wp2
          go_ret2
          exact ⟨_, rfl, Kd.R_nil _ _ _ _ _, HB.out⟩
         ·rw [if_neg c1] at hss
          have f1 : decide (1000 < v) = false := decide_eq_false c1
          clear c1
          by_cases c2 : v > 0
          ·rw [if_pos c2] at hss
           have f2 : decide (0 < v) = true := decide_eq_true c2
           have HSC2 := Aside0.mk hss
           clear c2 hss
           go_wp2_with ((with_reducible refine gate_builtin (b := .append) (xs := #[.tmp 51, .tmp 56]) rfl ?_); at_builtin; refine Kd.R_append k33 (w0 := w) w.heap.size rfl (.tmp 51) (.tmp 56) 22 33 (.agg #[(.int .i64 0), (.int .i64 0), (.int .i64 0)]) 24 rfl Try.underlying22 info33 rfl (by decide) (by omega) u8 out (⟨(x : Int), (y : Int), v⟩ : S33) [.int .i64 (x : Int), .int .i64 (y : Int), .int .i64 v] (fun _ => True) (fun _ => False) rfl rfl ?aP (fun _ hk => hk.elim) ?aF ?aO ?aB ?aS ?aL ?_; (case aP => exact k33_mkM _ _ _ (⟨(x : Int), (y : Int), v⟩ : S33)); (case aB => exact HB.out); (case aF => exact (fun _ _ => trivial)); (case aO => exact HO.out); (case aS => exact below_size HB.out); (case aL => have := HL.out; have := HXC.out; have := HC.out; omega); intro v119 w17 ho hb hg hat; have HO3 := Aside0.mk ho; have HB3 := Aside0.mk hb; clear ho hb hg hat)
           go_roundg (8 - (x + 1))
           case measure => have := HXC.out; have := HGI.out; omega
           case rel =>
            have hc := HXC.out
            refine ⟨x + 1, by omega, by have := HGI.out; omega, ?_, ⟨_, ⟨by have := HL.out; simp; omega⟩, HSC2, HO3⟩, HB3⟩
            have e : wrap64 ((x : Int) + 1) = ((x + 1 : Nat) : Int) := by unfold wrap64; omega
            first | rfl | (rw [← e]; rfl) | (simp [← e]; done) | (simp; omega)
          ·rw [if_neg c2] at hss
           have f2 : decide (0 < v) = false := decide_eq_false c2
           have HSC2 := Aside0.mk hss
           clear c2 hss
           go_wp2
           go_roundg (8 - (x + 1))
           case measure => have := HXC.out; have := HGI.out; omega
           case rel =>
            have hc := HXC.out
            refine ⟨x + 1, by omega, by have := HGI.out; omega, ?_, ⟨out, ⟨by have := HL.out; omega⟩, HSC2, HO⟩, HB⟩
            have e : wrap64 ((x : Int) + 1) = ((x + 1 : Nat) : Int) := by unfold wrap64; omega
            first | rfl | (rw [← e]; rfl) | (simp [← e]; done) | (simp; omega)
        ·have hdec : decide ((x : Int) < 8) = false := decide_eq_false (by omega)
         have hdec2 : decide (x < 8) = false := decide_eq_false c
         obtain rfl : x = 8 := by have := HX.out; omega
         go_wp2
         go_roundg (8 - (y + 1))
         case measure => have := HC.out; have := HG.out; omega
         case rel =>
          have hc := HC.out
          refine ⟨y + 1, by omega, by have := HG.out; omega, ?_, ⟨out, ⟨by have := HL.out; omega⟩, ⟨?_⟩, HO⟩, HB⟩
          ·have e : wrap64 ((y : Int) + 1) = ((y + 1 : Nat) : Int) := by unfold wrap64; omega
           first | rfl | (rw [← e]; rfl) | (simp [← e]; done) | (simp; omega)
          ·have := HSC.out; rw [show y * 8 + 8 = (y + 1) * 8 by omega] at this; exact this
      ·have hdec : decide ((y : Int) < 8) = false := decide_eq_false (by omega)
       have hdec2 : decide (y < 8) = false := decide_eq_false c
       have HF := Aside0.mk (show (out, (0 : Int)) = (r1, r2) by have := HSC.out; rw [show 64 - y * 8 = 0 by omega] at this; exact this)
       go_wp2
       go_ret2
       obtain ⟨rfl, rfl⟩ : out = r1 ∧ (0 : Int) = r2 := by simpa using HF.out
       exact ⟨_, rfl, HO.out, HB.out⟩
  ·rw [if_neg c2] at H; exact absurd H (by simp)
 ·rw [if_neg c1] at H
  obtain ⟨rfl, rfl⟩ : [] = r1 ∧ e0 = r2 := by simpa using H
  have hz : (e0 != 0) = true := bne_iff_ne.mpr c1
  clear H
  go_enter Try.func11, Try.ntmps11
  go_wp2_with (go_at_call 27; refine (sky_Check.calls k _ _ l0 e0 _ HR0.out HC0.out HE.out).mono ?_; rintro e w1 ⟨rfl, hb⟩; have HB := Aside0.mk hb; clear hb)
  go_ret2
  exact ⟨_, rfl, Kd.R_nil _ _ _ _ _, HB.out⟩

end Go.Proofs.Ytihmhcdcbcleeaa.Q
