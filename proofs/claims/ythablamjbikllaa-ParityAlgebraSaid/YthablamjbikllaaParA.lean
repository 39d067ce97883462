/- The field of 256 elements: the tables of powers and logarithms, and that newField lays them. -/
import Derived.Test.YthablamjbikllaaProg
import Derived.Lib.LazyBuf
import Derived.Below
import Derived.Deep.Draws
import Derived.Deep.AppendLies
import Derived.Maps.AppendAt
import Derived.OwnWalk
import Derived.Laws.BytesArg
import Derived.Laws.MakeOwn
import Derived.Laws.OwnMore
import Derived.Deep.OwnRows
import Derived.Tactics
import Derived.Lib.ConvBytes
import Derived.Laws.Slices
import Derived.WalkKit
import Derived.KernelRfl
import Derived.RowKit3
import Derived.Deep.LoopGhost
import Derived.Deep.QuietTactic
import Derived.BigQuiet
import Derived.WideLaws
import Derived.Deep.DeepCutAuto
import Derived.Deep.CutBlock
import Derived.Deep.RegionHeld3
import Derived.Laws.Rows
import Derived.Lib.AppendStr
import Derived.ArgAppend
import Derived.Laws.IdiomCopy
import Derived.OrdersHeld
import Derived.Laws.BitsLemmas
import Derived.RowKit
import Derived.Test.YthablamjbikllaaWMore
import Derived.Test.YthablamjbikllaaQWords
namespace Go.Proofs.Ythablamjbikllaa.Q
open Go.RowKit Go.Proofs.YthablamjbikllaaW.PrintWords Go.Proofs.YthablamjbikllaaW.PrintLast Go.Proofs.YthablamjbikllaaW.PrintMore
set_option linter.unusedVariables false
def parity_FZ : Array Value := (List.replicate 510 (Value.int .u8 0) ++ List.replicate 256 (Value.int .i64 0)).toArray
theorem parity_zero (w : World) : (zeroValue 71).run Try.prog w = .ok (.agg parity_FZ) w := by kernel_rfl
theorem parity_FZ_box (w : World) : (Instr.box 71 (.agg parity_FZ)).run Try.prog w = .ok (.pointer (some ⟨w.heap.size, 0, none⟩)) (w.alloc (.cells parity_FZ 71)) := by kernel_rfl
def parity_xt (p : Nat) : Nat := if 2 * p > 255 then (2 * p) ^^^ 285 else 2 * p
/-- The powers of x. -/
def parity_PT : List Nat := [1, 2, 4, 8, 16, 32, 64, 128, 29, 58, 116, 232, 205, 135, 19, 38, 76, 152, 45, 90,
  180, 117, 234, 201, 143, 3, 6, 12, 24, 48, 96, 192, 157, 39, 78, 156, 37, 74, 148, 53,
  106, 212, 181, 119, 238, 193, 159, 35, 70, 140, 5, 10, 20, 40, 80, 160, 93, 186, 105, 210,
  185, 111, 222, 161, 95, 190, 97, 194, 153, 47, 94, 188, 101, 202, 137, 15, 30, 60, 120, 240,
  253, 231, 211, 187, 107, 214, 177, 127, 254, 225, 223, 163, 91, 182, 113, 226, 217, 175, 67, 134,
  17, 34, 68, 136, 13, 26, 52, 104, 208, 189, 103, 206, 129, 31, 62, 124, 248, 237, 199, 147,
  59, 118, 236, 197, 151, 51, 102, 204, 133, 23, 46, 92, 184, 109, 218, 169, 79, 158, 33, 66,
  132, 21, 42, 84, 168, 77, 154, 41, 82, 164, 85, 170, 73, 146, 57, 114, 228, 213, 183, 115,
  230, 209, 191, 99, 198, 145, 63, 126, 252, 229, 215, 179, 123, 246, 241, 255, 227, 219, 171, 75,
  150, 49, 98, 196, 149, 55, 110, 220, 165, 87, 174, 65, 130, 25, 50, 100, 200, 141, 7, 14,
  28, 56, 112, 224, 221, 167, 83, 166, 81, 162, 89, 178, 121, 242, 249, 239, 195, 155, 43, 86,
  172, 69, 138, 9, 18, 36, 72, 144, 61, 122, 244, 245, 247, 243, 251, 235, 203, 139, 11, 22,
  44, 88, 176, 125, 250, 233, 207, 131, 27, 54, 108, 216, 173, 71, 142]
/-- Their logarithms. -/
def parity_LT : List Nat := [0, 0, 1, 25, 2, 50, 26, 198, 3, 223, 51, 238, 27, 104, 199, 75, 4, 100, 224, 14,
  52, 141, 239, 129, 28, 193, 105, 248, 200, 8, 76, 113, 5, 138, 101, 47, 225, 36, 15, 33,
  53, 147, 142, 218, 240, 18, 130, 69, 29, 181, 194, 125, 106, 39, 249, 185, 201, 154, 9, 120,
  77, 228, 114, 166, 6, 191, 139, 98, 102, 221, 48, 253, 226, 152, 37, 179, 16, 145, 34, 136,
  54, 208, 148, 206, 143, 150, 219, 189, 241, 210, 19, 92, 131, 56, 70, 64, 30, 66, 182, 163,
  195, 72, 126, 110, 107, 58, 40, 84, 250, 133, 186, 61, 202, 94, 155, 159, 10, 21, 121, 43,
  78, 212, 229, 172, 115, 243, 167, 87, 7, 112, 192, 247, 140, 128, 99, 13, 103, 74, 222, 237,
  49, 197, 254, 24, 227, 165, 153, 119, 38, 184, 180, 124, 17, 68, 146, 217, 35, 32, 137, 46,
  55, 63, 209, 91, 149, 188, 207, 205, 144, 135, 151, 178, 220, 252, 190, 97, 242, 86, 211, 171,
  20, 42, 93, 158, 132, 60, 57, 83, 71, 109, 65, 162, 31, 45, 67, 216, 183, 123, 164, 118,
  196, 23, 73, 236, 127, 12, 111, 246, 108, 161, 59, 82, 41, 157, 85, 170, 251, 96, 134, 177,
  187, 204, 62, 90, 203, 89, 95, 176, 156, 169, 160, 81, 11, 245, 22, 235, 122, 117, 44, 215,
  79, 174, 213, 233, 230, 231, 173, 232, 116, 214, 244, 234, 168, 80, 88, 175]
def parity_pw (n : Nat) : Nat := parity_PT.getD n 1
def parity_lg (c : Nat) : Nat := parity_LT.getD c 0
theorem parity_pw_succ (n : Nat) (h : n < 255) : parity_pw (n + 1) = parity_xt (parity_pw n) := by
  have : ∀ n : Fin 255, parity_pw (n + 1) = parity_xt (parity_pw n) := by decide +kernel
  exact this ⟨n, h⟩
def parity_FS : Nat → Array Value
  | 0 => parity_FZ
  | n + 1 => (((parity_FS n).set! n (.int .u8 (parity_pw n))).set! (n + 255) (.int .u8 (parity_pw n))).set! (510 + parity_pw n) (.int .i64 n)
theorem parity_FS_size : ∀ n, (parity_FS n).size = 766
  | 0 => by kernel_rfl
  | n + 1 => by simp [parity_FS, parity_FS_size n]
theorem parity_pw_bd (n : Nat) (h : n < 256) : 1 ≤ parity_pw n ∧ parity_pw n ≤ 255 := by
  have : ∀ n : Fin 256, 1 ≤ parity_pw n ∧ parity_pw n ≤ 255 := by decide +kernel
  exact this ⟨n, h⟩
theorem parity_xor (p : Nat) (h : p < 256) : bits .xor .i64 ((p : Int) * 2) 285 = ((2 * p ^^^ 285 : Nat) : Int) := by
  have : ∀ p : Fin 256, bits .xor .i64 (((p : Nat) : Int) * 2) 285 = ((2 * (p : Nat) ^^^ 285 : Nat) : Int) := by decide +kernel
  exact this ⟨p, h⟩
def parity_FA : Array Value := ((List.range 510).map (fun j => Value.int .u8 (parity_pw (j % 255))) ++ (List.range 256).map (fun c => Value.int .i64 (parity_lg c))).toArray
def parity_st (n : Nat) (a : Array Value) : Array Value := ((a.set! n (.int .u8 (parity_pw n))).set! (n + 255) (.int .u8 (parity_pw n))).set! (510 + parity_pw n) (.int .i64 n)
def parity_adv : Nat → Nat → Array Value → Array Value
  | 0, _, a => a
  | k + 1, n, a => parity_adv k (n + 1) (parity_st n a)
theorem parity_FS_adv : ∀ k n, parity_FS (n + k) = parity_adv k n (parity_FS n)
  | 0, n => rfl
  | k + 1, n => by
    rw [parity_adv, show n + (k + 1) = (n + 1) + k by omega, parity_FS_adv k (n + 1)]
    rfl
def parity_G (i : Nat) : Array Value := ((List.range 510).map (fun j => Value.int .u8 (if j % 255 < i then parity_pw (j % 255) else 0 : Nat)) ++ (List.range 256).map (fun c => Value.int .i64 (if parity_lg c < i then parity_lg c else 0 : Nat))).toArray
theorem parity_G0 : parity_adv 15 0 (parity_G 0) = parity_G 15 := by kernel_rfl
theorem parity_G1 : parity_adv 15 15 (parity_G 15) = parity_G 30 := by kernel_rfl
theorem parity_G2 : parity_adv 15 30 (parity_G 30) = parity_G 45 := by kernel_rfl
theorem parity_G3 : parity_adv 15 45 (parity_G 45) = parity_G 60 := by kernel_rfl
theorem parity_G4 : parity_adv 15 60 (parity_G 60) = parity_G 75 := by kernel_rfl
theorem parity_G5 : parity_adv 15 75 (parity_G 75) = parity_G 90 := by kernel_rfl
theorem parity_G6 : parity_adv 15 90 (parity_G 90) = parity_G 105 := by kernel_rfl
theorem parity_G7 : parity_adv 15 105 (parity_G 105) = parity_G 120 := by kernel_rfl
theorem parity_G8 : parity_adv 15 120 (parity_G 120) = parity_G 135 := by kernel_rfl
theorem parity_G9 : parity_adv 15 135 (parity_G 135) = parity_G 150 := by kernel_rfl
theorem parity_G10 : parity_adv 15 150 (parity_G 150) = parity_G 165 := by kernel_rfl
theorem parity_G11 : parity_adv 15 165 (parity_G 165) = parity_G 180 := by kernel_rfl
theorem parity_G12 : parity_adv 15 180 (parity_G 180) = parity_G 195 := by kernel_rfl
theorem parity_G13 : parity_adv 15 195 (parity_G 195) = parity_G 210 := by kernel_rfl
theorem parity_G14 : parity_adv 15 210 (parity_G 210) = parity_G 225 := by kernel_rfl
theorem parity_G15 : parity_adv 15 225 (parity_G 225) = parity_G 240 := by kernel_rfl
theorem parity_G16 : parity_adv 15 240 (parity_G 240) = parity_G 255 := by kernel_rfl
theorem parity_FS_end : parity_FS 255 = parity_FA := by
  have h0 : parity_FS 0 = parity_G 0 := by kernel_rfl
  have h1 : parity_FS 15 = parity_G 15 := (parity_FS_adv 15 0).trans (by rw [h0]; exact parity_G0)
  have h2 : parity_FS 30 = parity_G 30 := (parity_FS_adv 15 15).trans (by rw [h1]; exact parity_G1)
  have h3 : parity_FS 45 = parity_G 45 := (parity_FS_adv 15 30).trans (by rw [h2]; exact parity_G2)
  have h4 : parity_FS 60 = parity_G 60 := (parity_FS_adv 15 45).trans (by rw [h3]; exact parity_G3)
  have h5 : parity_FS 75 = parity_G 75 := (parity_FS_adv 15 60).trans (by rw [h4]; exact parity_G4)
  have h6 : parity_FS 90 = parity_G 90 := (parity_FS_adv 15 75).trans (by rw [h5]; exact parity_G5)
  have h7 : parity_FS 105 = parity_G 105 := (parity_FS_adv 15 90).trans (by rw [h6]; exact parity_G6)
  have h8 : parity_FS 120 = parity_G 120 := (parity_FS_adv 15 105).trans (by rw [h7]; exact parity_G7)
  have h9 : parity_FS 135 = parity_G 135 := (parity_FS_adv 15 120).trans (by rw [h8]; exact parity_G8)
  have h10 : parity_FS 150 = parity_G 150 := (parity_FS_adv 15 135).trans (by rw [h9]; exact parity_G9)
  have h11 : parity_FS 165 = parity_G 165 := (parity_FS_adv 15 150).trans (by rw [h10]; exact parity_G10)
  have h12 : parity_FS 180 = parity_G 180 := (parity_FS_adv 15 165).trans (by rw [h11]; exact parity_G11)
  have h13 : parity_FS 195 = parity_G 195 := (parity_FS_adv 15 180).trans (by rw [h12]; exact parity_G12)
  have h14 : parity_FS 210 = parity_G 210 := (parity_FS_adv 15 195).trans (by rw [h13]; exact parity_G13)
  have h15 : parity_FS 225 = parity_G 225 := (parity_FS_adv 15 210).trans (by rw [h14]; exact parity_G14)
  have h16 : parity_FS 240 = parity_G 240 := (parity_FS_adv 15 225).trans (by rw [h15]; exact parity_G15)
  have h17 : parity_FS 255 = parity_G 255 := (parity_FS_adv 15 240).trans (by rw [h16]; exact parity_G16)
  exact h17.trans (by kernel_rfl)
theorem parity_FA_pow (j : Nat) (h : j < 510) : parity_FA[j]? = some (.int .u8 (parity_pw (j % 255))) := by
  unfold parity_FA
  simp only [List.getElem?_toArray]
  rw [List.getElem?_append_left (by simpa using h), List.getElem?_map, List.getElem?_range h]
  rfl
theorem parity_FA_log (c : Nat) (h : c < 256) : parity_FA[510 + c]? = some (.int .i64 (parity_lg c)) := by
  unfold parity_FA
  simp only [List.getElem?_toArray]
  rw [List.getElem?_append_right (by simp), List.getElem?_map, show 510 + c - ((List.range 510).map (fun j => Value.int .u8 (parity_pw (j % 255)))).length = c by simp, List.getElem?_range h]
  rfl
theorem parity_lg_bd (c : Nat) (h : c < 256) : parity_lg c < 255 := by
  have : ∀ n : Fin 256, parity_lg n < 255 := by decide +kernel
  exact this ⟨c, h⟩
set_option maxRecDepth 100000 in
set_option maxHeartbeats 8000000 in
theorem parity_newField (w : World) : Calls Try.prog 30 #[] w fun e w' => e = .returned (.pointer (some ⟨w.heap.size, 0, none⟩)) ∧ w'.heap[w.heap.size]? = some (.cells (parity_FS 255) 71 (0, 0)) ∧ Below w.heap.size w w' := by
  have hz := parity_zero
  have hzb := parity_FZ_box
  go_enter Try.func30, Try.ntmps30
  go_wp2_with (fail)
  go_loopg [2, 6] 255 (fun gk v2 v6 w' => ∃ i : Nat, i ≤ 255 ∧ 255 - i ≤ gk ∧ v6 = .int .i64 i ∧ Aside0 (v2 = .int .i64 (parity_pw i)) ∧ Aside0 (w'.heap[w.heap.size]? = some (.cells (parity_FS i) 71 (0, 0))) ∧ Aside0 (Below w.heap.size w w'))
  case atStart => exact ⟨0, by omega, by omega, rfl, ⟨rfl⟩, ⟨blk_new w _⟩, ⟨(Below.refl _ w).alloc (Nat.le_refl _) _⟩⟩
  case round =>
    obtain ⟨i, hi, hg, rfl, HV, BK, HB⟩ := hrel
    have HI := Aside0.mk hi
    have HG := Aside0.mk hg
    obtain rfl := HV.out
    clear hi hg HV
    by_cases c : i < 255
    · have hdec : decide ((i : Int) < 255) = true := decide_eq_true (by omega)
      have hp := parity_pw_bd i (by omega)
      have hs := parity_FS_size i
      have e1 := blk_cell BK.out i
      have e2 := blk_cell BK.out (i + 255)
      have e3 := blk_cell BK.out (510 + parity_pw i)
      rw [Array.getElem?_eq_getElem (by omega)] at e1 e2 e3
      have z1 := blk_frozen BK.out i
      have z2 := blk_frozen BK.out (i + 255)
      have z3 := blk_frozen BK.out (510 + parity_pw i)
      generalize (parity_FS i)[i] = x1 at e1
      generalize (parity_FS i)[i + 255] = x2 at e2
      generalize (parity_FS i)[510 + parity_pw i] = x3 at e3
      have HS := Aside0.mk hs
      have HC := Aside0.mk c
      have HE : Aside0 (parity_pw (i + 1) = parity_xt (parity_pw i)) := ⟨parity_pw_succ i c⟩
      have HF : Aside0 (parity_FS (i + 1) = (((parity_FS i).set! i (.int .u8 (parity_pw i))).set! (i + 255) (.int .u8 (parity_pw i))).set! (510 + parity_pw i) (.int .i64 i)) := ⟨rfl⟩
      generalize parity_pw i = p at *
      clear hs c
      obtain ⟨hp1, hp2⟩ := hp
      have q1 : (0 : Int) ≤ i := by omega
      have q2 : (i : Int) < 510 := by have := HC.out; omega
      have q3 : (i : Int) + 255 < 510 := by have := HC.out; omega
      have q4 : (0 : Int) ≤ (i : Int) + 255 := by have := HC.out; omega
      have q5 : (0 : Int) ≤ (p : Int) := by omega
      have q6 : (p : Int) < 256 := by omega
      go_wp2_with (fail)
      go_region
      go_wp2_with (fail)
      · have HT := Aside0.mk (show 255 < (p : Int) * 2 by assumption)
        go_roundg (255 - (i + 1))
        case measure => have := HC.out; have := HG.out; omega
        case rel =>
          have hc := HC.out
          have hx := parity_xor p (by omega)
          refine ⟨i + 1, by omega, by have := HG.out; omega, ?_, ⟨?_⟩, ⟨?_⟩, ⟨below_drew1 (below_set (below_set (below_set HB.out (Nat.le_refl _)) (Nat.le_refl _)) (Nat.le_refl _))⟩⟩
          · first | rfl | (simp; omega)
          · rw [HE.out]
            unfold parity_xt
            have ht := HT.out
            rw [if_pos (by omega)]
            first | exact congrArg (Value.int .i64) hx | (simp only [hx]; done)
          · rw [HF.out]
            exact blk_drew (blk_put (blk_put (blk_put BK.out _ _ rfl) _ _ rfl) _ _ (by simp [Array.set!_eq_setIfInBounds]))
      · have HT := Aside0.mk (show ¬ (255 < (p : Int) * 2) by omega)
        go_roundg (255 - (i + 1))
        case measure => have := HC.out; have := HG.out; omega
        case rel =>
          have hc := HC.out
          refine ⟨i + 1, by omega, by have := HG.out; omega, ?_, ⟨?_⟩, ⟨?_⟩, ⟨below_drew1 (below_set (below_set (below_set HB.out (Nat.le_refl _)) (Nat.le_refl _)) (Nat.le_refl _))⟩⟩
          · first | rfl | (simp; omega)
          · rw [HE.out]
            unfold parity_xt
            have ht := HT.out
            rw [if_neg (by omega)]
            first | (simp; omega) | (congr 1; omega)
          · rw [HF.out]
            exact blk_drew (blk_put (blk_put (blk_put BK.out _ _ rfl) _ _ rfl) _ _ (by simp [Array.set!_eq_setIfInBounds]))
    · have hdec : decide ((i : Int) < 255) = false := decide_eq_false (by omega)
      obtain rfl : i = 255 := by have := HI.out; omega
      go_wp2_with (fail)
      go_ret
      exact ⟨rfl, BK.out, HB.out⟩
end Go.Proofs.Ythablamjbikllaa.Q
