/- The field's operations: what mul and inv of the field's tables give. -/
import Derived.Test.YthablamjbikllaaParA
namespace Go.Proofs.Ythablamjbikllaa.Q
open Go.RowKit Go.Proofs.YthablamjbikllaaW.PrintWords Go.Proofs.YthablamjbikllaaW.PrintLast Go.Proofs.YthablamjbikllaaW.PrintMore
set_option linter.unusedVariables false
def parity_invN (a : Nat) : Nat := parity_pw ((255 - parity_lg a) % 255)
def parity_mulN (a b : Nat) : Nat := if a = 0 ∨ b = 0 then 0 else parity_pw ((parity_lg a + parity_lg b) % 255)
theorem parity_inv (A a : Nat) (w : World) (hF : w.heap[A]? = some (.cells parity_FA 71 (0, 0))) (ha : a < 256) :
  Calls Try.prog 31 #[.pointer (some ⟨A, 0, none⟩), .int .u8 a] w fun e w' => e = .returned (.int .u8 (parity_invN a)) ∧ Drawn0 w w' := by
  have hl := parity_lg_bd a ha
  have h1 := (blk_cell hF (510 + a)).trans (parity_FA_log a ha)
  have h2 := (blk_cell hF (255 - parity_lg a)).trans (parity_FA_pow _ (by omega))
  have HR : Aside0 (parity_invN a = parity_pw ((255 - parity_lg a) % 255)) := ⟨rfl⟩
  have q0 : (255 - (parity_lg a : Int)) = ((255 - parity_lg a : Nat) : Int) := by omega
  have q1 : (0 : Int) ≤ (a : Int) := by omega
  have q2 : (a : Int) < 256 := by omega
  generalize parity_lg a = l at *
  generalize parity_pw ((255 - l) % 255) = r at *
  have hl2 : (l : Int) ≤ 255 := by omega
  have hl3 : (255 - (l : Int)).toNat = 255 - l := by omega
  have hl4 : (0 : Int) ≤ (255 - (l : Int)) := by omega
  have hl5 : (255 - (l : Int)) < 510 := by omega
  clear q0 hF
  go_enter Try.func31, Try.ntmps31
  go_wp2_with (go_quiet (fail))
  go_ret
  exact ⟨by rw [HR.out]; rfl, by repeat (first | exact Drawn0.refl _ | apply Drawn0.step)⟩
theorem parity_mul (A a b : Nat) (w : World) (hF : w.heap[A]? = some (.cells parity_FA 71 (0, 0))) (ha : a < 256) (hb : b < 256) :
  Calls Try.prog 33 #[.pointer (some ⟨A, 0, none⟩), .int .u8 a, .int .u8 b] w fun e w' => e = .returned (.int .u8 (parity_mulN a b)) ∧ Drawn0 w w' := by
  by_cases ha0 : a = 0
  · have HR : Aside0 (parity_mulN a b = 0) := ⟨by unfold parity_mulN; rw [if_pos (.inl ha0)]⟩
    subst ha0
    clear hF
    go_enter Try.func33, Try.ntmps33
    go_wp2_with (go_quiet (fail))
    go_ret
    exact ⟨by rw [HR.out]; rfl, by repeat (first | exact Drawn0.refl _ | apply Drawn0.step)⟩
  · by_cases hb0 : b = 0
    · have HR : Aside0 (parity_mulN a b = 0) := ⟨by unfold parity_mulN; rw [if_pos (.inr hb0)]⟩
      subst hb0
      have z1 : ((a : Int) == 0) = false := by simp; omega
      clear hF
      go_enter Try.func33, Try.ntmps33
      go_wp2_with (go_quiet (fail))
      go_ret
      exact ⟨by rw [HR.out]; rfl, by repeat (first | exact Drawn0.refl _ | apply Drawn0.step)⟩
    · have hl := parity_lg_bd a ha
      have hm := parity_lg_bd b hb
      have h1 := (blk_cell hF (510 + a)).trans (parity_FA_log a ha)
      have h3 := (blk_cell hF (510 + b)).trans (parity_FA_log b hb)
      have h2 := (blk_cell hF (parity_lg a + parity_lg b)).trans (parity_FA_pow _ (by omega))
      have HR : Aside0 (parity_mulN a b = parity_pw ((parity_lg a + parity_lg b) % 255)) := ⟨by unfold parity_mulN; rw [if_neg (by omega)]⟩
      have q1 : (0 : Int) ≤ (a : Int) := by omega
      have q2 : (a : Int) < 256 := by omega
      have q3 : (0 : Int) ≤ (b : Int) := by omega
      have q4 : (b : Int) < 256 := by omega
      have z1 : ((a : Int) == 0) = false := by simp; omega
      have z2 : ((b : Int) == 0) = false := by simp; omega
      generalize parity_lg a = l at *
      generalize parity_lg b = m at *
      generalize parity_pw ((l + m) % 255) = r at *
      have hl4 : (0 : Int) ≤ (l : Int) + (m : Int) := by omega
      have hl5 : (l : Int) + (m : Int) < 510 := by omega
      have hl6 : ((l : Int) + (m : Int)).toNat = l + m := by omega
      clear hF ha0 hb0
      go_enter Try.func33, Try.ntmps33
      go_wp2_with (go_quiet (fail))
      go_ret
      exact ⟨by rw [HR.out]; rfl, by repeat (first | exact Drawn0.refl _ | apply Drawn0.step)⟩
theorem parity_bx (a b : Nat) : bits .xor .u8 (a : Int) (b : Int) = ((a ^^^ b) % 256 : Nat) := by
  have key : (BitVec.ofInt 8 (a : Int) ^^^ BitVec.ofInt 8 (b : Int)).toNat = (a ^^^ b) % 2 ^ 8 := by
    rw [BitVec.toNat_xor, BitVec.toNat_ofInt, BitVec.toNat_ofInt, Nat.xor_mod_two_pow]
    congr 1
  show IntKind.u8.wrap ((BitVec.ofInt 8 (a : Int) ^^^ BitVec.ofInt 8 (b : Int)).toNat : Nat) = _
  rw [key]
  have h2 : (a ^^^ b) % 2 ^ 8 < 256 := Nat.mod_lt _ (by decide)
  generalize (a ^^^ b) % 2 ^ 8 = n at *
  have hw : ∀ x : Int, IntKind.u8.wrap x = x % 256 := by intro x; first | exact IntKind.wrap_u8 x | simp [IntKind.wrap, IntKind.signed, IntKind.bits]
  rw [hw]; omega
theorem parity_factor (A d j i : Nat) (w : World) (hF : w.heap[A]? = some (.cells parity_FA 71 (0, 0))) (hd : d + j < 256) (hi : i < 256) :
  Calls Try.prog 50 #[.pointer (some ⟨A, 0, none⟩), .int .i64 d, .int .i64 j, .int .i64 i] w fun e w' => e = .returned (.int .u8 (parity_invN ((d + j) ^^^ i))) ∧ Drawn0 w w' := by
  have hx : (d + j) ^^^ i < 256 := Nat.xor_lt_two_pow (n := 8) (by omega) (by omega)
  have hb : bits .xor .u8 ((d : Int) + (j : Int)) (i : Int) = (((d + j) ^^^ i : Nat) : Int) := by
    have := parity_bx (d + j) i
    rw [Nat.mod_eq_of_lt hx] at this
    rw [← this]; simp
  have HX := Aside0.mk hx
  have HF := Aside0.mk hF
  have q1 : (0 : Int) ≤ (d : Int) + (j : Int) := by omega
  have q2 : (d : Int) + (j : Int) < 256 := by omega
  have q3 : (0 : Int) ≤ (i : Int) := by omega
  have q4 : (i : Int) < 256 := by omega
  clear hF hx hd hi
  go_enter Try.func50, Try.ntmps50
  go_wp2_with ((go_at_call 31; (with_reducible refine (parity_inv _ ((d + j) ^^^ i) _ HF.out HX.out).mono ?_); rintro e w2 ⟨rfl, nd, rfl⟩))
  go_ret
  exact ⟨rfl, nd, rfl⟩
end Go.Proofs.Ythablamjbikllaa.Q
