-- Written by qprint.py (a program of this session) over the program of the kit that prints contracts. Not trusted: Lean checks it.
import Derived.Test.YthablamjbikllaaQ0
namespace Go.Proofs.Ythablamjbikllaa.Q
open Go.RowKit Go.Proofs.YthablamjbikllaaW.PrintWords Go.Proofs.YthablamjbikllaaW.PrintLast Go.Proofs.YthablamjbikllaaW.PrintMore
attribute [local go_sem] max2_int min2_int max_two min_two max_three min_three max_four min_four   -- for this text's walks alone
set_option linter.unusedVariables false
set_option linter.unusedSimpArgs false

/-! ### parity_Inv: function 9 (by hand) -/
def parity_Inv.f (a0 : Int) : Option (Int × Int) := if a0 = 0 then some (0, 18) else if 0 ≤ a0 ∧ a0 < 256 then some (((parity_invN a0.toNat : Nat) : Int), 0) else none
theorem parity_Inv.calls (a0 : Int) (r1 : Int) (r2 : Int) (w : World) (h : parity_Inv.f a0 = some (r1, r2)) :
  Calls Try.prog 9 #[.int .u8 a0] w fun e w' => e = .returned (.tuple #[.int .u8 r1, .int .i64 r2]) ∧ Below w.heap.size w w' := by
 unfold parity_Inv.f at h
 by_cases c0 : a0 = 0
 ·rw [if_pos c0] at h
  simp only [Option.some.injEq, Prod.mk.injEq] at h
  obtain ⟨rfl, rfl⟩ := h
  subst c0
  go_enter Try.func9, Try.ntmps9
  go_wp2_with (fail)
  go_ret2
  exact ⟨rfl, Below.refl _ _⟩
 ·rw [if_neg c0] at h
  by_cases c : 0 ≤ a0 ∧ a0 < 256
  ·rw [if_pos c] at h
   obtain ⟨h1, h2⟩ := c
   obtain ⟨a, rfl⟩ := Int.eq_ofNat_of_zero_le h1
   simp only [Option.some.injEq, Prod.mk.injEq, Int.toNat_natCast] at h
   obtain ⟨rfl, rfl⟩ := h
   have HA := Aside0.mk (show a < 256 by omega)
   have z1 : ((a : Int) == 0) = false := by simp; omega
   clear h1 h2 c0
   go_enter Try.func9, Try.ntmps9
   go_wp2_with (first | (go_at_call 30; (with_reducible refine (parity_newField _).mono ?_); rintro e w1 ⟨rfl, hk, hb⟩; have HK := Aside0.mk hk; have HB1 := Aside0.mk hb; clear hk hb) | (go_at_call 31; (with_reducible refine (parity_inv _ a _ (parity_FS_end ▸ HK.out) HA.out).mono ?_); rintro e w2 ⟨rfl, nd, rfl⟩))
   go_ret2
   exact ⟨rfl, pw_below_drewN HB1.out _⟩
  ·rw [if_neg c] at h; exact absurd h (by simp)

/-! ### parity_Mul: function 11 (by hand) -/
def parity_Mul.f (a0 : Int) (a1 : Int) : Option Int := if 0 ≤ a0 ∧ a0 < 256 ∧ 0 ≤ a1 ∧ a1 < 256 then some ((parity_mulN a0.toNat a1.toNat : Nat) : Int) else none
theorem parity_Mul.calls (a0 : Int) (a1 : Int) (r : Int) (w : World) (h : parity_Mul.f a0 a1 = some r) :
  Calls Try.prog 11 #[.int .u8 a0, .int .u8 a1] w fun e w' => e = .returned (.int .u8 r) ∧ Below w.heap.size w w' := by
 unfold parity_Mul.f at h
 by_cases c : 0 ≤ a0 ∧ a0 < 256 ∧ 0 ≤ a1 ∧ a1 < 256
 ·rw [if_pos c] at h
  obtain ⟨h1, h2, h3, h4⟩ := c
  obtain ⟨a, rfl⟩ := Int.eq_ofNat_of_zero_le h1
  obtain ⟨b, rfl⟩ := Int.eq_ofNat_of_zero_le h3
  obtain rfl := Option.some.inj h
  clear h
  simp only [Int.toNat_natCast]
  have HA := Aside0.mk (show a < 256 by omega)
  have HB := Aside0.mk (show b < 256 by omega)
  clear h1 h2 h3 h4
  go_enter Try.func11, Try.ntmps11
  go_wp2_with (first | (go_at_call 30; (with_reducible refine (parity_newField _).mono ?_); rintro e w1 ⟨rfl, hk, hb⟩; have HK := Aside0.mk hk; have HB1 := Aside0.mk hb; clear hk hb) | (go_at_call 33; (with_reducible refine (parity_mul _ a b _ (parity_FS_end ▸ HK.out) HA.out HB.out).mono ?_); rintro e w2 ⟨rfl, nd, rfl⟩))
  go_ret
  exact ⟨rfl, pw_below_drewN HB1.out _⟩
 ·rw [if_neg c] at h; exact absurd h (by simp)

end Go.Proofs.Ythablamjbikllaa.Q
