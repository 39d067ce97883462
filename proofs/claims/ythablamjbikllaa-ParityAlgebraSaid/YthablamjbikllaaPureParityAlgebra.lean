/- The plain statement of the law ParityAlgebra. -/
import Derived.Test.YthablamjbikllaaQ12
import Derived.Test.YthablamjbikllaaQT
import Derived.Test.YthablamjbikllaaParT
namespace Go.Proofs.Ythablamjbikllaa.Pure
open Go.RowKit Go.Proofs.YthablamjbikllaaW.PrintWords Go.Proofs.YthablamjbikllaaW.PrintLast Go.Proofs.YthablamjbikllaaW.PrintMore Go.Proofs.Ythablamjbikllaa.Open Go.Proofs.Ythablamjbikllaa.Q Go.Proofs.Ythablamjbikllaa.Aid
theorem bxor8 (a b : Nat) (ha : a < 256) (hb : b < 256) : bits .xor .u8 (a : Int) (b : Int) = ((a ^^^ b : Nat) : Int) := by
  have key : (BitVec.ofInt 8 (a : Int) ^^^ BitVec.ofInt 8 (b : Int)).toNat = (a ^^^ b) % 2 ^ 8 := by
    rw [BitVec.toNat_xor, BitVec.toNat_ofInt, BitVec.toNat_ofInt, Nat.xor_mod_two_pow]
    congr 1
  show IntKind.u8.wrap ((BitVec.ofInt 8 (a : Int) ^^^ BitVec.ofInt 8 (b : Int)).toNat : Nat) = _
  have h2 : a ^^^ b < 2 ^ 8 := Nat.xor_lt_two_pow (by omega) (by omega)
  rw [key, Nat.mod_eq_of_lt (by omega)]
  revert h2
  generalize a ^^^ b = n
  intro h2
  have e8 : IntKind.u8.bits = 8 := rfl
  simp only [IntKind.wrap, e8, show IntKind.u8.signed = false from rfl, Bool.false_and, Bool.false_eq_true, if_false]
  omega
theorem mulf (a b : Nat) (ha : a < 256) (hb : b < 256) : parity_Mul.f (a : Int) (b : Int) = some ((parity_mulN a b : Nat) : Int) := by
  unfold parity_Mul.f; rw [if_pos (by omega)]; simp
theorem invf (a : Nat) (ha : a < 256) (h : a ≠ 0) : parity_Inv.f (a : Int) = some (((parity_invN a : Nat) : Int), 0) := by
  unfold parity_Inv.f; rw [if_neg (by omega), if_pos (by omega)]; simp
theorem ParityAlgebra : ∀ (a0 : Int) (a1 : Int) (a2 : Int), (Lit.int .u8 a0).wf = true → (Lit.int .u8 a1).wf = true → (Lit.int .u8 a2).wf = true → ∃ k, fringelaw45_ParityAlgebra.f k a0 a1 a2 = some true := by
  intro a0 a1 a2 h0 h1 h2
  obtain ⟨p0, q0⟩ := wf8 h0
  obtain ⟨p1, q1⟩ := wf8 h1
  obtain ⟨p2, q2⟩ := wf8 h2
  obtain ⟨a, rfl⟩ := Int.eq_ofNat_of_zero_le p0
  obtain ⟨b, rfl⟩ := Int.eq_ofNat_of_zero_le p1
  obtain ⟨c, rfl⟩ := Int.eq_ofNat_of_zero_le p2
  have ha : a < 256 := by omega
  have hb : b < 256 := by omega
  have hc : c < 256 := by omega
  refine ⟨1, ?_⟩
  have hal : fringelaw45_alive.f = some true := rfl
  have m1 : parity_Mul.f (a : Int) 1 = some ((a : Nat) : Int) := by have := mulf a 1 ha (by omega); rwa [mul_one' ha] at this
  simp only [fringelaw45_ParityAlgebra.f, hal, Option.bind_some, mulf a b ha hb, mulf b c hb hc, mulf b a hb ha, mulf _ c (mul_lt ha hb) hc, mulf a _ ha (mul_lt hb hc), bxor8 b c hb hc, mulf a _ ha (xor_lt hb hc), mulf a c ha hc, bxor8 _ _ (mul_lt ha hb) (mul_lt ha hc), m1]
  rw [if_pos (by rw [mul_comm']), if_pos (by rw [mul_assoc']), if_pos (by rw [mul_xor hb hc ha])]
  simp only [if_true]
  by_cases h : a = 0
  · subst h
    rw [if_pos (show ((0 : Nat) : Int) = 0 from rfl)]
    have hi : parity_Inv.f ((0 : Nat) : Int) = some (0, 18) := by unfold parity_Inv.f; rw [if_pos (by simp)]
    have hi0 : parity_Inv.f 0 = some (0, 18) := hi
    simp [fringelaw45_ParityAlgebra.j0, zero_mul', hi0]
  · rw [if_neg (by omega)]
    have e : ((((parity_mulN a b : Nat) : Int) == 0) != ((b : Int) == 0)) = false := by
      have := mul_zero_iff a b
      by_cases hb0 : b = 0
      · subst hb0; simp [mul_zero']
      · have h3 : parity_mulN a b ≠ 0 := by omega
        have i1 : (((parity_mulN a b : Nat) : Int) == 0) = false := beq_eq_false_iff_ne.mpr (by omega)
        have i2 : ((b : Int) == 0) = false := beq_eq_false_iff_ne.mpr (by omega)
        rw [i1, i2]; rfl
    have hi := invf a ha h
    have hii := invf (parity_invN a) (inv_lt a) inv_ne
    rw [inv_inv ha h] at hii
    have hm := mulf a (parity_invN a) ha (inv_lt a)
    rw [mul_inv ha h] at hm
    rw [e]
    have ha0 : ¬ ((a : Int) = 0) := by omega
    simp [fringelaw45_ParityAlgebra.j0, hi, hii, hm, h]
end Go.Proofs.Ythablamjbikllaa.Pure
