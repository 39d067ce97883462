/- The field of 256 elements in plain numbers: what the reference's products and inverses are, and the field's laws. -/
import Derived.Test.YthablamjbikllaaQ3
import Derived.Test.YthablamjbikllaaAid
import Derived.Test.YthablamjbikllaaQT
namespace Go.Proofs.Ythablamjbikllaa.Pure
open Go.RowKit Go.Proofs.YthablamjbikllaaW.PrintWords Go.Proofs.YthablamjbikllaaW.PrintLast Go.Proofs.YthablamjbikllaaW.PrintMore Go.Proofs.Ythablamjbikllaa.Open Go.Proofs.Ythablamjbikllaa.Q Go.Proofs.Ythablamjbikllaa.Aid
theorem xt_lt (p : Nat) (h : p < 256) : parity_xt p < 256 := by
  have : ∀ p : Fin 256, parity_xt p < 256 := by decide +kernel
  exact this ⟨p, h⟩
theorem xt_xor (p q : Nat) (hp : p < 256) (hq : q < 256) : parity_xt (p ^^^ q) = parity_xt p ^^^ parity_xt q := by
  have : ∀ p q : Fin 256, parity_xt (p.val ^^^ q.val) = parity_xt p ^^^ parity_xt q := by decide +kernel
  exact this ⟨p, hp⟩ ⟨q, hq⟩
theorem xor_lt {a b : Nat} (ha : a < 256) (hb : b < 256) : a ^^^ b < 256 := Nat.xor_lt_two_pow (n := 8) ha hb
/-- A product, bit by bit: n bits of b from the highest on. -/
def hm (b : Nat) : Nat → Nat → Nat
  | 0, _ => 0
  | n + 1, a => parity_xt (hm b n a) ^^^ (if b.testBit (7 - n) then a else 0)
theorem hm_lt (b : Nat) {a : Nat} (ha : a < 256) : ∀ n, hm b n a < 256
  | 0 => by simp [hm]
  | n + 1 => by
    rw [hm]
    refine xor_lt (xt_lt _ (hm_lt b ha n)) ?_
    split <;> omega
theorem hm_xor (b : Nat) {a c : Nat} (ha : a < 256) (hc : c < 256) : ∀ n, hm b n (a ^^^ c) = hm b n a ^^^ hm b n c
  | 0 => by simp [hm]
  | n + 1 => by
    rw [hm, hm, hm, hm_xor b ha hc n, xt_xor _ _ (hm_lt b ha n) (hm_lt b hc n)]
    split
    · rw [Nat.xor_assoc, Nat.xor_assoc]
      congr 1
      rw [← Nat.xor_assoc, ← Nat.xor_assoc, Nat.xor_comm a]
    · simp
theorem hm_xt (b : Nat) {a : Nat} (ha : a < 256) : ∀ n, hm b n (parity_xt a) = parity_xt (hm b n a)
  | 0 => by rw [hm, hm]; rfl
  | n + 1 => by
    rw [hm, hm, hm_xt b ha n]
    split
    · rw [xt_xor _ _ (xt_lt _ (hm_lt b ha n)) ha]
    · rw [Nat.xor_zero, Nat.xor_zero]
theorem hm_zero (b : Nat) : ∀ n, hm b n 0 = 0
  | 0 => rfl
  | n + 1 => by rw [hm, hm_zero b n]; split <;> decide
theorem hm_none (a : Nat) : ∀ n, hm 0 n a = 0
  | 0 => rfl
  | n + 1 => by rw [hm, hm_none a n, Nat.zero_testBit, if_neg (by simp)]; decide
theorem hm_one (b : Nat) (h : b < 256) : hm b 8 1 = b := by
  have : ∀ b : Fin 256, hm b 8 1 = b := by decide +kernel
  exact this ⟨b, h⟩
theorem pw_lg (a : Nat) (h : a < 256) (h0 : a ≠ 0) : parity_pw (parity_lg a) = a := by
  have : ∀ a : Fin 256, a.val ≠ 0 → parity_pw (parity_lg a) = a := by decide +kernel
  exact this ⟨a, h⟩ h0
theorem lg_pw (n : Nat) (h : n < 255) : parity_lg (parity_pw n) = n := by
  have : ∀ n : Fin 255, parity_lg (parity_pw n) = n := by decide +kernel
  exact this ⟨n, h⟩
theorem pw_next (n : Nat) (h : n < 255) : parity_pw ((n + 1) % 255) = parity_xt (parity_pw n) := by
  have : ∀ n : Fin 255, parity_pw ((n.val + 1) % 255) = parity_xt (parity_pw n) := by decide +kernel
  exact this ⟨n, h⟩
theorem hm_pw {b : Nat} (hb : b < 256) (hb0 : b ≠ 0) : ∀ i, i < 255 → hm b 8 (parity_pw i) = parity_pw ((i + parity_lg b) % 255)
  | 0, _ => by
    rw [show parity_pw 0 = 1 from rfl, hm_one b hb, Nat.zero_add, Nat.mod_eq_of_lt (parity_lg_bd b hb), pw_lg b hb hb0]
  | i + 1, h => by
    have h1 := pw_next i (by omega)
    rw [Nat.mod_eq_of_lt h] at h1
    have h2 := pw_next ((i + parity_lg b) % 255) (Nat.mod_lt _ (by omega))
    rw [h1, hm_xt b (by have := parity_pw_bd i (by omega); omega), hm_pw hb hb0 i (by omega), ← h2]
    congr 1
    omega
theorem hm_mul {a b : Nat} (ha : a < 256) (hb : b < 256) : hm b 8 a = parity_mulN a b := by
  unfold parity_mulN
  by_cases h : a = 0 ∨ b = 0
  · rw [if_pos h]
    rcases h with rfl | rfl
    · exact hm_zero b 8
    · exact hm_none a 8
  · rw [if_neg h]
    have h1 := hm_pw hb (by omega) (parity_lg a) (parity_lg_bd a ha)
    rw [pw_lg a ha (by omega)] at h1
    exact h1
theorem mul_comm' (a b : Nat) : parity_mulN a b = parity_mulN b a := by
  unfold parity_mulN
  rw [Nat.add_comm]
  by_cases h : a = 0 ∨ b = 0
  · rw [if_pos h, if_pos h.symm]
  · rw [if_neg h, if_neg (fun k => h k.symm)]
theorem mul_lt {a b : Nat} (ha : a < 256) (hb : b < 256) : parity_mulN a b < 256 := parity_mulN_lt a b ha hb
theorem xor_mul {a b c : Nat} (ha : a < 256) (hb : b < 256) (hc : c < 256) : parity_mulN (a ^^^ b) c = parity_mulN a c ^^^ parity_mulN b c := by
  rw [← hm_mul (xor_lt ha hb) hc, ← hm_mul ha hc, ← hm_mul hb hc]
  exact hm_xor c ha hb 8
theorem mul_xor {a b c : Nat} (ha : a < 256) (hb : b < 256) (hc : c < 256) : parity_mulN c (a ^^^ b) = parity_mulN c a ^^^ parity_mulN c b := by
  rw [mul_comm', xor_mul ha hb hc, mul_comm' a, mul_comm' b]
theorem mul_zero' (a : Nat) : parity_mulN a 0 = 0 := by unfold parity_mulN; rw [if_pos (.inr rfl)]
theorem zero_mul' (a : Nat) : parity_mulN 0 a = 0 := by unfold parity_mulN; rw [if_pos (.inl rfl)]
theorem mul_one' {a : Nat} (ha : a < 256) : parity_mulN a 1 = a := by rw [mul_comm', ← hm_mul (by omega) ha]; exact hm_one a ha
theorem pw_pos (n : Nat) (h : n < 255) : parity_pw n ≠ 0 := by have := parity_pw_bd n (by omega); omega
theorem mul_ne {a b : Nat} (ha : a ≠ 0) (hb : b ≠ 0) : parity_mulN a b ≠ 0 := by
  unfold parity_mulN
  rw [if_neg (by omega)]
  exact pw_pos _ (Nat.mod_lt _ (by omega))
theorem mul_zero_iff (a b : Nat) : parity_mulN a b = 0 ↔ a = 0 ∨ b = 0 := by
  constructor
  · intro h
    by_cases ha : a = 0
    · exact .inl ha
    · by_cases hb : b = 0
      · exact .inr hb
      · exact absurd h (mul_ne ha hb)
  · rintro (rfl | rfl)
    · exact zero_mul' b
    · exact mul_zero' a
theorem lg_mul {a b : Nat} (ha : a ≠ 0) (hb : b ≠ 0) : parity_lg (parity_mulN a b) = (parity_lg a + parity_lg b) % 255 := by
  unfold parity_mulN
  rw [if_neg (by omega), lg_pw _ (Nat.mod_lt _ (by omega))]
theorem mul_def {a b : Nat} (ha : a ≠ 0) (hb : b ≠ 0) : parity_mulN a b = parity_pw ((parity_lg a + parity_lg b) % 255) := by unfold parity_mulN; rw [if_neg (by omega)]
theorem mul_assoc' (a b c : Nat) : parity_mulN (parity_mulN a b) c = parity_mulN a (parity_mulN b c) := by
  by_cases ha : a = 0
  · subst ha; rw [zero_mul', zero_mul', zero_mul']
  · by_cases hb : b = 0
    · subst hb; rw [mul_zero', zero_mul', mul_zero']
    · by_cases hc : c = 0
      · subst hc; rw [mul_zero', mul_zero', mul_zero']
      · have h1 := mul_ne ha hb
        have h2 := mul_ne hb hc
        have e1 := mul_def h1 hc
        have e2 := mul_def ha h2
        rw [e1, e2, lg_mul ha hb, lg_mul hb hc]
        congr 1
        omega
theorem inv_lt (a : Nat) : parity_invN a < 256 := parity_invN_lt a
theorem inv_ne {a : Nat} : parity_invN a ≠ 0 := by unfold parity_invN; exact pw_pos _ (Nat.mod_lt _ (by omega))
theorem mul_inv {a : Nat} (ha : a < 256) (h0 : a ≠ 0) : parity_mulN a (parity_invN a) = 1 := by
  have hl := parity_lg_bd a ha
  unfold parity_mulN
  rw [if_neg (by have := @inv_ne a; omega)]
  unfold parity_invN
  rw [lg_pw _ (Nat.mod_lt _ (by omega)), show (parity_lg a + (255 - parity_lg a) % 255) % 255 = 0 by omega]
  rfl
theorem inv_unique {a b : Nat} (ha : a < 256) (hb : b < 256) (h : parity_mulN a b = 1) : b = parity_invN a := by
  have h0 : a ≠ 0 := by rintro rfl; rw [zero_mul'] at h; omega
  have h1 : b ≠ 0 := by rintro rfl; rw [mul_zero'] at h; omega
  have e := lg_mul h0 h1
  rw [h, show parity_lg 1 = 0 from rfl] at e
  have l1 := parity_lg_bd a ha
  have l2 := parity_lg_bd b hb
  unfold parity_invN
  rw [show (255 - parity_lg a) % 255 = parity_lg b by omega, pw_lg b hb h1]
theorem inv_inv {a : Nat} (ha : a < 256) (h0 : a ≠ 0) : parity_invN (parity_invN a) = a := by
  refine (inv_unique (inv_lt a) ha ?_).symm
  rw [mul_comm']
  exact mul_inv ha h0
/-! ### the reference -/
theorem bxor {k : IntKind} (a b : Nat) (hk : k = .i64) (ha : a < 4294967296) (hb : b < 4294967296) : bits .xor k (a : Int) (b : Int) = ((a ^^^ b : Nat) : Int) := by
  subst hk
  have key : (BitVec.ofInt 64 (a : Int) ^^^ BitVec.ofInt 64 (b : Int)).toNat = (a ^^^ b) % 2 ^ 64 := by
    rw [BitVec.toNat_xor, BitVec.toNat_ofInt, BitVec.toNat_ofInt, Nat.xor_mod_two_pow]
    congr 1
  show IntKind.i64.wrap ((BitVec.ofInt 64 (a : Int) ^^^ BitVec.ofInt 64 (b : Int)).toNat : Nat) = _
  have h2 : a ^^^ b < 2 ^ 32 := Nat.xor_lt_two_pow (by omega) (by omega)
  rw [key, IntKind.wrap_i64, Nat.mod_eq_of_lt (by omega)]
  omega
theorem bit_of (b i : Nat) (hb : b < 256) (hi : i < 8) : (bits .and .u8 (shr .u8 (b : Int) (i : Int)) 1 = 1) ↔ b.testBit i = true := by
  have : ∀ b : Fin 256, ∀ i : Fin 8, decide (bits .and .u8 (shr .u8 ((b.val : Nat) : Int) ((i.val : Nat) : Int)) 1 = 1) = b.val.testBit i.val := by decide +kernel
  have h := this ⟨b, hb⟩ ⟨i, hi⟩
  simp only at h
  rw [← h, decide_eq_true_eq]
theorem ref_l0 {a b : Nat} (ha : a < 256) (hb : b < 256) : ∀ i n : Nat, n + i = 8 → Ev (fun k => fringeref45_Mul.l0 k a b (hm b n a : Nat) ((i : Int) - 1)) ((hm b 8 a : Nat) : Int)
  | 0, n, h => by
    obtain rfl : n = 8 := by omega
    refine Ev.step (fun k => by simp only [fringeref45_Mul.l0]; rfl) ?_
    refine Ev.iteF (by omega) (Ev.some_of ?_)
    have := hm_lt b ha 8
    omega
  | i + 1, n, h => by
    have hp := hm_lt b ha n
    have ih := ref_l0 ha hb i (n + 1) (by omega)
    rw [hm] at ih
    have h7 : 7 - n = i := by omega
    rw [h7] at ih
    refine Ev.step (fun k => by simp only [fringeref45_Mul.l0]; rfl) ?_
    have e1 : (((i + 1 : Nat) : Int) - 1) = (i : Int) := by omega
    rw [e1]
    have w1 : wrap64 (((hm b n a : Nat) : Int) * 2) = ((2 * hm b n a : Nat) : Int) := by rw [wr (by omega) (by omega)]; omega
    have w2 : wrap64 ((i : Int) - 1) = (i : Int) - 1 := wr (by omega) (by omega)
    have w3 : wrap64 (a : Int) = (a : Int) := wr (by omega) (by omega)
    rw [w1, w2, w3]
    refine Ev.iteT (by omega) ?_
    have hx : ∀ q : Nat, q < 4294967296 → bits .xor .i64 (q : Int) (a : Int) = ((q ^^^ a : Nat) : Int) := fun q hq => bxor q a rfl hq (by omega)
    have hbit := bit_of b i hb (by omega)
    refine Ev.ite (fun c => ?_) (fun c => ?_)
    · have hxt : parity_xt (hm b n a) = (2 * hm b n a) ^^^ 285 := by unfold parity_xt; rw [if_pos (by omega)]
      have h285 : bits .xor .i64 ((2 * hm b n a : Nat) : Int) 285 = ((2 * hm b n a ^^^ 285 : Nat) : Int) := bxor (2 * hm b n a) 285 rfl (by omega) (by omega)
      rw [h285, ← hxt]
      have hxl := xt_lt _ hp
      refine Ev.iteT (by omega) (Ev.ite (fun c2 => ?_) (fun c2 => ?_))
      · rw [if_pos (hbit.1 c2)] at ih
        rw [hx _ (by omega)]
        exact ih
      · rw [if_neg (fun h => c2 (hbit.2 h)), Nat.xor_zero] at ih
        exact ih
    · have hxt : parity_xt (hm b n a) = 2 * hm b n a := by unfold parity_xt; rw [if_neg (by omega)]
      rw [hxt] at ih
      refine Ev.iteT (by omega) (Ev.ite (fun c2 => ?_) (fun c2 => ?_))
      · rw [if_pos (hbit.1 c2)] at ih
        rw [hx _ (by omega)]
        exact ih
      · rw [if_neg (fun h => c2 (hbit.2 h)), Nat.xor_zero] at ih
        exact ih
theorem ref_Mul {a b : Nat} (ha : a < 256) (hb : b < 256) : Ev (fun k => fringeref45_Mul.f k a b) ((parity_mulN a b : Nat) : Int) := by
  have h := ref_l0 ha hb 8 0 rfl
  rw [hm_mul ha hb] at h
  exact h
theorem ref_inv_l0 {a : Nat} (ha : a < 256) (h0 : a ≠ 0) : ∀ d x : Nat, x + d = parity_invN a → Ev (fun k => fringeref45_inverse.l0 k a (x : Int)) ((parity_invN a : Nat) : Int)
  | 0, x, h => by
    obtain rfl : x = parity_invN a := by omega
    refine Ev.step (fun k => by simp only [fringeref45_inverse.l0]; rfl) ?_
    refine Ev.bind (ref_Mul ha (inv_lt a)) ?_
    rw [mul_inv ha h0]
    exact Ev.iteT (by simp) (Ev.now _)
  | d + 1, x, h => by
    have hl := inv_lt a
    refine Ev.step (fun k => by simp only [fringeref45_inverse.l0]; rfl) ?_
    refine Ev.bind (ref_Mul ha (show x < 256 by omega)) ?_
    refine Ev.iteF (fun h1 => ?_) ?_
    · have := inv_unique ha (show x < 256 by omega) (by omega)
      omega
    · have e : ((x : Int) + 1) % 256 = ((x + 1 : Nat) : Int) := by omega
      rw [e]
      exact ref_inv_l0 ha h0 d (x + 1) (by omega)
theorem ref_inverse {a : Nat} (ha : a < 256) (h0 : a ≠ 0) : Ev (fun k => fringeref45_inverse.f k a) ((parity_invN a : Nat) : Int) := by
  simp only [fringeref45_inverse.f]
  exact ref_inv_l0 ha h0 (parity_invN a - 1) 1 (by have := @inv_ne a; omega)
theorem wf8 {x : Int} (h : (Lit.int .u8 x).wf = true) : 0 ≤ x ∧ x < 256 := by
  simp [Lit.wf] at h
  have h1 : IntKind.u8.min = 0 := by decide
  have h2 : IntKind.u8.max = 255 := by decide
  omega
end Go.Proofs.Ythablamjbikllaa.Pure
