/- A block, times a factor, added to another one. -/
import Derived.Test.YthablamjbikllaaParB
namespace Go.Proofs.Ythablamjbikllaa.Q
open Go.RowKit Go.Proofs.YthablamjbikllaaW.PrintWords Go.Proofs.YthablamjbikllaaW.PrintLast Go.Proofs.YthablamjbikllaaW.PrintMore
set_option linter.unusedVariables false
/-- One byte of a block plus a multiple of one. -/
def parity_addI (fac : Nat) (x y : Int) : Int := ((x.toNat ^^^ parity_mulN fac y.toNat : Nat) : Int)
/-- The first k bytes of ys, times a factor, are added to xs. -/
def parity_addP (fac : Nat) (ys : List Int) : Nat → List Int → List Int
  | 0, xs => xs
  | k + 1, xs => (parity_addP fac ys k xs).set k (parity_addI fac ((parity_addP fac ys k xs).getD k 0) (ys.getD k 0))
theorem parity_addP_len (fac : Nat) (ys xs : List Int) : ∀ k, (parity_addP fac ys k xs).length = xs.length
  | 0 => rfl
  | k + 1 => by rw [parity_addP, List.length_set, parity_addP_len fac ys xs k]
theorem parity_mulN_lt (a b : Nat) (ha : a < 256) (hb : b < 256) : parity_mulN a b < 256 := by
  unfold parity_mulN
  split
  · omega
  · have := parity_pw_bd ((parity_lg a + parity_lg b) % 255) (by have := Nat.mod_lt (parity_lg a + parity_lg b) (show 0 < 255 by omega); omega)
    omega
def octet (x : Int) : Prop := 0 ≤ x ∧ x < 256
theorem parity_addI_byte {fac : Nat} {x y : Int} (hf : fac < 256) (hx : octet x) (hy : octet y) : octet (parity_addI fac x y) := by
  unfold octet parity_addI at *
  have h1 := parity_mulN_lt fac y.toNat hf (by omega)
  have h2 : (x.toNat ^^^ parity_mulN fac y.toNat) < 256 := Nat.xor_lt_two_pow (n := 8) (by omega) (by omega)
  omega
theorem parity_addP_byte {fac : Nat} {ys xs : List Int} (hf : fac < 256) (hx : ∀ x ∈ xs, octet x) (hy : ∀ y ∈ ys, octet y) : ∀ k, k ≤ ys.length → k ≤ xs.length → ∀ x ∈ parity_addP fac ys k xs, octet x
  | 0, _, _ => hx
  | k + 1, h1, h2 => by
    have ih := parity_addP_byte hf hx hy k (by omega) (by omega)
    intro x hm
    rw [parity_addP] at hm
    rcases List.mem_or_eq_of_mem_set hm with h | h
    · exact ih x h
    · rw [h]
      refine parity_addI_byte hf (ih _ ?_) (hy _ ?_)
      · rw [List.getD_eq_getElem?_getD, List.getElem?_eq_getElem (by rw [parity_addP_len]; omega)]; exact List.getElem_mem _
      · rw [List.getD_eq_getElem?_getD, List.getElem?_eq_getElem (by omega)]; exact List.getElem_mem _
set_option maxRecDepth 100000 in
set_option maxHeartbeats 8000000 in
theorem parity_add (F T ct cb base fac : Nat) (xs ys : List Int) (Ab : Option Addr) (w : World) (hF : w.heap[F]? = some (.cells parity_FA 71 (0, 0))) (hf : fac < 256)
    (HO : w.ownsRow base 5 1 (.slice (some ⟨T, 0, none⟩) xs.length ct) xs.length (nums .u8 xs)) (HC : Kd.C (Kd.int .u8) w Ab ys.length ys) (hT : T < w.heap.size) (hne : ∀ a, Ab = some a → a.block ≠ T) (hFT : F ≠ T)
    (hlen : ys.length ≤ xs.length) (hx : ∀ x ∈ xs, octet x) (hy : ∀ x ∈ ys, octet x) :
    Calls Try.prog 51 #[.pointer (some ⟨F, 0, none⟩), .slice (some ⟨T, 0, none⟩) xs.length ct, .slice Ab ys.length cb, .int .u8 fac] w fun e w' => e = .returned (.tuple #[]) ∧
      w'.ownsRow base 5 1 (.slice (some ⟨T, 0, none⟩) xs.length ct) xs.length (nums .u8 (parity_addP fac ys ys.length xs)) ∧ w.grownBy w' (some T) := by
  have hmax : ys.length ≤ 9223372036854775807 := HC.2.1
  have HM := Aside0.mk hmax
  have HF := Aside0.mk hF
  have HFA := Aside0.mk hf
  have HO0 := Aside0.mk HO
  have HC0 := Aside0.mk HC
  have HN := Aside0.mk hne
  have HL := Aside0.mk hlen
  have HX := Aside0.mk hx
  have HY := Aside0.mk hy
  have HT := Aside0.mk hT
  clear hmax hF hf HO HC hne hlen hx hy hT
  have HFT := Aside0.mk hFT
  clear hFT
  go_enter Try.func51, Try.ntmps51
  go_wp2
  go_loopg [12] ys.length (fun gk v12 w' => ∃ k : Nat, k ≤ ys.length ∧ ys.length - k ≤ gk ∧ v12 = .int .i64 k ∧ Aside0 (w'.ownsRow base 5 1 (.slice (some ⟨T, 0, none⟩) xs.length ct) xs.length (nums .u8 (parity_addP fac ys k xs))) ∧ Aside0 (w.grownBy w' (some T)))
  case atStart => exact ⟨0, Nat.zero_le _, Nat.le_refl _, rfl, HO0, ⟨World.grownBy.refl _ _⟩⟩
  case round =>
    clear HO0
    obtain ⟨k, hk, hg, rfl, HO, HG⟩ := hrel
    have HK := Aside0.mk hk
    have HGK := Aside0.mk hg
    clear hk hg
    by_cases c : k < ys.length
    · have hdec : decide ((k : Int) < (ys.length : Int)) = true := decide_eq_true (by omega)
      have p1 : 0 ≤ (k : Int) := by omega
      have q1 : (k : Int) < (ys.length : Int) := by omega
      have q2 : (k : Int) < (xs.length : Int) := by have := HL.out; omega
      obtain ⟨ad, e1, hy0⟩ := Kd.at_int HC0.out k p1 q1
      have HAD := Aside0.mk e1
      have hyb := HY.out (ys.getD k 0) (by rw [List.getD_eq_getElem?_getD, List.getElem?_eq_getElem c]; exact List.getElem_mem _)
      have hxb := parity_addP_byte HFA.out HX.out HY.out k HK.out (by have := HL.out; omega) ((parity_addP fac ys k xs).getD k 0) (by rw [List.getD_eq_getElem?_getD, List.getElem?_eq_getElem (by rw [parity_addP_len]; omega)]; exact List.getElem_mem _)
      obtain ⟨hx0, hz0⟩ := own_at HO.out k p1 q2
      have hlt := World.block_lt_of_cell? w _ hy0
      have hnb : some (ad.add (k : Int).toNat).block ≠ some T := fun h => by
        have h1 := HN.out _ e1
        injection h with h
        exact h1 (by rw [← h]; unfold Addr.add; split <;> rfl)
      have hy1 := HG.out.cell hy0 hnb
      have HST : Aside0 (parity_addP fac ys (k + 1) xs = (parity_addP fac ys k xs).set k (parity_addI fac ((parity_addP fac ys k xs).getD k 0) (ys.getD k 0))) := ⟨rfl⟩
      have hFw := blk_grown HF.out HG.out (by have := HFT.out; intro h; injection h; omega)
      have HFw := Aside0.mk hFw
      have e2 : rd ys (k : Int) = ys.getD k 0 := rfl
      have e3 : rd (parity_addP fac ys k xs) (k : Int) = (parity_addP fac ys k xs).getD k 0 := rfl
      rw [e2] at hy1
      rw [e3] at hx0
      have HOS : Aside0 (∀ m u, ((wr.drewN m).setCell ⟨T, k, none⟩ (.int .u8 u)).ownsRow base 5 1 (.slice (some ⟨T, 0, none⟩) xs.length ct) xs.length (nums .u8 ((parity_addP fac ys k xs).set k u)) ∧ wr.grownBy ((wr.drewN m).setCell ⟨T, k, none⟩ (.int .u8 u)) (some T)) := ⟨fun m u => by
        obtain ⟨h1, h2⟩ := own_store (pw_own_drewN HO.out m) k u
        exact ⟨h1, ⟨h2.os, h2.tape, h2.output, h2.size, h2.block⟩⟩⟩
      generalize (parity_addP fac ys k xs).getD k 0 = x at *
      generalize ys.getD k 0 = y at *
      obtain ⟨hx1, hx2⟩ := hxb
      obtain ⟨hy2, hy3⟩ := hyb
      obtain ⟨xn, rfl⟩ := Int.eq_ofNat_of_zero_le hx1
      obtain ⟨yn, rfl⟩ := Int.eq_ofNat_of_zero_le hy2
      have HYN := Aside0.mk (show yn < 256 by omega)
      have HXN := Aside0.mk (show xn < 256 by omega)
      simp only [Int.toNat_natCast] at hy1 hx0 hz0
      subst e1
      have HC := Aside0.mk c
      clear c hnb hy0 hlt HO hFw e2 e3 hx1 hx2 hy2 hy3 HAD
      replace p1 := eq_true p1
      replace q1 := eq_true q1
      replace q2 := eq_true q2
      go_wp2
      have hcall := fun (W : World) (h : W.heap[F]? = some (.cells parity_FA 71 (0, 0))) => parity_mul F fac yn W h HFA.out HYN.out
      have HCALL := Aside0.mk hcall
      clear hcall
      go_region_with (go_at_call 33; (with_reducible refine (HCALL.out _ (by first | exact HFw.out | exact blk_drew HFw.out | exact blk_drewN (blk_drew HFw.out) _)).mono ?_); rintro e w2 ⟨rfl, nd, rfl⟩)
      all_goals
        go_wp2
        go_roundg (ys.length - (k + 1))
        case measure => have := HC.out; have := HGK.out; omega
        case rel =>
          have hc := HC.out
          have hm := HM.out
          have hxr : bits .xor .u8 (xn : Int) ((parity_mulN fac yn : Nat) : Int) = parity_addI fac xn yn := by
            rw [parity_bx, Nat.mod_eq_of_lt (Nat.xor_lt_two_pow (n := 8) HXN.out (parity_mulN_lt _ _ HFA.out HYN.out))]
            rfl
          refine ⟨k + 1, by omega, by have := HGK.out; omega, ?_, ⟨?_⟩, ⟨HG.out.trans ?_⟩⟩
          · first | rfl | (simp; done) | (have e : wrap64 ((k : Int) + 1) = ((k + 1 : Nat) : Int) := by (unfold wrap64; omega)
                                          first | (rw [← e]; rfl) | (simp [← e]; done) | (simp; omega))
          · rw [HST.out, hxr]; exact (HOS.out _ _).1
          · exact (HOS.out _ _).2
    · have hdec : decide ((k : Int) < (ys.length : Int)) = false := decide_eq_false (by omega)
      have hkk : k = ys.length := by have := HK.out; omega
      subst hkk
      go_wp2
      go_end0
      exact ⟨rfl, HO.out, HG.out⟩
end Go.Proofs.Ythablamjbikllaa.Q
