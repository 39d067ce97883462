/- The parity of blocks of one length. -/
import Derived.Test.YthablamjbikllaaParC
namespace Go.Proofs.Ythablamjbikllaa.Q
open Go.RowKit Go.Proofs.YthablamjbikllaaW.PrintWords Go.Proofs.YthablamjbikllaaW.PrintLast Go.Proofs.YthablamjbikllaaW.PrintMore
set_option linter.unusedVariables false
theorem parity_info5 : (Try.prog.info? 5).map (fun i => (i.zero, i.size, i.bytes)) = some (some (.int .u8 0), 1, 1) := by kernel_rfl
def parity_rd (xs : List (List Int)) (i : Int) : (List Int) := xs.getD i.toNat ([] : List Int)
theorem parity_at {w : World} {A : Option Addr} {n : Nat} {xs : List (List Int)} (h : Kd.C (Kd.slice 5 (Kd.int .u8)) w A n xs) (i : Int) (h0 : 0 ≤ i) (h1 : i < n) : ∃ ad A0 c0, A = some ad ∧ w.cell? (ad.add i.toNat) = some (.slice A0 (parity_rd xs i).length c0) ∧ (parity_rd xs i).length ≤ c0 ∧ Kd.C (Kd.int .u8) w A0 (parity_rd xs i).length (parity_rd xs i) := by
  obtain ⟨ad, c, e, _, hK, hc0⟩ := Kd.C_get h ([] : List Int) i h0 h1
  have hc : ∀ j u, c[j]? = some u → w.cell? (ad.add (i.toNat * 1 + j)) = some u := hc0
  obtain ⟨A0, c0, rfl, l0, g0⟩ := hK
  exact ⟨ad, A0, c0, e, by have hq := hc 0 _ rfl; rwa [Nat.mul_one, Nat.add_zero] at hq, l0, g0⟩
/-- The parity j of the first i blocks. -/
def parity_parP (l : List (List Int)) (j : Nat) : Nat → List Int
  | 0 => List.replicate (l.getD 0 []).length 0
  | i + 1 => parity_addP (parity_invN ((l.length + j) ^^^ i)) (l.getD i []) (l.getD i []).length (parity_parP l j i)
theorem parity_invN_lt (a : Nat) : parity_invN a < 256 := by
  unfold parity_invN
  have := parity_pw_bd ((255 - parity_lg a) % 255) (by have := Nat.mod_lt (255 - parity_lg a) (show 0 < 255 by omega); omega)
  omega
/-- Blocks of one length, of bytes. -/
structure Blk (l : List (List Int)) : Prop where
  pos : 0 < l.length
  max : l.length ≤ 8
  len : ∀ b ∈ l, b.length = (l.getD 0 []).length
  one : 0 < (l.getD 0 []).length
  lim : (l.getD 0 []).length ≤ 64
  byte : ∀ b ∈ l, ∀ x ∈ b, octet x
theorem Blk.at_ {l : List (List Int)} (h : Blk l) (i : Nat) (hi : i < l.length) : l.getD i [] ∈ l := by
  rw [List.getD_eq_getElem?_getD, List.getElem?_eq_getElem hi]; exact List.getElem_mem _
theorem parity_parP_ok {l : List (List Int)} (h : Blk l) (j : Nat) : ∀ i, i ≤ l.length → (parity_parP l j i).length = (l.getD 0 []).length ∧ ∀ x ∈ parity_parP l j i, octet x
  | 0, _ => ⟨by simp [parity_parP], fun x hx => by simp [parity_parP] at hx; rw [hx.2]; exact ⟨by omega, by omega⟩⟩
  | i + 1, hi => by
    obtain ⟨h1, h2⟩ := parity_parP_ok h j i (by omega)
    have hl := h.len _ (h.at_ i (by omega))
    refine ⟨by rw [parity_parP, parity_addP_len, h1], ?_⟩
    rw [parity_parP]
    exact parity_addP_byte (parity_invN_lt _) h2 (h.byte _ (h.at_ i (by omega))) _ (Nat.le_refl _) (by omega)
theorem parity_below {w W W2 : World} {T : Nat} (h : Below w.heap.size w W) (hg : W.grownBy W2 (some T)) (hT : w.heap.size ≤ T) : Below w.heap.size w W2 := h.grown hg h.size (fun k hk => by injection hk with hk; omega)
set_option maxRecDepth 100000 in
set_option maxHeartbeats 8000000 in
theorem parity_parity (F c0 j : Nat) (l0 : List (List Int)) (A0 : Option Addr) (w : World) (hF : w.heap[F]? = some (.cells parity_FA 71 (0, 0))) (hB : Blk l0) (hj : j < 8)
    (hr0 : Kd.C (Kd.slice 5 (Kd.int .u8)) w A0 l0.length l0) (hc0 : l0.length ≤ c0) :
    Calls Try.prog 46 #[.pointer (some ⟨F, 0, none⟩), .slice A0 l0.length c0, .int .i64 j] w fun e w' => ∃ v0_ : Value, e = .returned v0_ ∧ Kd.R (Kd.int .u8) 5 w' w.heap.size (fun _ => True) v0_ (parity_parP l0 j l0.length) ∧ Below w.heap.size w w' := by
  have HF := Aside0.mk hF
  have HBL := Aside0.mk hB
  have HR0 := Aside0.mk hr0
  have HC0 := Aside0.mk hc0
  have HJ := Aside0.mk hj
  have HB := Aside0.mk (Below.refl w.heap.size w)
  have p0 : (0 : Int) ≤ 0 := by omega
  have q0 : (0 : Int) < (l0.length : Int) := by have := hB.pos; omega
  obtain ⟨ad, A1, c1, e1, hx0, hl1, hi1⟩ := parity_at hr0 0 p0 q0
  subst e1
  have e2 : parity_rd l0 0 = l0.getD 0 [] := rfl
  rw [show (0 : Int).toNat = 0 from rfl, Addr.add_zero'] at hx0
  have z1 : decide ((0 : Int) ≤ ((parity_rd l0 0).length : Int)) = true := decide_eq_true (by omega)
  have z2 : decide ((((parity_rd l0 0).length : Int)).toNat ≤ 281474976710656) = true := decide_eq_true (by have := hB.lim; rw [e2]; omega)
  have q0' : decide (0 < l0.length) = true := decide_eq_true hB.pos
  have HS : Aside0 (parity_parP l0 j 0 = List.replicate (parity_rd l0 0).length 0) := ⟨rfl⟩
  clear hF hr0 hc0 hB hj hl1 hi1 e2
  have q0b : decide ((0 : Int) < (l0.length : Int)) = true := decide_eq_true q0
  have q0i : (0 < l0.length) = True := eq_true (by omega)
  replace q0 := eq_true q0
  replace p0 := eq_true p0
  go_enter Try.func46, Try.ntmps46
  go_wp2_with ((with_reducible refine gate_dst (N := 14) rfl ?_); refine Kd.R_make (Kd.int .u8) _ 5 rfl (N := 14) rfl 49 _ _ rfl ((parity_rd l0 0).length : Int) rfl rfl Try.underlying49 (.int .u8 0) 1 parity_info5 rfl (by decide) (by omega) 0 (ok := fun _ => True) (okp := fun _ => True) rfl (fun _ hk => hk) trivial (of_decide_eq_true z1) (Nat.le_trans (Nat.mul_le_mul_right _ (of_decide_eq_true z2)) (by omega)) (Below.refl _ _) (Nat.le_refl _) ?_; intro v1 w1 ho1 hb1 hg_ hnew_; have HO1 := Aside0.mk ho1; have HB1 := Aside0.mk hb1; clear hg_ hnew_ ho1 hb1)
  obtain ⟨Ao, co, eo⟩ := Kd.R_slice HO1.out
  subst eo
  have e0 : (List.replicate (((parity_rd l0 0).length : Int)).toNat (0 : Int)).length = (l0.getD 0 []).length := by rw [List.length_replicate, Int.toNat_natCast]; rfl
  have hown : w1.ownsRow w.heap.size 5 1 (.slice Ao (l0.getD 0 []).length co) (l0.getD 0 []).length (nums .u8 (parity_parP l0 j 0)) := by
    have h := Kd.own_of_R HO1.out
    rw [e0] at h
    exact h
  rw [e0]
  obtain ⟨T, rfl, hT⟩ : ∃ T, Ao = some ⟨T, 0, none⟩ ∧ w.heap.size ≤ T := by
    rcases hown.2 with ⟨h, _⟩ | ⟨g, cap, cur, h, hg, _⟩
    · injection h with h1 h2 h3; have := HBL.out.one; omega
    · injection h with h1 h2 h3; exact ⟨g, h1, hg⟩
  have HOW := Aside0.mk hown
  have HTT := Aside0.mk hT
  have HF1 := Aside0.mk (blk_lt HF.out)
  clear HO1 e0 hown hT hx0 z1 z2 q0' HS q0b q0i q0 p0
  generalize hn : (l0.getD 0 []).length = n at *
  have HNN := Aside0.mk hn
  clear hn
  go_loopg [17] l0.length (fun gk v17 w' => ∃ i : Nat, i ≤ l0.length ∧ l0.length - i ≤ gk ∧ v17 = .int .i64 i ∧ Aside0 (w'.ownsRow w.heap.size 5 1 (.slice (some ⟨T, 0, none⟩) n co) n (nums .u8 (parity_parP l0 j i))) ∧ Aside0 (Below w.heap.size w w'))
  case atStart => exact ⟨0, Nat.zero_le _, Nat.le_refl _, rfl, HOW, HB1⟩
  case round =>
    clear HOW HB1
    obtain ⟨i, hi, hg, rfl, HO, HBW⟩ := hrel
    have HI := Aside0.mk hi
    have HG := Aside0.mk hg
    clear hi hg
    by_cases c : i < l0.length
    · have hdec : decide ((i : Int) < (l0.length : Int)) = true := decide_eq_true (by omega)
      have p1 : 0 ≤ (i : Int) := by omega
      have q1 : (i : Int) < (l0.length : Int) := by omega
      obtain ⟨ad2, A2, c2, e1, hx0, hl2, hi2⟩ := parity_at HR0.out i p1 q1
      have e3 : ad = ad2 := by injection e1
      subst e3
      have e2 : parity_rd l0 (i : Int) = l0.getD i [] := rfl
      have hm := HBL.out.at_ i c
      have hlen : (l0.getD i []).length = n := by rw [HBL.out.len _ hm]; exact HNN.out
      rw [e2, hlen] at hx0 hl2 hi2
      replace hx0 := (HBW.out.cell (World.block_lt_of_cell? w _ hx0)).trans hx0
      simp only [Int.toNat_natCast] at hx0
      have hpl := parity_parP_ok HBL.out j i (Nat.le_of_lt c)
      have hpn : (parity_parP l0 j i).length = n := by rw [hpl.1]; exact HNN.out
      have hn1 : 0 < n := by rw [← HNN.out]; exact HBL.out.one
      have hblk : ∀ a, A2 = some a → a.block ≠ T := by
        rintro a rfl
        obtain ⟨ad3, e4, hc3⟩ := Kd.at_int hi2 0 (by omega) (by omega)
        injection e4 with e4
        subst e4
        rw [show (0 : Int).toNat = 0 from rfl, Addr.add_zero'] at hc3
        have := World.block_lt_of_cell? w _ hc3
        have := HTT.out
        omega
      have hmx := HBL.out.max
      have hjj := HJ.out
      have HFAC := Aside0.mk (fun (W : World) (hb : Below w.heap.size w W) => parity_factor F l0.length j i W (blk_below HF.out hb) (by omega) (by omega))
      have HADD : Aside0 (∀ W : World, Below w.heap.size w W → W.ownsRow w.heap.size 5 1 (.slice (some ⟨T, 0, none⟩) n co) n (nums .u8 (parity_parP l0 j i)) →
          Calls Try.prog 51 #[.pointer (some ⟨F, 0, none⟩), .slice (some ⟨T, 0, none⟩) n co, .slice A2 n c2, .int .u8 (parity_invN ((l0.length + j) ^^^ i))] W fun e w' => e = .returned (.tuple #[]) ∧
            w'.ownsRow w.heap.size 5 1 (.slice (some ⟨T, 0, none⟩) n co) n (nums .u8 (parity_parP l0 j (i + 1))) ∧ W.grownBy w' (some T)) := ⟨fun W hb ho => by
        have h := parity_add F T co c2 w.heap.size (parity_invN ((l0.length + j) ^^^ i)) (parity_parP l0 j i) (l0.getD i []) A2 W (blk_below HF.out hb) (parity_invN_lt _) (by rw [hpn]; exact ho) (by rw [hlen]; exact Kd.C_below hi2 hb) (own_lt ho T rfl) hblk (by have := HF1.out; have := HTT.out; omega) (by omega) hpl.2 (HBL.out.byte _ hm)
        rw [hpn, hlen] at h
        rw [parity_parP, hlen]
        exact h⟩
      clear e1 e2 hm hlen hl2 hi2 hpl hpn hn1 hblk hmx hjj
      replace p1 := eq_true p1
      have q1i : (i < l0.length) = True := eq_true c
      replace q1 := eq_true q1
      have HC := Aside0.mk c
      clear c
      go_wp2_with (first | (go_at_call 50; (with_reducible refine (HFAC.out _ HBW.out).mono ?_); rintro e w2 ⟨rfl, nd, rfl⟩; have HB2 := Aside0.mk (pw_below_drewN HBW.out nd); have HO2 := Aside0.mk (pw_own_drewN HO.out nd)) | (go_at_call 51; (with_reducible refine (HADD.out _ HB2.out HO2.out).mono ?_); rintro e w3 ⟨rfl, ho3, hg3⟩; have HB3 := Aside0.mk (parity_below HB2.out hg3 HTT.out); have HO3 := Aside0.mk ho3; clear ho3 hg3))
      go_roundg (l0.length - (i + 1))
      case measure => have := HC.out; have := HG.out; omega
      case rel =>
        have hc := HC.out
        have hm := HBL.out.max
        refine ⟨i + 1, by omega, by have := HG.out; omega, ?_, HO3, HB3⟩
        have e : wrap64 ((i : Int) + 1) = ((i + 1 : Nat) : Int) := by unfold wrap64; omega
        first | rfl | (rw [← e]; rfl) | (simp [← e]; done) | (simp; omega)
    · have hdec : decide ((i : Int) < (l0.length : Int)) = false := decide_eq_false (by omega)
      have hii : i = l0.length := by have := HI.out; omega
      subst hii
      clear c
      go_wp2
      go_ret
      refine ⟨_, rfl, ?_, HBW.out⟩
      have hpl := (parity_parP_ok HBL.out j l0.length (Nat.le_refl _)).1
      refine Kd.R_of_own (v := .slice (some ⟨T, 0, none⟩) n co) ?_ (fun _ _ => trivial)
      rw [hpl, HNN.out]
      exact HO.out
/-- The field's tables lie at a block. -/
def FieldAt (w : World) (F : Nat) : Prop := w.heap[F]? = some (.cells parity_FA 71 (0, 0))
theorem FieldAt.keep {w W : World} {F : Nat} (h : FieldAt w F) (hb : Below w.heap.size w W) : FieldAt W F := blk_below h hb
def blkB (l : List (List Int)) : Bool := decide (0 < l.length ∧ l.length ≤ 8 ∧ 0 < (l.getD 0 []).length ∧ (l.getD 0 []).length ≤ 64) && l.all (fun b => decide (b.length = (l.getD 0 []).length) && b.all (fun x => decide (0 ≤ x ∧ x < 256)))
theorem Blk.of {l : List (List Int)} (h : blkB l = true) : Blk l := by
  unfold blkB at h
  rw [Bool.and_eq_true, decide_eq_true_eq, List.all_eq_true] at h
  obtain ⟨⟨h1, h2, h3, h4⟩, h5⟩ := h
  have h6 : ∀ b ∈ l, b.length = (l.getD 0 []).length ∧ ∀ x ∈ b, octet x := by
    intro b hb
    have := h5 b hb
    rw [Bool.and_eq_true, decide_eq_true_eq, List.all_eq_true] at this
    exact ⟨this.1, fun x hx => by have h := this.2 x hx; simp only [decide_eq_true_eq] at h; exact h⟩
  exact ⟨h1, h2, fun b hb => (h6 b hb).1, h3, h4, fun b hb => (h6 b hb).2⟩
theorem Blk.to {l : List (List Int)} (h : Blk l) : blkB l = true := by
  unfold blkB
  rw [Bool.and_eq_true, decide_eq_true_eq, List.all_eq_true]
  refine ⟨⟨h.pos, h.max, h.one, h.lim⟩, fun b hb => ?_⟩
  rw [Bool.and_eq_true, decide_eq_true_eq, List.all_eq_true]
  exact ⟨h.len b hb, fun x hx => by simp only [decide_eq_true_eq]; exact h.byte b hb x hx⟩
end Go.Proofs.Ythablamjbikllaa.Q
