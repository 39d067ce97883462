/- What the laws' own functions on the sky come to; places moved. -/
import Derived.Test.YtihmhcdcbcleeaaQ16
import Derived.Test.YtihmhcdcbcleeaaQ18
import Derived.Test.YtihmhcdcbcleeaaSkyB
namespace Go.Proofs.Ytihmhcdcbcleeaa.Pure
open Go.RowKit Go.Proofs.YtihmhcdcbcleeaaW.PrintWords Go.Proofs.YtihmhcdcbcleeaaW.PrintLast Go.Proofs.YtihmhcdcbcleeaaW.PrintMore Go.Proofs.Ytihmhcdcbcleeaa.Open Go.Proofs.Ytihmhcdcbcleeaa.Q Go.Proofs.Ytihmhcdcbcleeaa.Aid
/-! ### the law's own -/
theorem alive_ev : Ev (fun k => fringelaw41_alive.f k) true := Ev.of (fun k => fringelaw41_alive.mono k) (k := 80) (by kernel_rfl)
theorem valid_ev (p : List S41) (l : List S33) : Ev (fun k => fringelaw41_valid.f k p l) (decide (bth p l = 0)) := by
  simp only [fringelaw41_valid.f, Great_eq, Option.bind_some]
  refine Ev.ite (fun h => ?_) (fun h => Ev.bind (ref_Both_ev p l) (Ev.some_of ?_))
  · refine Ev.some_of ?_
    simp only [decide_eq_true_eq] at h
    symm
    rw [decide_eq_false_iff_not]
    intro h0
    have := bth_ok h0
    omega
  · rw [Bool.eq_iff_iff]; simp
theorem SeeS_ok {p : List S41} {l : List S33} (h : bth p l = 0) : SeeS p l = (visOf p l 0 0, 0) := by unfold SeeS; rw [if_pos h]
theorem TurnS_ok {p : List S41} {l : List S33} {x y : Int} (h : bth p l = 0) (hc : -8 ≤ x ∧ x ≤ 8 ∧ -8 ≤ y ∧ y ≤ 8) : TurnS p l x y = (visOf p l x y, 0) := by unfold TurnS; rw [if_pos h, if_pos hc]
theorem bth_chk {p : List S41} {l : List S33} (h : bth p l = 0) : chk l = 0 := by
  unfold bth at h
  by_cases hp : plc p = 0
  · rwa [if_pos hp] at h
  · rw [if_neg hp] at h; exact absurd h hp
theorem bth_plc {p : List S41} {l : List S33} (h : bth p l = 0) : plc p = 0 := by
  unfold bth at h
  by_cases hp : plc p = 0
  · exact hp
  · rwa [if_neg hp] at h
theorem plc_chk {p : List S41} {l : List S33} (h : plc p = 0) (h' : chk l = 0) : bth p l = 0 := by unfold bth; rw [if_pos h, h']
theorem chk_ok {l : List S33} (h : chk l = 0) : l.length ≤ 16 ∧ ∀ s ∈ l, lampOk s = true := by
  unfold chk at h
  by_cases h1 : l.length > 16
  · rw [if_pos h1] at h; omega
  · rw [if_neg h1] at h
    by_cases h2 : l.all lampOk = true
    · exact ⟨by omega, List.all_eq_true.1 h2⟩
    · rw [if_neg h2] at h; omega
theorem ok_chk {l : List S33} (h : l.length ≤ 16) (h' : ∀ s ∈ l, lampOk s = true) : chk l = 0 := by
  unfold chk
  rw [if_neg (by omega), if_pos (List.all_eq_true.2 h')]
theorem R2_ok {p : List S41} (h : ∀ s ∈ p, placeOk s = true) : ∀ s ∈ p, R2 s := fun s hs => by
  have := ok41 (h s hs)
  exact ⟨by omega, by omega⟩

/-! ### places moved -/
def Cong (c d : Int) : List S41 → List S41 → Prop
  | [], [] => True
  | a :: s, b :: t => ((a.f0 - b.f0 - c) % 4 = 0 ∧ (a.f1 - b.f1 - d) % 4 = 0) ∧ Cong c d s t
  | _, _ => False
theorem sm_cong {u v u' v' : Int} (hu : (u' - u) % 4 = 0) (hv : (v' - v) % 4 = 0) (x y : Int) : ∀ l : List S33, sm u' v' l x y = sm u v l x y
  | [] => rfl
  | s :: l => by
    rw [sm_cons, sm_cons, sm_cong hu hv x y l]
    have e : (u' * (s.f0 + x) + v' * (s.f1 + y)) % 4 = (u * (s.f0 + x) + v * (s.f1 + y)) % 4 := by
      have h1 : u' = u + 4 * ((u' - u) / 4) := by omega
      have h2 : v' = v + 4 * ((v' - v) / 4) := by omega
      rw [h1, h2, Int.add_mul, Int.add_mul, Int.mul_assoc, Int.mul_assoc]
      omega
    rw [rot_mod e]
theorem rowOf_cong (l : List S33) (x y c d : Int) (i : Nat) {a b : S41} (h0 : (a.f0 - b.f0 - c) % 4 = 0) (h1 : (a.f1 - b.f1 - d) % 4 = 0) : ∀ (j : Nat) (s t : List S41), Cong c d s t → (rowOf i a j s).map (visB l x y) = (rowOf i b j t).map (visB l x y)
  | _, [], [], _ => rfl
  | j, a' :: s, b' :: t, h => by
    rw [rowOf, rowOf, List.map_cons, List.map_cons, rowOf_cong l x y c d i h0 h1 (j + 1) s t h.2]
    have h2 := h.1
    unfold visB
    simp only
    rw [sm_cong (u := b'.f0 - b.f0) (v := b'.f1 - b.f1) (u' := a'.f0 - a.f0) (v' := a'.f1 - a.f1) (by omega) (by omega)]
  | _, [], _ :: _, h => h.elim
  | _, _ :: _, [], h => h.elim
theorem allOf_cong (l : List S33) (x y c d : Int) : ∀ (i : Nat) (s t : List S41), Cong c d s t → (allOf i s).map (visB l x y) = (allOf i t).map (visB l x y)
  | _, [], [], _ => rfl
  | i, a :: s, b :: t, h => by
    rw [allOf, allOf, List.map_append, List.map_append, allOf_cong l x y c d (i + 1) s t h.2, rowOf_cong l x y c d i h.1.1 h.1.2 (i + 1) s t h.2]
  | _, [], _ :: _, h => h.elim
  | _, _ :: _, [], h => h.elim
theorem cong_map (c d : Int) : ∀ p : List S41, Cong c d (p.map (fun s => (⟨s.f0 + c, s.f1 + d⟩ : S41))) p
  | [] => trivial
  | s :: p => ⟨⟨by simp only; omega, by simp only; omega⟩, cong_map c d p⟩
theorem cong_refl : ∀ p : List S41, Cong 0 0 p p
  | [] => trivial
  | s :: p => ⟨⟨by omega, by omega⟩, cong_refl p⟩
theorem cong_set (s : S41) : ∀ (p : List S41) (n : Nat), n < p.length → (s.f0 - (p.getD n z41).f0) % 4 = 0 → (s.f1 - (p.getD n z41).f1) % 4 = 0 → Cong 0 0 (p.set n s) p
  | [], _, h, _, _ => by simp at h
  | t :: p, 0, _, h0, h1 => by
    rw [List.getD_cons_zero] at h0 h1
    exact ⟨⟨by omega, by omega⟩, cong_refl p⟩
  | t :: p, n + 1, h, h0, h1 => by
    rw [List.getD_cons_succ] at h0 h1
    exact ⟨⟨by omega, by omega⟩, cong_set s p n (by simpa using h) h0 h1⟩
theorem rowOf_at (p : List S41) (i : Nat) : ∀ d j : Nat, p.length = j + d → ∀ b ∈ rowOf i (p.getD i z41) j (p.drop j), b.f0 = i ∧ b.f2 = (rd_T41 p b.f1).f0 - (rd_T41 p b.f0).f0 ∧ b.f3 = (rd_T41 p b.f1).f1 - (rd_T41 p b.f0).f1
  | 0, j, h, b, hb => by rw [List.drop_eq_nil_of_le (by omega), rowOf] at hb; simp at hb
  | d + 1, j, h, b, hb => by
    rw [drop_get p z41 j (by omega), rowOf] at hb
    rcases List.mem_cons.1 hb with rfl | hb
    · exact ⟨rfl, rfl, rfl⟩
    · exact rowOf_at p i d (j + 1) (by omega) b hb
theorem allOf_at (p : List S41) : ∀ d i : Nat, p.length = i + d → ∀ b ∈ allOf i (p.drop i), b.f2 = (rd_T41 p b.f1).f0 - (rd_T41 p b.f0).f0 ∧ b.f3 = (rd_T41 p b.f1).f1 - (rd_T41 p b.f0).f1
  | 0, i, h, b, hb => by rw [List.drop_eq_nil_of_le (by omega), allOf] at hb; simp at hb
  | d + 1, i, h, b, hb => by
    rw [drop_get p z41 i (by omega), allOf] at hb
    rcases List.mem_append.1 hb with hb | hb
    · exact (rowOf_at p i d (i + 1) (by omega) b hb).2
    · exact allOf_at p d (i + 1) (by omega) b hb
end Go.Proofs.Ytihmhcdcbcleeaa.Pure
