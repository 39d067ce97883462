/- A queue is the same as itself; the checked queues live. -/
import Derived.Test.YtelmcaenemjppaaQ13
import Derived.Test.YtelmcaenemjppaaQ11
import Derived.Test.YtelmcaenemjppaaQueB
namespace Go.Proofs.Ytelmcaenemjppaa.Pure
open Go.RowKit Go.Proofs.YtelmcaenemjppaaW.PrintWords Go.Proofs.YtelmcaenemjppaaW.PrintLast Go.Proofs.YtelmcaenemjppaaW.PrintMore Go.Proofs.Ytelmcaenemjppaa.Open Go.Proofs.Ytelmcaenemjppaa.Q Go.Proofs.Ytelmcaenemjppaa.Aid
theorem same_l0 (l : List S42) (a b : Int) (hl : l.length ≤ 1000000) : ∀ d i : Nat, l.length = i + d → Ev (fun k => fringeref42_Same.l0 k i l a b l a b) true
  | 0, i, h => by
    refine Ev.step (fun k => by simp only [fringeref42_Same.l0]; rfl) ?_
    exact Ev.iteF (by omega) (Ev.now _)
  | d + 1, i, h => by
    refine Ev.step (fun k => by simp only [fringeref42_Same.l0]; rfl) ?_
    rw [wr1 i (by omega)]
    refine Ev.iteT (by omega) (Ev.iteT (by omega) (Ev.iteT (by omega) (Ev.iteF (by simp) ?_)))
    exact same_l0 l a b hl d (i + 1) (by omega)
theorem same_refl (l : List S42) (a b : Int) (hl : l.length ≤ 1000000) : Ev (fun k => fringeref42_Same.f k l a b l a b) true := by
  simp only [fringeref42_Same.f]
  refine Ev.iteT (by simp) (Ev.iteT (by simp) ?_)
  refine Ev.step (fun k => by simp only [fringeref42_Same.j0]; rfl) ?_
  refine Ev.iteF (by simp) ?_
  exact same_l0 l a b hl l.length 0 (by omega)
theorem ints_l0 (l : List Int) (hl : l.length ≤ 1000000) : ∀ d i : Nat, l.length = i + d → Ev (fun k => fringeref42_SameInts.l0 k l l i) true
  | 0, i, h => by
    refine Ev.step (fun k => by simp only [fringeref42_SameInts.l0]; rfl) ?_
    exact Ev.iteF (by omega) (Ev.now _)
  | d + 1, i, h => by
    refine Ev.step (fun k => by simp only [fringeref42_SameInts.l0]; rfl) ?_
    rw [wr1 i (by omega)]
    refine Ev.iteT (by omega) (Ev.iteT (by omega) (Ev.iteT (by omega) (Ev.iteT (by simp) ?_)))
    exact ints_l0 l hl d (i + 1) (by omega)
theorem ints_refl (l : List Int) (hl : l.length ≤ 1000000) : Ev (fun k => fringeref42_SameInts.f k l l) true := by
  simp only [fringeref42_SameInts.f]
  exact Ev.iteT (by simp) (ints_l0 l hl l.length 0 (by omega))
/-! ### what Serve answers -/
/-- What one serving of a valid queue leaves: as many projects, a valid queue, the same names and shares. -/
theorem serveS_vq {l : List S42} {num den : Int} (h : VQ l num den) : VQ (serveS l num den).2.2.1 (serveS l num den).2.2.2.1 (serveS l num den).2.2.2.2 := by
  rcases serve_cases h with ⟨e, _⟩ | ⟨i, _, _, e, _⟩ | ⟨i, _, _, e, _, _, _, hv, _⟩
  · rw [e]; exact h
  · rw [e]; exact h
  · rw [e]; exact hv
theorem srv_len : ∀ (m : Nat) (l : List S42) (num den : Int) (out : List Int), VQ l num den → (srv m l num den out).1.length ≤ 8 ∧ (srv m l num den out).2.2.2.1.length ≤ out.length + m
  | 0, l, num, den, out, h => ⟨h.len, Nat.le_refl _⟩
  | m + 1, l, num, den, out, h => by
    rw [srv]
    split
    · exact ⟨h.len, Nat.le_add_right _ _⟩
    · split
      · have := srv_len m _ _ _ (out ++ [(serveS l num den).1]) (serveS_vq h)
        rw [List.length_append, List.length_singleton] at this
        exact ⟨this.1, by omega⟩
      · exact ⟨Nat.zero_le _, Nat.zero_le _⟩
theorem ServeS_len (l : List S42) (num den n : Int) : (ServeS l num den n).1.length ≤ 8 ∧ (ServeS l num den n).2.2.2.1.length ≤ 1000 := by
  unfold ServeS
  split
  · rename_i h
    split
    · have := srv_len n.toNat l num den [] (vq_iff.1 h)
      rw [List.length_nil] at this
      exact ⟨this.1, by omega⟩
    · exact ⟨Nat.zero_le _, Nat.zero_le _⟩
  · exact ⟨Nat.zero_le _, Nat.zero_le _⟩
theorem NextS_len (l : List S42) (num den : Int) : (NextS l num den).1.length ≤ 8 := by
  unfold NextS
  split
  · rename_i h
    split
    · exact (serveS_vq (vq_iff.1 h)).len
    · exact Nat.zero_le _
  · exact Nat.zero_le _
end Go.Proofs.Ytelmcaenemjppaa.Pure
