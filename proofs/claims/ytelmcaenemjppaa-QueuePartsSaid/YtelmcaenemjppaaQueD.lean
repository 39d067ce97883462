/- What several servings leave: who was served how often, and that the checked queues live. -/
import Derived.Test.YtelmcaenemjppaaQ18
import Derived.Test.YtelmcaenemjppaaQueC
namespace Go.Proofs.Ytelmcaenemjppaa.Pure
open Go.RowKit Go.Proofs.YtelmcaenemjppaaW.PrintWords Go.Proofs.YtelmcaenemjppaaW.PrintLast Go.Proofs.YtelmcaenemjppaaW.PrintMore Go.Proofs.Ytelmcaenemjppaa.Open Go.Proofs.Ytelmcaenemjppaa.Q Go.Proofs.Ytelmcaenemjppaa.Aid
set_option maxRecDepth 100000 in
theorem alive_ev : Ev (fun k => fringelaw42_alive.f k) true := Ev.of (fun k => fringelaw42_alive.mono k) (k := 60) (by kernel_rfl)
def cnt (i : Int) : List Int → Int
  | [] => 0
  | x :: t => (if x = i then 1 else 0) + cnt i t
theorem cnt_append (i : Int) (m : List Int) : ∀ l : List Int, cnt i (l ++ m) = cnt i l + cnt i m
  | [] => by simp [cnt]
  | x :: t => by rw [List.cons_append, cnt, cnt, cnt_append i m t]; omega
theorem cnt_bd (i : Int) : ∀ l : List Int, 0 ≤ cnt i l ∧ cnt i l ≤ l.length
  | [] => by simp [cnt]
  | x :: t => by
    have := cnt_bd i t
    rw [cnt, List.length_cons]
    split <;> omega
/-- How a queue comes out of another by servings. -/
structure Served (l : List S42) (m : List S42) (out : List Int) : Prop where
  len : m.length = l.length
  each : ∀ i : Nat, i < l.length → (m.getD i z42).f0 = (l.getD i z42).f0 ∧ (m.getD i z42).f1 = (l.getD i z42).f1 ∧ (m.getD i z42).f2 = (l.getD i z42).f2 + cnt i out ∧ (m.getD i z42).f3 = (l.getD i z42).f3 - cnt i out
theorem Served.nil (l : List S42) : Served l l [] := ⟨rfl, fun i _ => ⟨rfl, rfl, by simp [cnt], by simp [cnt]⟩⟩
theorem Served.one {l : List S42} {i : Nat} (h : i < l.length) : Served l (l.set i (had (l.getD i z42))) [(i : Int)] := by
  refine ⟨List.length_set, fun k _ => ?_⟩
  rw [getD_set h]
  by_cases e : k = i
  · subst e; rw [if_pos rfl, cnt, if_pos rfl, cnt]; exact ⟨rfl, rfl, rfl, rfl⟩
  · rw [if_neg e, cnt, if_neg (by omega), cnt]; exact ⟨rfl, rfl, by omega, by omega⟩
theorem Served.trans {l m n : List S42} {a b : List Int} (h : Served l m a) (h' : Served m n b) : Served l n (a ++ b) := by
  refine ⟨h'.len.trans h.len, fun i hi => ?_⟩
  have h1 := h.each i hi
  have h2 := h'.each i (by rw [h.len]; exact hi)
  rw [cnt_append]
  exact ⟨h2.1.trans h1.1, h2.2.1.trans h1.2.1, by omega, by omega⟩
theorem srv_err : ∀ (m : Nat) (l : List S42) (num den : Int) (out : List Int), VQ l num den → (srv m l num den out).2.2.2.2 = 0 ∨ (srv m l num den out).2.2.2.2 = 16
  | 0, _, _, _, _, _ => .inl rfl
  | m + 1, l, num, den, out, h => by
    rw [srv]
    rcases serve_cases h with ⟨e, _⟩ | ⟨i, _, _, e, _⟩ | ⟨i, _, _, e, _, _, _, hv, _⟩
    · rw [e]; dsimp only; rw [if_pos rfl]; exact .inl rfl
    · rw [e]; dsimp only; rw [if_neg (show ¬ (16 : Int) = 6 by omega), if_neg (show ¬ (16 : Int) = 0 by omega)]; exact .inr rfl
    · rw [e]; dsimp only; rw [if_neg (show ¬ (0 : Int) = 6 by omega), if_pos rfl]; exact srv_err m _ _ _ _ hv
theorem srv_ok : ∀ (m : Nat) (l : List S42) (num den : Int) (out : List Int), VQ l num den → (srv m l num den out).2.2.2.2 = 0 →
    VQ (srv m l num den out).1 (srv m l num den out).2.1 (srv m l num den out).2.2.1 ∧ ∃ o, (srv m l num den out).2.2.2.1 = out ++ o ∧ o.length ≤ m ∧ Served l (srv m l num den out).1 o
  | 0, l, num, den, out, h, _ => ⟨h, [], (List.append_nil _).symm, Nat.le_refl _, Served.nil l⟩
  | m + 1, l, num, den, out, h, he => by
    rw [srv] at he ⊢
    rcases serve_cases h with ⟨e, _⟩ | ⟨i, _, _, e, _⟩ | ⟨i, hi, _, e, _, _, _, hv, _⟩
    · rw [e] at he ⊢
      dsimp only at he ⊢
      rw [if_pos rfl] at he ⊢
      exact ⟨h, [], (List.append_nil _).symm, Nat.zero_le _, Served.nil l⟩
    · rw [e] at he
      dsimp only at he
      rw [if_neg (show ¬ (16 : Int) = 6 by omega), if_neg (show ¬ (16 : Int) = 0 by omega)] at he
      exact absurd he (by simp)
    · rw [e] at he ⊢
      dsimp only at he ⊢
      rw [if_neg (show ¬ (0 : Int) = 6 by omega), if_pos rfl] at he ⊢
      obtain ⟨h1, o, h2, h3, h4⟩ := srv_ok m _ _ _ _ hv he
      exact ⟨h1, (i : Int) :: o, by rw [h2, List.append_assoc, List.singleton_append], by rw [List.length_cons]; omega, Served.trans (Served.one hi) h4⟩
end Go.Proofs.Ytelmcaenemjppaa.Pure
