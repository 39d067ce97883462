/- What asking, dropping and the bound come to for a valid queue. -/
import Derived.Test.YtelmcaenemjppaaQ16
import Derived.Test.YtelmcaenemjppaaQ21
import Derived.Test.YtelmcaenemjppaaQueD
namespace Go.Proofs.Ytelmcaenemjppaa.Pure
open Go.RowKit Go.Proofs.YtelmcaenemjppaaW.PrintWords Go.Proofs.YtelmcaenemjppaaW.PrintLast Go.Proofs.YtelmcaenemjppaaW.PrintMore Go.Proofs.Ytelmcaenemjppaa.Open Go.Proofs.Ytelmcaenemjppaa.Q Go.Proofs.Ytelmcaenemjppaa.Aid
theorem allOne_one {l : List S42} : ∀ d i, allOne l i d = true → ∀ k, i ≤ k → k < i + d → one l k = true
  | 0, i, _, k, h1, h2 => by omega
  | d + 1, i, h, k, h1, h2 => by
    rw [show allOne l i (d + 1) = (one l i && allOne l (i + 1) d) from rfl, Bool.and_eq_true] at h
    by_cases e : k = i
    · subst e; exact h.1
    · exact allOne_one d (i + 1) h.2 k (by omega) (by omega)
theorem index_eq {l : List S42} {num den : Int} (h : VQ l num den) {i : Nat} (hi : i < l.length) : queue_index.f l num den (l.getD i z42).f0 = some (i : Int) := by
  unfold queue_index.f
  have := h.len
  rw [if_pos (by omega), (idx_one l i hi).2 (allOne_one l.length 0 h.one i (Nat.zero_le _) (by omega))]
theorem set_vq {l : List S42} {num den : Int} (h : VQ l num den) {i : Nat} (hi : i < l.length) {y : S42} (hy : projOk num den y = true) (hn : y.f0 = (l.getD i z42).f0) : VQ (l.set i y) num den := by
  refine ⟨by rw [List.length_set]; exact h.len, by rw [List.length_set]; exact h.pos, h.hden, h.hnum, ?_, ?_⟩
  · rw [List.length_set, allOne_congr (fun k => names_set (y := y) hn k)]; exact h.one
  · refine all_getD (fun k hk => ?_)
    rw [List.length_set] at hk
    rw [getD_set hi]
    by_cases e : k = i
    · rw [if_pos e]; exact hy
    · rw [if_neg e]; exact h.at_ hk
theorem set_self {l : List S42} {i : Nat} (hi : i < l.length) : l.set i (l.getD i z42) = l := by
  rw [List.getD_eq_getElem?_getD, List.getElem?_eq_getElem hi]
  exact List.set_getElem_self hi
/-! ### dropping -/
def dropP (p : S42) : S42 := ⟨p.f0, p.f1, p.f2, 0⟩
theorem Drop_ev {l : List S42} {num den : Int} (h : VQ l num den) {i : Nat} (hi : i < l.length) : Ev (fun k => queue_Drop.f k l num den (l.getD i z42).f0) (l.set i (dropP (l.getD i z42)), num, den, 0) := by
  simp only [queue_Drop.f]
  have hl := h.len
  have r : rd_T42 l (i : Int) = l.getD i z42 := rfl
  refine Ev.bind (impl_Check l num den h.NB) ?_
  rw [vq_iff.2 h, index_eq h hi, twin_eq l num den (by omega)]
  simp only [Option.bind_some, r]
  exact Ev.iteT (by simp) (Ev.iteF (by omega) (Ev.iteT (by omega) (Ev.iteT (by omega) (Ev.now _))))
theorem drop_vq {l : List S42} {num den : Int} (h : VQ l num den) {i : Nat} (hi : i < l.length) : VQ (l.set i (dropP (l.getD i z42))) num den := by
  have hp := pj.1 (h.at_ hi)
  exact set_vq h hi (pj.2 ⟨hp.1, hp.2.1, hp.2.2.1, ⟨Int.le_refl _, (by simp [dropP])⟩, hp.2.2.2.2.1, fun hh => absurd hh (by simp [dropP])⟩) rfl
/-! ### asking -/
/-- What is taken as used when a project that does not wait asks: what it used, or what the level says. -/
def newU (num den : Int) (p : S42) : Int := if p.f3 = 0 then mx p.f2 (num * p.f1 / den) else p.f2
def askP (num den n : Int) (p : S42) : S42 := ⟨p.f0, p.f1, newU num den p, p.f3 + n⟩
def AskS (l : List S42) (num den : Int) (i : Nat) (n : Int) : List S42 × Int × Int × Int := if n < 1 then ([], 0, 0, 2) else if n > 1000 then ([], 0, 0, 4) else if n + (l.getD i z42).f3 > 1000 then ([], 0, 0, 4) else if newU num den (l.getD i z42) > 1000000 then ([], 0, 0, 16) else (l.set i (askP num den n (l.getD i z42)), num, den, 0)
theorem Ask_ev {l : List S42} {num den : Int} (h : VQ l num den) {i : Nat} (hi : i < l.length) (n : Int) : Ev (fun k => queue_Ask.f k l num den (l.getD i z42).f0 n) (AskS l num den i n) := by
  simp only [queue_Ask.f]
  have hl := h.len
  have r : rd_T42 l (i : Int) = l.getD i z42 := rfl
  have hp := (pj.1 (h.at_ hi)).2
  have hd := h.hden
  have hm := h.hnum
  unfold AskS
  refine Ev.bind (impl_Check l num den h.NB) ?_
  rw [vq_iff.2 h, index_eq h hi, twin_eq l num den (by omega)]
  simp only [Option.bind_some, r]
  refine Ev.iteT (by simp) (Ev.iteF (by omega) ?_)
  by_cases c1 : n < 1
  · rw [if_pos c1, if_pos c1]; exact Ev.now _
  rw [if_neg c1, if_neg c1]
  by_cases c2 : n > 1000
  · rw [if_pos c2, if_pos c2]; exact Ev.now _
  rw [if_neg c2, if_neg c2, wr (x := n + (l.getD i z42).f3) (by omega) (by omega), if_pos (show (i : Int).toNat < l.length by omega)]
  by_cases c3 : n + (l.getD i z42).f3 > 1000
  · rw [if_pos c3, if_pos c3]; exact Ev.now _
  rw [if_neg c3, if_neg c3]
  unfold queue_Ask.g queue_Ask.put
  have w : wrap64 (num * (l.getD i z42).f1) = num * (l.getD i z42).f1 := wrP (A := 1000000) (B := 100) (by omega) (by omega) (by omega)
  have b := mul_bd (a := num) (b := (l.getD i z42).f1) (A := 1000000) (B := 100) (by omega) (by omega)
  have b0 : 0 ≤ num * (l.getD i z42).f1 := Int.mul_nonneg hm.1 (by omega)
  have t : Int.tdiv (num * (l.getD i z42).f1) den = num * (l.getD i z42).f1 / den := Int.tdiv_eq_ediv_of_nonneg b0
  have b1 : 0 ≤ num * (l.getD i z42).f1 / den := Int.ediv_nonneg b0 (by omega)
  have b2 : num * (l.getD i z42).f1 / den ≤ num * (l.getD i z42).f1 := Int.ediv_le_self _ b0
  rw [r, wr (x := (l.getD i z42).f3 + n) (by omega) (by omega), w, t, wr (x := num * (l.getD i z42).f1 / den) (by omega) (by omega), if_pos (show (i : Int).toNat < l.length by omega)]
  unfold askP newU
  by_cases c4 : (l.getD i z42).f3 = 0
  · simp only [if_pos c4]
    rw [if_neg (show ¬ den = 0 by omega)]
    by_cases c5 : mx (l.getD i z42).f2 (num * (l.getD i z42).f1 / den) > 1000000
    · rw [if_pos c5, if_pos c5]; exact Ev.now _
    · rw [if_neg c5, if_neg c5]; exact Ev.now _
  · simp only [if_neg c4]
    rw [if_neg (show ¬ (l.getD i z42).f2 > 1000000 by omega), if_neg (show ¬ (l.getD i z42).f2 > 1000000 by omega)]
    exact Ev.now _
theorem newU_bd {num den : Int} {p : S42} (h : projOk num den p = true) (hd : 1 ≤ den) : p.f2 ≤ newU num den p ∧ (newU num den p) * den ≤ num * p.f1 ∧ num * p.f1 ≤ (newU num den p + 1) * den ∧ (p.f3 = 0 → num * p.f1 < (newU num den p + 1) * den) ∧ (0 < p.f3 → newU num den p = p.f2) := by
  have hp := (pj.1 h).2
  have e1 := Int.ediv_mul_le (num * p.f1) (b := den) (by omega)
  have e2 := Int.lt_ediv_add_one_mul_self (num * p.f1) (b := den) (by omega)
  unfold newU mx
  by_cases c : p.f3 = 0
  · rw [if_pos c]
    by_cases c2 : p.f2 < num * p.f1 / den
    · rw [if_pos c2]
      exact ⟨by omega, e1, by omega, fun _ => e2, fun hh => by omega⟩
    · rw [if_neg c2]
      have := Int.mul_le_mul_of_nonneg_right (show num * p.f1 / den + 1 ≤ p.f2 + 1 by omega) (show 0 ≤ den by omega)
      exact ⟨by omega, hp.2.2.2.1, by omega, fun _ => by omega, fun hh => by omega⟩
  · rw [if_neg c]
    have := hp.2.2.2.2 (by omega)
    exact ⟨by omega, hp.2.2.2.1, by omega, fun hh => absurd hh c, fun _ => rfl⟩
/-- What asking answers, told apart. -/
theorem ask_cases {l : List S42} {num den : Int} (h : VQ l num den) {i : Nat} (hi : i < l.length) (n : Int) :
    (AskS l num den i n).2.2.2 = 2 ∨ (AskS l num den i n).2.2.2 = 4 ∨ (AskS l num den i n).2.2.2 = 16 ∨
    (AskS l num den i n = (l.set i (askP num den n (l.getD i z42)), num, den, (0 : Int)) ∧ VQ (l.set i (askP num den n (l.getD i z42))) num den ∧ 1 ≤ n ∧ n ≤ 1000) := by
  have hp := pj.1 (h.at_ hi)
  unfold AskS
  split
  · exact .inl rfl
  · split
    · exact .inr (.inl rfl)
    · split
      · exact .inr (.inl rfl)
      · split
        · exact .inr (.inr (.inl rfl))
        · have hb := newU_bd (h.at_ hi) h.hden.1
          refine .inr (.inr (.inr ⟨rfl, set_vq h hi (pj.2 ⟨hp.1, hp.2.1, ⟨?_, ?_⟩, ⟨?_, ?_⟩, hb.2.1, fun _ => hb.2.2.1⟩) rfl, by omega, by omega⟩))
          · show 0 ≤ newU num den (l.getD i z42); omega
          · show newU num den (l.getD i z42) ≤ 1000000; omega
          · show 0 ≤ (l.getD i z42).f3 + n; omega
          · show (l.getD i z42).f3 + n ≤ 1000; omega
end Go.Proofs.Ytelmcaenemjppaa.Pure
