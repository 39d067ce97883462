/- The plain statement of the law QueueWaits. -/
import Derived.Test.YtelmcaenemjppaaQ23
import Derived.Test.YtelmcaenemjppaaQ22
import Derived.Test.YtelmcaenemjppaaQ17
import Derived.Test.YtelmcaenemjppaaQT
import Derived.Test.YtelmcaenemjppaaQueE
namespace Go.Proofs.Ytelmcaenemjppaa.Pure
open Go.RowKit Go.Proofs.YtelmcaenemjppaaW.PrintWords Go.Proofs.YtelmcaenemjppaaW.PrintLast Go.Proofs.YtelmcaenemjppaaW.PrintMore Go.Proofs.Ytelmcaenemjppaa.Open Go.Proofs.Ytelmcaenemjppaa.Q Go.Proofs.Ytelmcaenemjppaa.Aid
/-! ### sums over the others -/
def sumO (who : Nat) (f : Nat → Int) : Nat → Int
  | 0 => 0
  | n + 1 => sumO who f n + (if n = who then 0 else f n)
theorem sumO_le (who : Nat) (f g : Nat → Int) : ∀ n, (∀ k, k < n → f k ≤ g k) → sumO who f n ≤ sumO who g n
  | 0, _ => Int.le_refl _
  | n + 1, h => by
    have h1 := sumO_le who f g n (fun k hk => h k (by omega))
    have h2 := h n (by omega)
    rw [sumO, sumO]
    split <;> omega
theorem sumO_zero (who : Nat) (f : Nat → Int) (h : ∀ k, f k = 0) : ∀ n, sumO who f n = 0
  | 0 => rfl
  | n + 1 => by rw [sumO, sumO_zero who f h n, h n]; split <;> rfl
theorem sumO_up (who : Nat) (f : Nat → Int) (j : Nat) (hj : j ≠ who) : ∀ n, sumO who (fun k => if k = j then f k + 1 else f k) n = sumO who f n + (if j < n then 1 else 0)
  | 0 => by rw [sumO, sumO, if_neg (by omega)]; rfl
  | n + 1 => by
    rw [sumO, sumO, sumO_up who f j hj n]
    repeat' split
    all_goals omega
/-! ### the bound -/
/-- What another project may have while who waits. -/
def may (l : List S42) (who : Nat) (k : Nat) : Int := 1 + (l.getD k z42).f1 / (l.getD who z42).f1
theorem may_bd {l : List S42} {num den : Int} (h : VQ l num den) {who k : Nat} (hw : who < l.length) (hk : k < l.length) : 1 ≤ may l who k ∧ may l who k ≤ 101 := by
  have h1 := (pj.1 (h.at_ hw)).2.1
  have h2 := (pj.1 (h.at_ hk)).2.1
  have h3 := Int.ediv_le_self (l.getD who z42).f1 (show 0 ≤ (l.getD k z42).f1 by omega)
  have h4 := Int.ediv_nonneg (show 0 ≤ (l.getD k z42).f1 by omega) (show 0 ≤ (l.getD who z42).f1 by omega)
  unfold may
  omega
theorem sum_bd {l : List S42} {num den : Int} (h : VQ l num den) {who : Nat} (hw : who < l.length) : ∀ n, n ≤ l.length → 0 ≤ sumO who (may l who) n ∧ sumO who (may l who) n ≤ 101 * n
  | 0, _ => ⟨Int.le_refl _, Int.le_refl _⟩
  | n + 1, hn => by
    have h1 := sum_bd h hw n (by omega)
    have h2 := may_bd h hw (k := n) (by omega)
    rw [sumO]
    split <;> omega
theorem bound_l0 {l : List S42} {num den : Int} (h : VQ l num den) {who : Nat} (hw : who < l.length) : ∀ d i : Nat, l.length = i + d → Ev (fun k => queue_Bound.l0 k who (l.getD who z42).f1 (sumO who (may l who) i) l l.length i) (sumO who (may l who) l.length, 0)
  | 0, i, hi => by
    refine Ev.step (fun k => by simp only [queue_Bound.l0]; rfl) ?_
    refine Ev.iteF (by omega) ?_
    rw [show i = l.length by omega]
    exact Ev.now _
  | d + 1, i, hi => by
    have ih := bound_l0 h hw d (i + 1) (by omega)
    have hl := h.len
    have h1 := (pj.1 (h.at_ hw)).2.1
    have h2 := (pj.1 (h.at_ (i := i) (by omega))).2.1
    have h3 := may_bd h hw (k := i) (by omega)
    have h4 := sum_bd h hw i (by omega)
    have r : rd_T42 l (i : Int) = l.getD i z42 := rfl
    have t : Int.tdiv (l.getD i z42).f1 (l.getD who z42).f1 = (l.getD i z42).f1 / (l.getD who z42).f1 := Int.tdiv_eq_ediv_of_nonneg (by omega)
    have hm : may l who i = 1 + (l.getD i z42).f1 / (l.getD who z42).f1 := rfl
    refine Ev.step (fun k => by simp only [queue_Bound.l0]; rfl) ?_
    rw [sumO] at ih
    rw [r, t, wr1 i (by omega), wr (x := (l.getD i z42).f1 / (l.getD who z42).f1) (by omega) (by omega), wr (x := 1 + (l.getD i z42).f1 / (l.getD who z42).f1) (by omega) (by omega), ← hm, wr (x := sumO who (may l who) i + may l who i) (by omega) (by omega)]
    refine Ev.iteT (by omega) (Ev.iteT (by omega) (Ev.iteT (by omega) (Ev.ite (fun c => ?_) (fun c => Ev.iteF (by omega) ?_))))
    · rw [if_pos (by omega), Int.add_zero] at ih
      exact ih
    · rw [if_neg (by omega)] at ih
      exact ih
theorem Bound_ev {l : List S42} {num den : Int} (h : VQ l num den) {who : Nat} (hw : who < l.length) : Ev (fun k => queue_Bound.f k l num den who) (sumO who (may l who) l.length, 0) := by
  simp only [queue_Bound.f]
  refine Ev.bind (impl_Check l num den h.NB) ?_
  rw [vq_iff.2 h]
  refine Ev.iteT (by simp) (Ev.iteF (by omega) ?_)
  rw [decide_eq_false (by omega)]
  refine Ev.step (fun k => by simp only [queue_Bound.j0]; rfl) ?_
  have r : rd_T42 l (who : Int) = l.getD who z42 := rfl
  rw [r]
  exact Ev.iteF (by simp) (Ev.iteT (by omega) (Ev.iteT (by omega) (bound_l0 h hw l.length 0 (by omega))))
/-! ### one thing that happens -/
/-- What a thing that could be done leaves. -/
def Quiet (l m : List S42) (who : Nat) : Prop := m.length = l.length ∧ (∀ k, k < l.length → (m.getD k z42).f1 = (l.getD k z42).f1 ∧ (l.getD k z42).f2 ≤ (m.getD k z42).f2) ∧ (0 < (l.getD who z42).f3 → 0 < (m.getD who z42).f3 ∧ (m.getD who z42).f2 = (l.getD who z42).f2)
def Serves (l m : List S42) (num den : Int) (i : Nat) : Prop := i < l.length ∧ m = l.set i (had (l.getD i z42)) ∧ 0 < (l.getD i z42).f3 ∧ (∀ k, k < l.length → 0 < (l.getD k z42).f3 → ((l.getD i z42).f2 + 1) * (l.getD k z42).f1 ≤ ((l.getD k z42).f2 + 1) * (l.getD i z42).f1) ∧ num * (l.getD i z42).f1 ≤ ((l.getD i z42).f2 + 1) * den
def Fine (l m : List S42) (num den num' den' : Int) (who : Nat) (s : Int) : Prop := VQ m num' den' ∧ ((s = -1 ∧ Quiet l m who) ∨ (∃ i : Nat, s = i ∧ Serves l m num den i))
theorem done_ev {l : List S42} {num den : Int} (h : VQ l num den) {who : Nat} (x : Int) (hx : -9223372036854775808 ≤ x) :
    ∃ m num' den' s b, Ev (fun k => fringelaw42_done.f k l num den x who) (m, num', den', s, b) ∧ (b = true → Fine l m num den num' den' who s) := by
  have hl := h.len
  have hp := h.pos
  by_cases c : x ≥ 0
  · refine ⟨(NextS l num den).1, (NextS l num den).2.1, (NextS l num den).2.2.1, (NextS l num den).2.2.2.1, ((NextS l num den).2.2.2.2 == 0), ?_, fun hb => ?_⟩
    · simp only [fringelaw42_done.f]
      exact Ev.iteT c (Ev.bind (impl_Next l num den h.NB) (Ev.now _))
    · rw [beq_iff_eq] at hb
      unfold NextS at hb ⊢
      rw [if_pos (vq_iff.2 h)] at hb ⊢
      rcases serve_cases h with ⟨e, _⟩ | ⟨i, hi, _, e, _⟩ | ⟨i, hi, _, e, h1, _, h2, h3, h4⟩
      · rw [e] at hb; simp at hb
      · rw [e] at hb; simp at hb
      · rw [e]
        dsimp only
        rw [if_pos rfl]
        exact ⟨h3, .inr ⟨i, rfl, hi, rfl, h1, h2, h4⟩⟩
  · have e1 : wrap64 ((-1) - x) = (-1) - x := wr (by omega) (by omega)
    have e2 : Int.tmod ((-1) - x) (l.length : Int) = ((-1) - x) % (l.length : Int) := Int.tmod_eq_emod_of_nonneg (by omega)
    have e3 : Int.tdiv ((-1) - x) (l.length : Int) = ((-1) - x) / (l.length : Int) := Int.tdiv_eq_ediv_of_nonneg (by omega)
    have b1 := Int.emod_nonneg ((-1) - x) (show (l.length : Int) ≠ 0 by omega)
    have b2 := Int.emod_lt_of_pos ((-1) - x) (show 0 < (l.length : Int) by omega)
    have b3 := Int.ediv_nonneg (show 0 ≤ (-1) - x by omega) (show 0 ≤ (l.length : Int) by omega)
    have b4 := Int.ediv_le_self (l.length : Int) (show 0 ≤ (-1) - x by omega)
    have e4 : wrap64 (((-1) - x) / (l.length : Int)) = ((-1) - x) / (l.length : Int) := wr (by omega) (by omega)
    obtain ⟨k, hk⟩ : ∃ k : Nat, ((-1) - x) % (l.length : Int) = k := ⟨_, (Int.toNat_of_nonneg b1).symm⟩
    have hkl : k < l.length := by omega
    have r : rd_T42 l (k : Int) = l.getD k z42 := rfl
    generalize hv : ((-1) - x) / (l.length : Int) = v at *
    have e5 : Int.tmod v 5 = v % 5 := Int.tmod_eq_emod_of_nonneg b3
    have e6 : wrap64 (1 + v % 5) = 1 + v % 5 := wr (by omega) (by omega)
    have hpk := (pj.1 (h.at_ hkl)).2
    -- an asking
    have hask : ∃ m num' den' s b, Ev (fun f => fringelaw42_done.j0 f x k false l num den) (m, num', den', s, b) ∧ (b = true → Fine l m num den num' den' who s) := by
      refine ⟨(AskS l num den k (1 + v % 5)).1, (AskS l num den k (1 + v % 5)).2.1, (AskS l num den k (1 + v % 5)).2.2.1, -1, ((AskS l num den k (1 + v % 5)).2.2.2 == 0), ?_, fun hb => ?_⟩
      · refine Ev.step (fun f => by simp only [fringelaw42_done.j0]; rfl) ?_
        rw [e1, e3, e4, e5, e6, r]
        exact Ev.iteF (by simp) (Ev.iteT (by omega) (Ev.iteT (by omega) (Ev.iteF (by omega) (Ev.bind (Ask_ev h hkl _) (Ev.now _)))))
      · rw [beq_iff_eq] at hb
        rcases ask_cases h hkl (1 + v % 5) with e | e | e | ⟨e, hvq, hn1, _⟩
        · omega
        · omega
        · omega
        · rw [e]
          refine ⟨hvq, .inl ⟨rfl, List.length_set, fun j hj => ?_, fun hwt => ?_⟩⟩
          · dsimp only
            rw [getD_set hkl]
            by_cases c : j = k
            · subst c
              rw [if_pos rfl]
              exact ⟨rfl, (newU_bd (h.at_ hkl) h.hden.1).1⟩
            · rw [if_neg c]; exact ⟨rfl, Int.le_refl _⟩
          · dsimp only
            rw [getD_set hkl]
            by_cases c : who = k
            · subst c
              rw [if_pos rfl]
              refine ⟨?_, (newU_bd (h.at_ hkl) h.hden.1).2.2.2.2 hwt⟩
              show 0 < (l.getD who z42).f3 + (1 + v % 5)
              omega
            · rw [if_neg c]; exact ⟨hwt, rfl⟩
    obtain ⟨m, num', den', s, b, hev, hfine⟩ := hask
    by_cases c4 : v % 5 = 4
    · by_cases c5 : (k : Int) = who
      · refine ⟨m, num', den', s, b, ?_, hfine⟩
        simp only [fringelaw42_done.f]
        rw [e1, e2, e3, e4, e5, hk]
        refine Ev.iteF c (Ev.iteF (by omega) (Ev.iteT c4 ?_))
        rw [c5, bne_self_eq_false, ← c5]
        exact hev
      · refine ⟨l.set k (dropP (l.getD k z42)), num, den, -1, true, ?_, fun _ => ⟨drop_vq h hkl, .inl ⟨rfl, List.length_set, fun j hj => ?_, fun hwt => ?_⟩⟩⟩
        · simp only [fringelaw42_done.f]
          rw [e1, e2, e3, e4, e5, hk]
          refine Ev.iteF c (Ev.iteF (by omega) (Ev.iteT c4 ?_))
          rw [bne_iff_ne.2 c5]
          refine Ev.step (fun f => by simp only [fringelaw42_done.j0]; rfl) ?_
          rw [r]
          exact Ev.iteT (by simp) (Ev.iteT (by omega) (Ev.iteT (by omega) (Ev.bind (Drop_ev h hkl) (Ev.now _))))
        · rw [getD_set hkl]
          by_cases c : j = k
          · subst c; rw [if_pos rfl]; exact ⟨rfl, Int.le_refl _⟩
          · rw [if_neg c]; exact ⟨rfl, Int.le_refl _⟩
        · rw [getD_set hkl, if_neg (by omega)]
          exact ⟨hwt, rfl⟩
    · refine ⟨m, num', den', s, b, ?_, hfine⟩
      simp only [fringelaw42_done.f]
      rw [e1, e2, e3, e4, e5, hk]
      exact Ev.iteF c (Ev.iteF (by omega) (Ev.iteF c4 hev))
/-! ### what was served while who waits -/
structure Inv (l : List S42) (num den : Int) (who : Nat) (l0 : List S42) (c : Nat → Int) (count : Int) : Prop where
  vq : VQ l num den
  len : l.length = l0.length
  sh : ∀ k, k < l.length → (l.getD k z42).f1 = (l0.getD k z42).f1
  sum : count = sumO who c l.length
  bd : ∀ k, 0 ≤ c k ∧ (k < l.length → c k ≤ may l0 who k)
  ahead : 0 < (l.getD who z42).f3 → ∀ k, k < l.length → k ≠ who → c k = 0 ∨ (l.getD who z42).f2 * (l.getD k z42).f1 + (c k - 1) * (l.getD who z42).f1 ≤ (l.getD k z42).f2 * (l.getD who z42).f1
theorem Inv.start {m : List S42} {num den : Int} {who : Nat} {l0 : List S42} (h : VQ m num den) (hl : m.length = l0.length) (hs : ∀ k, k < m.length → (m.getD k z42).f1 = (l0.getD k z42).f1) (h0 : VQ m num den → ∀ k, k < m.length → 0 ≤ may l0 who k) : Inv m num den who l0 (fun _ => 0) 0 :=
  ⟨h, hl, hs, (sumO_zero who _ (fun _ => rfl) _).symm, fun k => ⟨Int.le_refl _, fun hk => h0 h k hk⟩, fun _ _ _ _ => .inl rfl⟩
theorem Inv.quiet {l m : List S42} {num den num' den' : Int} {who : Nat} {l0 : List S42} {c : Nat → Int} {count : Int} (h : Inv l num den who l0 c count) (hv : VQ m num' den') (hq : Quiet l m who) (hw : who < l.length) (hf : 0 < (l.getD who z42).f3) : Inv m num' den' who l0 c count := by
  obtain ⟨q1, q2, q3⟩ := hq
  obtain ⟨q4, q5⟩ := q3 hf
  refine ⟨hv, q1.trans h.len, fun k hk => ?_, by rw [q1]; exact h.sum, fun k => ⟨(h.bd k).1, fun hk => (h.bd k).2 (by omega)⟩, fun _ k hk hn => ?_⟩
  · rw [(q2 k (by omega)).1]; exact h.sh k (by omega)
  · rcases h.ahead hf k (by omega) hn with e | e
    · exact .inl e
    · right
      have hk2 := q2 k (by omega)
      have hw2 := q2 who hw
      have hs := (pj.1 (h.vq.at_ hw)).2.1
      rw [q5, hk2.1, hw2.1]
      have := Int.mul_le_mul_of_nonneg_right hk2.2 (show 0 ≤ (l.getD who z42).f1 by omega)
      omega
theorem Inv.serve {l m : List S42} {num den num' den' : Int} {who : Nat} {l0 : List S42} {c : Nat → Int} {count : Int} (h : Inv l num den who l0 c count) (hv : VQ m num' den') {i : Nat} (hs : Serves l m num den i) (hw : who < l.length) (hf : 0 < (l.getD who z42).f3) (hi : i ≠ who) : Inv m num' den' who l0 (fun k => if k = i then c k + 1 else c k) (count + 1) := by
  obtain ⟨hil, rfl, hwi, hm, hlev⟩ := hs
  have hpi := (pj.1 (h.vq.at_ hil)).2
  have hpw := (pj.1 (h.vq.at_ hw)).2
  have hd := h.vq.hden
  have hget : ∀ k, k ≠ i → (l.set i (had (l.getD i z42))).getD k z42 = l.getD k z42 := fun k hk => by rw [getD_set hil, if_neg hk]
  have hgi : (l.set i (had (l.getD i z42))).getD i z42 = had (l.getD i z42) := by rw [getD_set hil, if_pos rfl]
  -- the level did not fall
  have key : (l.getD who z42).f2 * (l.getD i z42).f1 + c i * (l.getD who z42).f1 ≤ ((l.getD i z42).f2 + 1) * (l.getD who z42).f1 := by
    rcases h.ahead hf i hil hi with e | e
    · rw [e, Int.zero_mul, Int.add_zero]
      exact cross hpw.2.2.2.1 hlev (by omega) (by omega) (by omega)
    · rw [Int.sub_mul, Int.one_mul] at e
      rw [Int.add_mul, Int.one_mul]
      omega
  have hturn := hm who hw hf
  have hci : c i * (l.getD who z42).f1 ≤ (l.getD i z42).f1 := by
    rw [Int.add_mul (l.getD who z42).f2 1, Int.one_mul] at hturn
    omega
  have hdiv := Int.le_ediv_of_mul_le (show 0 < (l.getD who z42).f1 by omega) hci
  refine ⟨hv, by rw [List.length_set]; exact h.len, fun k hk => ?_, ?_, fun k => ⟨?_, fun hk => ?_⟩, fun _ k hk hn => ?_⟩
  · rw [List.length_set] at hk
    by_cases e : k = i
    · subst e; rw [hgi]; exact h.sh k hk
    · rw [hget k e]; exact h.sh k hk
  · rw [List.length_set, sumO_up who c i hi, if_pos hil, h.sum]
  · have := (h.bd k).1
    split <;> omega
  · rw [List.length_set] at hk
    have := (h.bd k).2 hk
    split
    · rename_i e
      subst e
      unfold may
      rw [← h.sh k hk, ← h.sh who hw]
      omega
    · exact this
  · rw [List.length_set] at hk
    rw [hget who (fun e => hi e.symm)]
    by_cases e : k = i
    · subst e
      rw [if_pos rfl, hgi]
      right
      show (l.getD who z42).f2 * (l.getD k z42).f1 + (c k + 1 - 1) * (l.getD who z42).f1 ≤ ((l.getD k z42).f2 + 1) * (l.getD who z42).f1
      rw [Int.add_sub_cancel]
      exact key
    · rw [if_neg e, hget k e]
      exact h.ahead hf k hk hn
theorem Inv.le {l : List S42} {num den : Int} {who : Nat} {l0 : List S42} {c : Nat → Int} {count : Int} (h : Inv l num den who l0 c count) : 0 ≤ count ∧ count ≤ sumO who (may l0 who) l0.length := by
  rw [h.sum, ← h.len]
  refine ⟨?_, ?_⟩
  · have := sumO_le who (fun _ => 0) c l.length (fun k _ => (h.bd k).1)
    rw [sumO_zero who _ (fun _ => rfl)] at this
    exact this
  · -- only what lies in the queue counts
    exact sumO_le who c (may l0 who) l.length (fun k hk => (h.bd k).2 hk)
/-! ### the law -/
theorem waits_l0 (who : Nat) (ev : List Int) (l0 : List S42) (num0 den0 : Int) (hv0 : VQ l0 num0 den0) (hw : who < l0.length) (he : ev.length ≤ 60) (hwf : ∀ x ∈ ev, -9223372036854775808 ≤ x) :
    ∀ d i : Nat, ev.length = i + d → ∀ (l : List S42) (num den : Int) (c : Nat → Int) (count : Int), Inv l num den who l0 c count → Ev (fun k => fringelaw42_QueueWaits.l0 k who ev true (sumO who (may l0 who) l0.length) count l0.length i l num den) true
  | 0, i, hi, l, num, den, c, count, h => by
    refine Ev.step (fun k => by simp only [fringelaw42_QueueWaits.l0]; rfl) ?_
    exact Ev.iteF (by omega) (Ev.now _)
  | d + 1, i, hi, l, num, den, c, count, h => by
    have ih := fun l num den c count => waits_l0 who ev l0 num0 den0 hv0 hw he hwf d (i + 1) (by omega) l num den c count
    refine Ev.step (fun k => by simp only [fringelaw42_QueueWaits.l0]; rfl) ?_
    have hlen := h.len
    have r : rd ev (i : Int) = ev.getD i 0 := rfl
    have rw_ : rd_T42 l (who : Int) = l.getD who z42 := rfl
    have hx : -9223372036854775808 ≤ ev.getD i 0 := hwf _ (mem_getD ev 0 i (by omega))
    obtain ⟨m, num', den', s, b, hev, hfine⟩ := done_ev h.vq (who := who) (ev.getD i 0) hx
    have hbd := sum_bd hv0 hw l0.length (Nat.le_refl _)
    have hlen0 := hv0.len
    rw [r, wr1 i (by omega)]
    refine Ev.iteT (by omega) (Ev.iteT (by omega) (Ev.bind hev ?_))
    cases b with
    | false => exact Ev.iteF (by simp) (ih l num den c count h)
    | true =>
      obtain ⟨hvm, hcase⟩ := hfine rfl
      have hml : m.length = l.length := by
        rcases hcase with ⟨_, hq⟩ | ⟨j, _, hs⟩
        · exact hq.1
        · rw [hs.2.1, List.length_set]
      have hms : ∀ k, k < m.length → (m.getD k z42).f1 = (l0.getD k z42).f1 := fun k hk => by
        rw [← h.sh k (by omega)]
        rcases hcase with ⟨_, hq⟩ | ⟨j, _, hs⟩
        · exact (hq.2.1 k (by omega)).1
        · rw [hs.2.1, getD_set hs.1]
          split
          · rename_i e; subst e; rfl
          · rfl
      have hstart : Inv m num' den' who l0 (fun _ => 0) 0 := Inv.start hvm (by omega) hms (fun _ k hk => by have := may_bd hv0 hw (k := k) (by omega); omega)
      refine Ev.iteT (by simp) (Ev.bind (ref_Check m num' den') ?_)
      rw [vq_iff.2 hvm, hml, hlen, bne_self_eq_false]
      refine Ev.iteT (by simp) ?_
      refine Ev.step (fun k => by simp only [fringelaw42_QueueWaits.j2]; rfl) ?_
      rw [rw_]
      have hT : Ev (fun k => fringelaw42_QueueWaits.j3 k who ev true (sumO who (may l0 who) l0.length) count l0.length i s true m num' den') true := by
        refine Ev.step (fun k => by simp only [fringelaw42_QueueWaits.j3]; rfl) ?_
        rw [wr1 i (by omega)]
        exact Ev.iteT (by simp) (Ev.iteF (by omega) (ih m num' den' _ 0 hstart))
      refine Ev.iteF (by simp) (Ev.iteT (by omega) (Ev.iteT (by omega) (Ev.ite (fun _ => hT) (fun hf => ?_))))
      have hf0 := (pj.1 (h.vq.at_ (i := who) (by omega))).2.2.2.1
      rcases hcase with ⟨rfl, hq⟩ | ⟨j, rfl, hs⟩
      · rw [beq_false_of_ne (show (-1 : Int) ≠ who by omega)]
        have hinv := h.quiet hvm hq (by omega) (by omega)
        have hle := hinv.le
        refine Ev.step (fun k => by simp only [fringelaw42_QueueWaits.j3]; rfl) ?_
        rw [wr1 i (by omega)]
        exact Ev.iteF (by simp) (Ev.iteF (by omega) (Ev.iteF (by omega) (ih m num' den' _ count hinv)))
      · by_cases e : j = who
        · subst e
          rw [beq_self_eq_true]
          exact hT
        · rw [beq_false_of_ne (show (j : Int) ≠ who by omega)]
          have hinv := h.serve hvm hs (by omega) (by omega) e
          have hle := hinv.le
          refine Ev.step (fun k => by simp only [fringelaw42_QueueWaits.j3]; rfl) ?_
          rw [wr1 i (by omega), wr (x := count + 1) (by omega) (by omega)]
          exact Ev.iteF (by simp) (Ev.iteT (by omega) (Ev.iteF (by omega) (ih m num' den' _ (count + 1) hinv)))
theorem waits_j0 (w : Int) (ev : List Int) (l : List S42) (num den : Int) : Ev (fun f => fringelaw42_QueueWaits.j0 f w ev true true l num den) true := by
  refine Ev.step (fun f => by simp only [fringelaw42_QueueWaits.j0]; rfl) ?_
  exact Ev.iteT (by simp) (Ev.now _)
theorem waits_j (who : Nat) (ev : List Int) (l : List S42) (num den : Int) (hv : VQ l num den) (hw : who < l.length) (he : ev.length ≤ 60) (hwf : ∀ x ∈ ev, -9223372036854775808 ≤ x) : Ev (fun f => fringelaw42_QueueWaits.j0 f who ev true false l num den) true := by
  refine Ev.step (fun f => by simp only [fringelaw42_QueueWaits.j0]; rfl) ?_
  refine Ev.iteF (by simp) (Ev.bind (Bound_ev hv hw) (Ev.iteT (by simp) ?_))
  exact waits_l0 who ev l num den hv hw he hwf ev.length 0 (by omega) l num den _ 0 (Inv.start hv rfl (fun _ _ => rfl) (fun _ k hk => by have := may_bd hv hw (k := k) hk; omega))
theorem QueueWaits : ∀ (x0 : S24) (a1 : Int) (l2 : List Int), G24 x0 → (Lit.int .i64 a1).wf = true → GL3 l2 → ∃ k, fringelaw42_QueueWaits.f k x0.f0 x0.f1 x0.f2 a1 l2 = some true := by
  intro x w ev hx _ hev
  have hl : x.f0.length ≤ 9223372036854775806 := by have := hx.1.1; omega
  refine Ev.rounds ?_
  simp only [fringelaw42_QueueWaits.f]
  refine Ev.bind alive_ev (Ev.bind (Great_ev x.f0 x.f1 x.f2 hl) ?_)
  refine Ev.ite (fun _ => waits_j0 _ _ _ _ _) (fun _ => Ev.bind (ref_Check x.f0 x.f1 x.f2) (Ev.ite (fun hc => Ev.ite (fun _ => waits_j0 _ _ _ _ _) (fun c1 => Ev.ite (fun _ => waits_j0 _ _ _ _ _) (fun c2 => Ev.ite (fun _ => waits_j0 _ _ _ _ _) (fun c3 => ?_)))) (fun _ => waits_j0 _ _ _ _ _)))
  have := waits_j w.toNat ev x.f0 x.f1 x.f2 (vq_iff.1 hc) (by omega) (by omega) (fun y hy => (wf64 (hev.2.2 y hy)).1)
  rw [show ((w.toNat : Nat) : Int) = w by omega] at this
  exact this
end Go.Proofs.Ytelmcaenemjppaa.Pure
