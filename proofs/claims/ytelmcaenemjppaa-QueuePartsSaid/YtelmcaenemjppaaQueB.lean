/- Whose turn it is, what serving makes of a queue, and that it stays valid. -/
import Derived.Test.YtelmcaenemjppaaQ11
import Derived.Test.YtelmcaenemjppaaQ12
import Derived.Test.YtelmcaenemjppaaQueA
namespace Go.Proofs.Ytelmcaenemjppaa.Pure
open Go.RowKit Go.Proofs.YtelmcaenemjppaaW.PrintWords Go.Proofs.YtelmcaenemjppaaW.PrintLast Go.Proofs.YtelmcaenemjppaaW.PrintMore Go.Proofs.Ytelmcaenemjppaa.Open Go.Proofs.Ytelmcaenemjppaa.Q Go.Proofs.Ytelmcaenemjppaa.Aid
/-! ### valid queues -/
structure VQ (l : List S42) (num den : Int) : Prop where
  len : l.length ≤ 8
  pos : 1 ≤ l.length
  hden : 1 ≤ den ∧ den ≤ 100
  hnum : 0 ≤ num ∧ num ≤ 1000000
  one : allOne l 0 l.length = true
  all : ∀ p ∈ l, projOk num den p = true
theorem vq_iff {l : List S42} {num den : Int} : chkQ l num den = 0 ↔ VQ l num den := by
  unfold chkQ
  constructor
  · intro h
    split at h
    · cases h
    · split at h
      · split at h
        · split at h
          · rename_i c1 c2 c3 c4
            exact ⟨by omega, by omega, c3.2.1, c3.2.2, c2, fun p hp => List.all_eq_true.1 c4 p hp⟩
          · cases h
        · cases h
      · cases h
  · intro h
    rw [if_neg (by have := h.len; omega), if_pos h.one, if_pos ⟨by have := h.pos; omega, h.hden, h.hnum⟩, if_pos (List.all_eq_true.2 h.all)]
theorem pj {num den : Int} {p : S42} : projOk num den p = true ↔ nameOk p.f0 = true ∧ (1 ≤ p.f1 ∧ p.f1 ≤ 100) ∧ (0 ≤ p.f2 ∧ p.f2 ≤ 1000000) ∧ (0 ≤ p.f3 ∧ p.f3 ≤ 1000) ∧ p.f2 * den ≤ num * p.f1 ∧ (0 < p.f3 → num * p.f1 ≤ (p.f2 + 1) * den) := by
  unfold projOk
  rw [Bool.and_eq_true, decide_eq_true_eq]
theorem VQ.at_ {l : List S42} {num den : Int} (h : VQ l num den) {i : Nat} (hi : i < l.length) : projOk num den (l.getD i z42) = true := h.all _ (mem_getD l z42 i hi)
theorem nameOk_size {s : ByteArray} (h : nameOk s = true) : s.size ≤ 40 := by
  unfold nameOk at h
  rw [Bool.and_eq_true, decide_eq_true_eq] at h
  exact h.2
theorem VQ.NB {l : List S42} {num den : Int} (h : VQ l num den) : NB l := fun p hp => by have := nameOk_size (pj.1 (h.all p hp)).1; omega
theorem VQ.great {l : List S42} {num den : Int} (h : VQ l num den) : greatQ l = false := by
  unfold greatQ
  rw [Bool.or_eq_false_iff]
  refine ⟨List.any_eq_false.2 (fun p hp => ?_), decide_eq_false (by have := h.len; omega)⟩
  have := nameOk_size (pj.1 (h.all p hp)).1
  simp
  omega
/-! ### whose turn -/
theorem cross {a b c sa sb sc : Int} (h1 : a * sb ≤ b * sa) (h2 : b * sc ≤ c * sb) (ha : 0 ≤ sa) (hb : 0 < sb) (hc : 0 ≤ sc) : a * sc ≤ c * sa := by
  refine Int.le_of_mul_le_mul_right (a := sb) ?_ hb
  have e1 : a * sc * sb = a * sb * sc := by ac_rfl
  have e2 : b * sa * sc = b * sc * sa := by ac_rfl
  have e3 : c * sb * sa = c * sa * sb := by ac_rfl
  have k1 := Int.mul_le_mul_of_nonneg_right h1 hc
  have k2 := Int.mul_le_mul_of_nonneg_right h2 ha
  omega
def turnS (l : List S42) : Int := queue_turn.go l l 0 (-1)
theorem turn_eq (l : List S42) (num den : Int) (h : l.length < 9223372036854775807) : queue_turn.f l num den = some (turnS l) := by
  unfold queue_turn.f
  rw [if_pos h]
  rfl
/-- at_ is the best so far (or none of the first n waits). -/
def Best (l : List S42) (n : Nat) (a : Int) : Prop :=
  (a = -1 ∧ ∀ k, k < n → (l.getD k z42).f3 = 0) ∨ (∃ i : Nat, a = i ∧ i < n ∧ 0 < (l.getD i z42).f3 ∧ ∀ k, k < n → 0 < (l.getD k z42).f3 → ((l.getD i z42).f2 + 1) * (l.getD k z42).f1 ≤ ((l.getD k z42).f2 + 1) * (l.getD i z42).f1)
def Bnd (l : List S42) : Prop := ∀ p ∈ l, (1 ≤ p.f1 ∧ p.f1 ≤ 100) ∧ (0 ≤ p.f2 ∧ p.f2 ≤ 1000000) ∧ (0 ≤ p.f3 ∧ p.f3 ≤ 1000)
theorem VQ.bnd {l : List S42} {num den : Int} (h : VQ l num den) : Bnd l := fun p hp => by
  have := pj.1 (h.all p hp)
  exact ⟨this.2.1, this.2.2.1, this.2.2.2.1⟩
theorem sooner_eq {x y : S42} (hx : (1 ≤ x.f1 ∧ x.f1 ≤ 100) ∧ (0 ≤ x.f2 ∧ x.f2 ≤ 1000000)) (hy : (1 ≤ y.f1 ∧ y.f1 ≤ 100) ∧ (0 ≤ y.f2 ∧ y.f2 ≤ 1000000)) :
    wrap64 ((wrap64 (x.f2 + 1)) * y.f1) = (x.f2 + 1) * y.f1 := by
  rw [wr (x := x.f2 + 1) (by omega) (by omega)]
  exact wrP (A := 1000001) (B := 100) (by omega) (by omega) (by omega)
theorem best_go (l : List S42) (hb : Bnd l) : ∀ d i : Nat, l.length = i + d → ∀ a : Int, Best l i a → Best l l.length (queue_turn.go l (l.drop i) i a)
  | 0, i, h, a, ha => by
    rw [List.drop_eq_nil_of_le (by omega), queue_turn.go]
    rw [show l.length = i by omega]
    exact ha
  | d + 1, i, h, a, ha => by
    rw [drop_get l z42 i (by omega), queue_turn.go]
    have hx := hb _ (mem_getD l z42 i (by omega))
    have ih := fun a h' => best_go l hb d (i + 1) (by omega) a h'
    rw [show ((i : Int) + 1) = ((i + 1 : Nat) : Int) by omega]
    refine ih _ ?_
    by_cases hw : 0 < (l.getD i z42).f3
    · rw [decide_eq_true (show (l.getD i z42).f3 > 0 from hw), Bool.true_and]
      rcases ha with ⟨rfl, hz⟩ | ⟨j, rfl, hj, hwj, hm⟩
      · unfold queue_turn.sooner
        rw [decide_eq_true (by omega), Bool.true_or, if_pos rfl]
        refine .inr ⟨i, rfl, by omega, hw, fun k hk hwk => ?_⟩
        by_cases e : k = i
        · subst e; exact Int.le_refl _
        · have := hz k (by omega); omega
      · have hy := hb _ (mem_getD l z42 j (by omega))
        have e : rd_T42 l (j : Int) = l.getD j z42 := rfl
        unfold queue_turn.sooner
        rw [decide_eq_false (show ¬ (j : Int) < 0 by omega), Bool.false_or, e, sooner_eq ⟨hx.1, hx.2.1⟩ ⟨hy.1, hy.2.1⟩, sooner_eq ⟨hy.1, hy.2.1⟩ ⟨hx.1, hx.2.1⟩]
        by_cases c : ((l.getD i z42).f2 + 1) * (l.getD j z42).f1 < ((l.getD j z42).f2 + 1) * (l.getD i z42).f1
        · rw [if_pos (decide_eq_true c)]
          refine .inr ⟨i, rfl, by omega, hw, fun k hk hwk => ?_⟩
          by_cases e : k = i
          · subst e; exact Int.le_refl _
          · have hk2 := hb _ (mem_getD l z42 k (by omega))
            exact cross (by omega) (hm k (by omega) hwk) (by omega) (by omega) (by omega)
        · rw [if_neg (by rw [decide_eq_true_eq]; exact c)]
          refine .inr ⟨j, rfl, by omega, hwj, fun k hk hwk => ?_⟩
          by_cases e : k = i
          · subst e; omega
          · exact hm k (by omega) hwk
    · rw [decide_eq_false (show ¬ (l.getD i z42).f3 > 0 from hw), Bool.false_and, if_neg (by simp)]
      rcases ha with ⟨rfl, hz⟩ | ⟨j, rfl, hj, hwj, hm⟩
      · refine .inl ⟨rfl, fun k hk => ?_⟩
        by_cases e : k = i
        · subst e; omega
        · exact hz k (by omega)
      · refine .inr ⟨j, rfl, by omega, hwj, fun k hk hwk => ?_⟩
        by_cases e : k = i
        · subst e; omega
        · exact hm k (by omega) hwk
theorem turn_best {l : List S42} (hb : Bnd l) : Best l l.length (turnS l) := by
  have := best_go l hb l.length 0 (by omega) (-1) (.inl ⟨rfl, fun k hk => absurd hk (Nat.not_lt_zero k)⟩)
  rw [List.drop_zero] at this
  exact this
theorem refTurn_l0 (l : List S42) (hb : ∀ p ∈ l, 0 ≤ p.f3) (hl : l.length ≤ 100) (num den : Int) : ∀ d i : Nat, l.length = i + d → ∀ a : Int, (a < 0 ∨ (0 ≤ a ∧ a < l.length)) → Ev (fun k => fringeref42_Turn.l0 k a i l num den) (queue_turn.go l (l.drop i) i a)
  | 0, i, h, a, _ => by
    refine Ev.step (fun k => by simp only [fringeref42_Turn.l0]; rfl) ?_
    refine Ev.iteF (by omega) ?_
    rw [List.drop_eq_nil_of_le (by omega), queue_turn.go]
    exact Ev.now _
  | d + 1, i, h, a, ha => by
    have ih := fun a h' => refTurn_l0 l hb hl num den d (i + 1) (by omega) a h'
    refine Ev.step (fun k => by simp only [fringeref42_Turn.l0]; rfl) ?_
    have e : rd_T42 l (i : Int) = l.getD i z42 := rfl
    have hx := hb _ (mem_getD l z42 i (by omega))
    rw [drop_get l z42 i (by omega), queue_turn.go, e, wr1 i (by omega), show ((i : Int) + 1) = ((i + 1 : Nat) : Int) by omega]
    refine Ev.iteT (by omega) (Ev.iteT (by omega) (Ev.ite (fun c => ?_) (fun c => ?_)))
    · rw [decide_eq_false (by omega), Bool.false_and, if_neg (by simp)]
      exact ih a ha
    · rw [decide_eq_true (by omega), Bool.true_and]
      unfold queue_turn.sooner
      refine Ev.ite (fun c2 => ?_) (fun c2 => ?_)
      · rw [decide_eq_true c2, Bool.true_or, if_pos rfl]
        exact ih i (.inr ⟨by omega, by omega⟩)
      · rw [decide_eq_false c2, Bool.false_or]
        refine Ev.iteT (by omega) (Ev.iteT (by omega) (Ev.ite (fun c3 => ?_) (fun c3 => ?_)))
        · rw [if_pos (decide_eq_true c3)]
          exact ih i (.inr ⟨by omega, by omega⟩)
        · rw [if_neg (by rw [decide_eq_true_eq]; exact c3)]
          exact ih a ha
theorem refTurn_ev (l : List S42) (hb : ∀ p ∈ l, 0 ≤ p.f3) (hl : l.length ≤ 100) (num den : Int) : Ev (fun k => fringeref42_Turn.f k l num den) (turnS l) := by
  simp only [fringeref42_Turn.f]
  have := refTurn_l0 l hb hl num den l.length 0 (by omega) (-1) (.inl (by omega))
  rw [List.drop_zero] at this
  exact this
/-! ### serving -/
/-- A project that had one observation more. -/
def had (p : S42) : S42 := ⟨p.f0, p.f1, p.f2 + 1, p.f3 - 1⟩
def serveS (l : List S42) (num den : Int) : Int × Int × List S42 × Int × Int :=
  if turnS l < 0 then (0, 6, l, num, den) else if (rd_T42 l (turnS l)).f2 ≥ 1000000 then (0, 16, l, num, den) else (turnS l, 0, l.set (turnS l).toNat (had (rd_T42 l (turnS l))), (rd_T42 l (turnS l)).f2 + 1, (rd_T42 l (turnS l)).f1)
theorem serve_eq {l : List S42} {num den : Int} (h : VQ l num den) : queue_serve.f l num den = some (serveS l num den) := by
  have hb := turn_best h.bnd
  unfold queue_serve.f serveS
  rw [turn_eq l num den (by have := h.len; omega)]
  simp only [Option.bind_some]
  generalize turnS l = a at hb
  by_cases c : a < 0
  · rw [if_pos c, if_pos c]
  · rw [if_neg c, if_neg c]
    rcases hb with ⟨rfl, _⟩ | ⟨i, rfl, hi, hw, _⟩
    · omega
    · rw [if_pos (by omega)]
      have e : rd_T42 l (i : Int) = l.getD i z42 := rfl
      have hp := (pj.1 (h.at_ hi))
      rw [e]
      by_cases c2 : (l.getD i z42).f2 ≥ 1000000
      · rw [if_pos c2, if_pos c2]
      · rw [if_neg c2, if_neg c2, wr (x := (l.getD i z42).f2 + 1) (by omega) (by omega), wr (x := (l.getD i z42).f3 - 1) (by omega) (by omega)]
        rfl
theorem names_set {l : List S42} {a : Nat} {y : S42} (h : y.f0 = (l.getD a z42).f0) (k : Nat) : ((l.set a y).getD k z42).f0 = (l.getD k z42).f0 := by
  rw [List.getD_eq_getElem?_getD, List.getElem?_set]
  by_cases e : a = k
  · subst e
    rw [if_pos rfl]
    by_cases hl : a < l.length
    · rw [if_pos hl]; exact h
    · rw [if_neg hl, List.getD_eq_getElem?_getD, List.getElem?_eq_none (by omega)]
  · rw [if_neg e, ← List.getD_eq_getElem?_getD]
theorem allOne_congr {l m : List S42} (h : ∀ k, (m.getD k z42).f0 = (l.getD k z42).f0) : ∀ d i, allOne m i d = allOne l i d
  | 0, _ => rfl
  | d + 1, i => by
    rw [show allOne m i (d + 1) = (one m i && allOne m (i + 1) d) from rfl, show allOne l i (d + 1) = (one l i && allOne l (i + 1) d) from rfl, allOne_congr h d (i + 1)]
    have : one m i = one l i := by unfold one; simp only [h]
    rw [this]
theorem getD_set {l : List S42} {a : Nat} {y : S42} (h : a < l.length) (k : Nat) : (l.set a y).getD k z42 = if k = a then y else l.getD k z42 := by
  rw [List.getD_eq_getElem?_getD, List.getElem?_set]
  by_cases e : a = k
  · subst e; rw [if_pos rfl, if_pos h, if_pos rfl]; rfl
  · rw [if_neg e, if_neg (fun h => e h.symm), ← List.getD_eq_getElem?_getD]
theorem all_getD {l : List S42} {P : S42 → Prop} (h : ∀ i, i < l.length → P (l.getD i z42)) : ∀ p ∈ l, P p := fun p hp => by
  obtain ⟨i, hi, rfl⟩ := List.getElem_of_mem hp
  have := h i hi
  rw [List.getD_eq_getElem?_getD, List.getElem?_eq_getElem hi] at this
  exact this
/-- Serving the next project of a valid queue gives a valid queue, and the level does not fall. -/
theorem serve_vq {l : List S42} {num den : Int} (h : VQ l num den) {i : Nat} (hi : i < l.length) (hw : 0 < (l.getD i z42).f3) (hu : (l.getD i z42).f2 < 1000000)
    (hm : ∀ k, k < l.length → 0 < (l.getD k z42).f3 → ((l.getD i z42).f2 + 1) * (l.getD k z42).f1 ≤ ((l.getD k z42).f2 + 1) * (l.getD i z42).f1) :
    VQ (l.set i (had (l.getD i z42))) ((l.getD i z42).f2 + 1) (l.getD i z42).f1 ∧ num * (l.getD i z42).f1 ≤ ((l.getD i z42).f2 + 1) * den := by
  have hp := pj.1 (h.at_ hi)
  have hlev := hp.2.2.2.2.2 hw
  have hd := h.hden
  refine ⟨⟨by rw [List.length_set]; exact h.len, by rw [List.length_set]; exact h.pos, hp.2.1, by omega, ?_, ?_⟩, hlev⟩
  · rw [List.length_set, allOne_congr (fun k => names_set (y := had (l.getD i z42)) rfl k)]; exact h.one
  · refine all_getD (fun k hk => ?_)
    rw [List.length_set] at hk
    rw [getD_set hi]
    by_cases e : k = i
    · rw [if_pos e]
      refine pj.2 ⟨hp.1, hp.2.1, ?_, ?_, ?_, fun _ => ?_⟩
      · show 0 ≤ (l.getD i z42).f2 + 1 ∧ (l.getD i z42).f2 + 1 ≤ 1000000; omega
      · show 0 ≤ (l.getD i z42).f3 - 1 ∧ (l.getD i z42).f3 - 1 ≤ 1000; omega
      · exact Int.le_refl _
      · show ((l.getD i z42).f2 + 1) * (l.getD i z42).f1 ≤ ((l.getD i z42).f2 + 1 + 1) * (l.getD i z42).f1
        exact Int.mul_le_mul_of_nonneg_right (by omega) (by omega)
    · rw [if_neg e]
      have hq := pj.1 (h.at_ hk)
      refine pj.2 ⟨hq.1, hq.2.1, hq.2.2.1, hq.2.2.2.1, ?_, fun hwk => hm k hk hwk⟩
      -- u_k / s_k is at most the level, which is at most the turn
      exact cross (b := num) (sb := den) hq.2.2.2.2.1 hlev (by omega) (by omega) (by omega)
/-- What serving does, told apart. -/
theorem serve_cases {l : List S42} {num den : Int} (h : VQ l num den) :
    (serveS l num den = ((0 : Int), (6 : Int), l, num, den) ∧ turnS l = -1 ∧ ∀ k, k < l.length → (l.getD k z42).f3 = 0) ∨
    (∃ i : Nat, i < l.length ∧ turnS l = i ∧ serveS l num den = ((0 : Int), (16 : Int), l, num, den) ∧ (l.getD i z42).f2 = 1000000 ∧ 0 < (l.getD i z42).f3) ∨
    (∃ i : Nat, i < l.length ∧ turnS l = i ∧ serveS l num den = ((i : Int), (0 : Int), l.set i (had (l.getD i z42)), (l.getD i z42).f2 + 1, (l.getD i z42).f1) ∧ 0 < (l.getD i z42).f3 ∧ (l.getD i z42).f2 < 1000000 ∧
      (∀ k, k < l.length → 0 < (l.getD k z42).f3 → ((l.getD i z42).f2 + 1) * (l.getD k z42).f1 ≤ ((l.getD k z42).f2 + 1) * (l.getD i z42).f1) ∧
      VQ (l.set i (had (l.getD i z42))) ((l.getD i z42).f2 + 1) (l.getD i z42).f1 ∧ num * (l.getD i z42).f1 ≤ ((l.getD i z42).f2 + 1) * den) := by
  rcases turn_best h.bnd with ⟨ht, hz⟩ | ⟨i, ht, hi, hw, hm⟩
  · exact .inl ⟨by unfold serveS; rw [ht, if_pos (by omega)], ht, hz⟩
  · have e : rd_T42 l (i : Int) = l.getD i z42 := rfl
    by_cases c : (l.getD i z42).f2 ≥ 1000000
    · refine .inr (.inl ⟨i, hi, ht, ?_, ?_, hw⟩)
      · unfold serveS; rw [ht, if_neg (by omega), e, if_pos c]
      · have := (pj.1 (h.at_ hi)).2.2.1; omega
    · refine .inr (.inr ⟨i, hi, ht, ?_, hw, by omega, hm, serve_vq h hi hw (by omega) hm⟩)
      unfold serveS
      rw [ht, if_neg (by omega), e, if_neg c]
      rfl
/-! ### Next -/
def NextS (l : List S42) (num den : Int) : List S42 × Int × Int × Int × Int := if chkQ l num den = 0 then (if (serveS l num den).2.1 = 0 then ((serveS l num den).2.2.1, (serveS l num den).2.2.2.1, (serveS l num den).2.2.2.2, (serveS l num den).1, 0) else ([], 0, 0, 0, (serveS l num den).2.1)) else ([], 0, 0, 0, chkQ l num den)
theorem twin_eq (l : List S42) (num den : Int) (h : l.length ≤ 100) : queue_twin.f l num den = some (l, num, den) := by
  unfold queue_twin.f slices_Clone__api_Project_api_Project.f
  rw [if_pos (by omega)]
  rfl
theorem refTwin_eq (l : List S42) (num den : Int) (h : l.length ≤ 100) : fringeref42_Twin.f l num den = some (l, num, den) := by
  unfold fringeref42_Twin.f
  simp only [Option.bind_some, List.nil_append, List.length_nil, Nat.zero_add]
  rw [if_pos (by omega)]
theorem impl_Next (l : List S42) (num den : Int) (hn : NB l) : Ev (fun k => queue_Next.f k l num den) (NextS l num den) := by
  unfold NextS
  simp only [queue_Next.f]
  refine Ev.bind (impl_Check l num den hn) ?_
  by_cases h : chkQ l num den = 0
  · have hv := vq_iff.1 h
    rw [if_pos h, if_pos h, twin_eq l num den (by have := hv.len; omega)]
    simp only [Option.bind_some]
    rw [serve_eq hv]
    simp only [Option.bind_some]
    by_cases c : (serveS l num den).2.1 = 0
    · rw [if_pos c, if_pos c]; exact Ev.now _
    · rw [if_neg c, if_neg c]; exact Ev.now _
  · rw [if_neg h, if_neg h]; exact Ev.now _
theorem ref_Next (l : List S42) (num den : Int) : Ev (fun k => fringeref42_Next.f k l num den) (NextS l num den) := by
  unfold NextS
  simp only [fringeref42_Next.f]
  refine Ev.bind (ref_Check l num den) ?_
  by_cases h : chkQ l num den = 0
  · have hv := vq_iff.1 h
    have hlen := hv.len
    rw [if_pos h]
    refine Ev.iteT h ?_
    refine Ev.bind (refTurn_ev l (fun p hp => (hv.bnd p hp).2.2.1) (by omega) num den) ?_
    rcases serve_cases hv with ⟨e, ht, _⟩ | ⟨i, hi, ht, e, hu, _⟩ | ⟨i, hi, ht, e, hw, hu, _⟩
    · rw [e, ht]
      dsimp only
      rw [if_neg (show ¬ (6 : Int) = 0 by omega)]
      exact Ev.now _
    · have er : rd_T42 l (i : Int) = l.getD i z42 := rfl
      rw [e, ht]
      dsimp only
      rw [er, if_neg (show ¬ (16 : Int) = 0 by omega), if_neg (show ¬ (i : Int) < 0 by omega), if_pos (by omega), if_pos hu]; exact Ev.now _
    · have er : rd_T42 l (i : Int) = l.getD i z42 := rfl
      have hp := pj.1 (hv.at_ hi)
      rw [e, ht]
      dsimp only
      rw [if_neg (show ¬ (i : Int) < 0 by omega), if_pos (show (i : Int).toNat < l.length by omega), er, if_neg (show ¬ (l.getD i z42).f2 = 1000000 by omega), refTwin_eq l num den (by omega), if_pos rfl]
      simp only [Option.bind_some, fringeref42_Next.g]
      rw [if_pos (show (i : Int).toNat < l.length by omega), er, wr (x := (l.getD i z42).f2 + 1) (by omega) (by omega), wr (x := (l.getD i z42).f3 - 1) (by omega) (by omega)]
      exact Ev.now _
  · rw [if_neg h]; exact Ev.iteF h (Ev.now _)
/-! ### Serve -/
def srv : Nat → List S42 → Int → Int → List Int → List S42 × Int × Int × List Int × Int
  | 0, l, num, den, out => (l, num, den, out, 0)
  | m + 1, l, num, den, out => if (serveS l num den).2.1 = 6 then (l, num, den, out, 0) else if (serveS l num den).2.1 = 0 then srv m (serveS l num den).2.2.1 (serveS l num den).2.2.2.1 (serveS l num den).2.2.2.2 (out ++ [(serveS l num den).1]) else ([], 0, 0, [], (serveS l num den).2.1)
def ServeS (l : List S42) (num den n : Int) : List S42 × Int × Int × List Int × Int := if chkQ l num den = 0 then (if 0 ≤ n ∧ n ≤ 1000 then srv n.toNat l num den [] else ([], 0, 0, [], 2)) else ([], 0, 0, [], chkQ l num den)
theorem impl_srv (n : Int) (hn : n ≤ 1000) : ∀ (m : Nat) (i : Int) (l : List S42) (num den : Int) (out : List Int), VQ l num den → 0 ≤ i → n - i = m → out.length ≤ 1000000 - m → Ev (fun k => queue_Serve.l0 k l num den out i n) (srv m l num den out)
  | 0, i, l, num, den, out, hv, h0, h, ho => by
    refine Ev.step (fun k => by simp only [queue_Serve.l0]; rfl) ?_
    exact Ev.iteF (by omega) (Ev.now _)
  | m + 1, i, l, num, den, out, hv, h0, h, ho => by
    refine Ev.step (fun k => by simp only [queue_Serve.l0]; rfl) ?_
    refine Ev.iteT (by omega) ?_
    rw [serve_eq hv, srv]
    simp only [Option.bind_some]
    rcases serve_cases hv with ⟨e, ht, _⟩ | ⟨j, hj, ht, e, hu, _⟩ | ⟨j, hj, ht, e, hw, hu, hm, hv2, _⟩
    · rw [e]
      dsimp only
      rw [if_pos rfl]
      exact Ev.iteT rfl (Ev.now _)
    · rw [e]
      dsimp only
      rw [if_neg (show ¬ (16 : Int) = 6 by omega), if_neg (show ¬ (16 : Int) = 0 by omega)]
      exact Ev.iteF (by omega) (Ev.iteF (by omega) (Ev.now _))
    · rw [e]
      dsimp only
      rw [if_neg (show ¬ (0 : Int) = 6 by omega), if_pos rfl, wr (x := i + 1) (by omega) (by omega)]
      refine Ev.iteF (by omega) (Ev.iteT rfl (Ev.iteT (by omega) ?_))
      exact impl_srv n hn m (i + 1) _ _ _ _ hv2 (by omega) (by omega) (by simp; omega)
theorem impl_Serve (l : List S42) (num den n : Int) (hn : NB l) : Ev (fun k => queue_Serve.f k l num den n) (ServeS l num den n) := by
  unfold ServeS
  simp only [queue_Serve.f]
  refine Ev.bind (impl_Check l num den hn) ?_
  by_cases h : chkQ l num den = 0
  · have hv := vq_iff.1 h
    rw [if_pos h]
    refine Ev.iteT h ?_
    by_cases c : 0 ≤ n ∧ n ≤ 1000
    · rw [if_pos c, twin_eq l num den (by have := hv.len; omega)]
      simp only [Option.bind_some]
      refine Ev.iteT c ?_
      exact impl_srv n c.2 n.toNat 0 l num den [] hv (by omega) (by omega) (by simp)
    · rw [if_neg c]; exact Ev.iteF c (Ev.now _)
  · rw [if_neg h]; exact Ev.iteF h (Ev.now _)
theorem ref_srv (n : Int) (hn : n ≤ 1000) : ∀ (m : Nat) (l : List S42) (num den : Int) (out : List Int), VQ l num den → n - (out.length : Int) = m → Ev (fun k => fringeref42_Serve.l0 k n out l num den) (srv m l num den out)
  | 0, l, num, den, out, hv, h => by
    refine Ev.step (fun k => by simp only [fringeref42_Serve.l0]; rfl) ?_
    refine Ev.iteF (by omega) ?_
    refine Ev.step (fun k => by simp only [fringeref42_Serve.j1]; rfl) ?_
    exact Ev.iteF (by simp) (Ev.now _)
  | m + 1, l, num, den, out, hv, h => by
    have hlen := hv.len
    refine Ev.step (fun k => by simp only [fringeref42_Serve.l0]; rfl) ?_
    refine Ev.iteT (by omega) (Ev.bind (refTurn_ev l (fun p hp => (hv.bnd p hp).2.2.1) (by omega) num den) ?_)
    refine Ev.step (fun k => by simp only [fringeref42_Serve.j1]; rfl) ?_
    have hN : NextS l num den = if (serveS l num den).2.1 = 0 then ((serveS l num den).2.2.1, (serveS l num den).2.2.2.1, (serveS l num den).2.2.2.2, (serveS l num den).1, 0) else ([], 0, 0, 0, (serveS l num den).2.1) := by unfold NextS; rw [if_pos (vq_iff.2 hv)]
    rw [srv]
    rcases serve_cases hv with ⟨e, ht, _⟩ | ⟨j, hj, ht, e, hu, _⟩ | ⟨j, hj, ht, e, hw, hu, hm, hv2, _⟩
    · rw [e, ht]
      dsimp only
      rw [if_pos rfl]
      exact Ev.iteF (by simp) (Ev.now _)
    · rw [ht]
      refine Ev.iteT (by simp) (Ev.bind (ref_Next l num den) ?_)
      rw [hN, e]
      dsimp only
      rw [if_neg (show ¬ (16 : Int) = 6 by omega), if_neg (show ¬ (16 : Int) = 0 by omega), if_neg (show ¬ (16 : Int) = 0 by omega)]
      exact Ev.iteF (by simp) (Ev.now _)
    · rw [ht]
      refine Ev.iteT (by simp) (Ev.bind (ref_Next l num den) ?_)
      rw [hN, e]
      dsimp only
      rw [if_pos rfl, if_neg (show ¬ (0 : Int) = 6 by omega), if_pos rfl]
      refine Ev.iteT rfl (Ev.iteT (by omega) ?_)
      exact ref_srv n hn m _ _ _ _ hv2 (by simp; omega)
theorem ref_Serve (l : List S42) (num den n : Int) : Ev (fun k => fringeref42_Serve.f k l num den n) (ServeS l num den n) := by
  unfold ServeS
  simp only [fringeref42_Serve.f, refIn_eq, Option.bind_some]
  refine Ev.bind (ref_Check l num den) ?_
  by_cases h : chkQ l num den = 0
  · have hv := vq_iff.1 h
    rw [if_pos h]
    refine Ev.iteT h ?_
    by_cases c : 0 ≤ n ∧ n ≤ 1000
    · rw [if_pos c, refTwin_eq l num den (by have := hv.len; omega)]
      refine Ev.iteT (by simpa using c) ?_
      simp only [Option.bind_some]
      exact ref_srv n c.2 n.toNat l num den [] hv (by simp; omega)
    · rw [if_neg c]
      exact Ev.iteF (by simpa using c) (Ev.now _)
  · rw [if_neg h]; exact Ev.iteF h (Ev.now _)
end Go.Proofs.Ytelmcaenemjppaa.Pure
