/- What checking a queue comes to, in the program and in the reference: names, what is twice, projects. -/
import Derived.Test.YtelmcaenemjppaaQ5
import Derived.Test.YtelmcaenemjppaaQ8
import Derived.Test.YtelmcaenemjppaaQ4
import Derived.Test.YtelmcaenemjppaaQT
import Derived.Test.YtelmcaenemjppaaAid
namespace Go.Proofs.Ytelmcaenemjppaa.Pure
open Go.RowKit Go.Proofs.YtelmcaenemjppaaW.PrintWords Go.Proofs.YtelmcaenemjppaaW.PrintLast Go.Proofs.YtelmcaenemjppaaW.PrintMore Go.Proofs.Ytelmcaenemjppaa.Open Go.Proofs.Ytelmcaenemjppaa.Q Go.Proofs.Ytelmcaenemjppaa.Aid
/-! ### names -/
def chOk (c : Int) : Bool := decide ((97 ≤ c ∧ c ≤ 122) ∨ c = 45 ∨ (48 ≤ c ∧ c ≤ 57))
def letter (c : Int) : Bool := decide (97 ≤ c ∧ c ≤ 122)
def nameL (l : List UInt8) : Bool := match l with
  | [] => false
  | b :: t => letter (b.toNat : Int) && t.all (fun c => chOk (c.toNat : Int))
def nameOk (s : ByteArray) : Bool := nameL s.data.toList && decide (s.size ≤ 40)
theorem scan_false : ∀ l : List UInt8, queue_name.scan l false = l.all (fun c => chOk (c.toNat : Int))
  | [] => rfl
  | b :: t => by
    rw [queue_name.scan, scan_false t, List.all_cons]
    have e : queue_name.bad false (b.toNat : Int) = !chOk (b.toNat : Int) := by
      unfold queue_name.bad chOk
      rw [Bool.eq_iff_iff]
      simp
      try omega
    rw [e]
    cases chOk (b.toNat : Int) <;> simp
theorem name_eq (s : ByteArray) (h : s.size < 9223372036854775807) : queue_name.f s = some (nameOk s) := by
  unfold queue_name.f nameOk
  rw [if_pos h]
  congr 1
  cases hl : s.data.toList with
  | nil =>
    have : s.size = 0 := by have := congrArg List.length hl; simpa using this
    simp [nameL, this, queue_name.scan]
  | cons b t =>
    have h0 : 0 < s.size := by have := congrArg List.length hl; simp at this; omega
    have e : queue_name.bad true (b.toNat : Int) = !letter (b.toNat : Int) := by unfold queue_name.bad letter; rw [Bool.eq_iff_iff]; simp
    rw [queue_name.scan, scan_false, e, nameL]
    have e2 : decide (0 < (s.size : Int) ∧ (s.size : Int) ≤ 40) = decide (s.size ≤ 40) := by rw [decide_eq_decide]; omega
    rw [e2]
    cases letter (b.toNat : Int) <;> simp
theorem bt_get (s : ByteArray) (i : Nat) : bt s (i : Int) = ((s.data.toList.getD i 0).toNat : Int) := by
  unfold bt
  by_cases h : (i : Int).toNat < s.size
  · rw [dif_pos h]
    have hl : i < s.data.toList.length := by simpa using h
    rw [List.getD_eq_getElem?_getD, List.getElem?_eq_getElem hl]
    rfl
  · rw [dif_neg h]
    have hl : ¬ i < s.data.toList.length := by simpa using h
    rw [List.getD_eq_getElem?_getD, List.getElem?_eq_none (by omega)]
    rfl
theorem refName_l0 (s : ByteArray) (hs : s.size ≤ 40) : ∀ d i : Nat, s.size = i + d → Ev (fun k => fringeref42_Name.l0 k s i) ((s.data.toList.drop i).all (fun c => chOk (c.toNat : Int)))
  | 0, i, h => by
    refine Ev.step (fun k => by simp only [fringeref42_Name.l0]; rfl) ?_
    refine Ev.iteF (by omega) ?_
    rw [List.drop_eq_nil_of_le (by simpa using (by omega : s.size ≤ i))]
    exact Ev.now _
  | d + 1, i, h => by
    have ih := refName_l0 s hs d (i + 1) (by omega)
    refine Ev.step (fun k => by simp only [fringeref42_Name.l0]; rfl) ?_
    refine Ev.iteT (by omega) (Ev.iteT (by omega) ?_)
    have hl : i < s.data.toList.length := by simpa using (by omega : i < s.size)
    rw [drop_get _ 0 i hl, List.all_cons, bt_get, wr1 i (by omega)]
    generalize ((s.data.toList.getD i 0).toNat : Int) = c
    have hk : chOk c = true → Ev (fun k => fringeref42_Name.l0 k s ((i + 1 : Nat) : Int)) (chOk c && (s.data.toList.drop (i + 1)).all (fun c => chOk (c.toNat : Int))) := fun h => by rw [h, Bool.true_and]; exact ih
    have hf : chOk c = false → Ev (fun _ => some false) (chOk c && (s.data.toList.drop (i + 1)).all (fun c => chOk (c.toNat : Int))) := fun h => by rw [h, Bool.false_and]; exact Ev.now _
    refine Ev.ite (fun h1 => hk (by unfold chOk; rw [decide_eq_true_eq]; omega)) (fun h1 => Ev.ite (fun h2 => Ev.ite (fun h3 => hf (by unfold chOk; rw [decide_eq_false_iff_not]; omega)) (fun h3 => Ev.ite (fun h4 => hf (by unfold chOk; rw [decide_eq_false_iff_not]; omega)) (fun h4 => hk (by unfold chOk; rw [decide_eq_true_eq]; omega)))) (fun h2 => Ev.ite (fun h3 => Ev.ite (fun h4 => hf (by unfold chOk; rw [decide_eq_false_iff_not]; omega)) (fun h4 => Ev.ite (fun h5 => hf (by unfold chOk; rw [decide_eq_false_iff_not]; omega)) (fun h5 => hk (by unfold chOk; rw [decide_eq_true_eq]; omega)))) (fun h3 => hk (by unfold chOk; rw [decide_eq_true_eq]; omega))))
theorem refName_ev (s : ByteArray) : Ev (fun k => fringeref42_Name.f k s) (nameOk s) := by
  have hj : nameOk s = false → Ev (fun k => fringeref42_Name.j0 k s true) (nameOk s) := fun h => by
    rw [h]
    refine Ev.step (fun k => by simp only [fringeref42_Name.j0]; rfl) ?_
    exact Ev.iteT (by simp) (Ev.now _)
  simp only [fringeref42_Name.f]
  cases hl : s.data.toList with
  | nil =>
    have h0 : s.size = 0 := by have := congrArg List.length hl; simpa using this
    exact Ev.iteT (by omega) (hj (by unfold nameOk nameL; rw [hl]; rfl))
  | cons b t =>
    have h0 : 0 < s.size := by have := congrArg List.length hl; simp at this; omega
    have e0 : bt s 0 = (b.toNat : Int) := by have := bt_get s 0; rw [hl] at this; exact this
    rw [e0]
    have hn : nameOk s = (letter (b.toNat : Int) && t.all (fun c => chOk (c.toNat : Int)) && decide (s.size ≤ 40)) := by unfold nameOk; rw [hl]; rfl
    refine Ev.iteF (by omega) (Ev.ite (fun h1 => hj (by rw [hn, decide_eq_false (by omega), Bool.and_false])) (fun h1 => Ev.iteT (by omega) (Ev.ite (fun h2 => hj ?_) (fun h2 => ?_))))
    · rw [hn, show letter (b.toNat : Int) = false by unfold letter; rw [decide_eq_false_iff_not]; omega, Bool.false_and, Bool.false_and]
    · by_cases h3 : (b.toNat : Int) > 122
      · rw [decide_eq_true h3]
        exact hj (by rw [hn, show letter (b.toNat : Int) = false by unfold letter; rw [decide_eq_false_iff_not]; omega, Bool.false_and, Bool.false_and])
      · rw [decide_eq_false h3]
        refine Ev.step (fun k => by simp only [fringeref42_Name.j0]; rfl) ?_
        refine Ev.iteF (by simp) ?_
        have := refName_l0 s (by omega) s.size 0 (by omega)
        have hc : letter (b.toNat : Int) = true := by unfold letter; rw [decide_eq_true_eq]; omega
        have hc2 : chOk (b.toNat : Int) = true := by unfold chOk; rw [decide_eq_true_eq]; omega
        rw [List.drop_zero, hl, List.all_cons, hc2, Bool.true_and] at this
        rw [hn, hc, Bool.true_and, decide_eq_true (by omega), Bool.and_true]
        exact this
theorem refIn_eq (a b c : Int) : fringeref42_in.f a b c = some (decide (b ≤ a ∧ a ≤ c)) := by
  unfold fringeref42_in.f
  by_cases h : a ≥ b
  · rw [if_pos h]; congr 1; rw [decide_eq_decide]; omega
  · rw [if_neg h]; congr 1; symm; rw [decide_eq_false_iff_not]; omega
theorem in_eq (a b c : Int) : queue_in.f a b c = some (decide (b ≤ a ∧ a ≤ c)) := refIn_eq a b c
/-! ### checks -/
def projOk (num den : Int) (p : S42) : Bool := nameOk p.f0 && decide ((1 ≤ p.f1 ∧ p.f1 ≤ 100) ∧ (0 ≤ p.f2 ∧ p.f2 ≤ 1000000) ∧ (0 ≤ p.f3 ∧ p.f3 ≤ 1000) ∧ p.f2 * den ≤ num * p.f1 ∧ (0 < p.f3 → num * p.f1 ≤ (p.f2 + 1) * den))
def one (l : List S42) (i : Nat) : Bool := (List.range i).all fun k => decide ((l.getD k z42).f0 ≠ (l.getD i z42).f0)
def allOne (l : List S42) : Nat → Nat → Bool
  | _, 0 => true
  | i, d + 1 => one l i && allOne l (i + 1) d
def chkQ (l : List S42) (num den : Int) : Int := if l.length > 8 then 4 else if allOne l 0 l.length then (if l.length ≠ 0 ∧ (1 ≤ den ∧ den ≤ 100) ∧ (0 ≤ num ∧ num ≤ 1000000) then (if l.all (projOk num den) then 0 else 8) else 8) else 14
theorem first_hit (P : Nat → Prop) [DecidablePred P] : ∀ k, P k → ∃ n, n ≤ k ∧ P n ∧ ∀ j, j < n → ¬ P j
  | 0, h => ⟨0, Nat.le_refl _, h, fun j hj => absurd hj (Nat.not_lt_zero j)⟩
  | k + 1, h => by
    by_cases c : ∃ j, j < k + 1 ∧ P j
    · obtain ⟨j, hj, hp⟩ := c
      have : ∀ m, m ≤ k → P m → ∃ n, n ≤ k ∧ P n ∧ ∀ j, j < n → ¬ P j := fun m => by
        induction m using Nat.strongRecOn with
        | _ m ih =>
          intro hm hp
          by_cases c : ∃ j, j < m ∧ P j
          · obtain ⟨j, hj, hp⟩ := c
            exact ih j hj (by omega) hp
          · exact ⟨m, hm, hp, fun j hj hpj => c ⟨j, hj, hpj⟩⟩
      obtain ⟨n, hn, h1, h2⟩ := this j (by omega) hp
      exact ⟨n, by omega, h1, h2⟩
    · exact ⟨k + 1, Nat.le_refl _, h, fun j hj hpj => c ⟨j, hj, hpj⟩⟩
theorem idx_one (l : List S42) (i : Nat) (h : i < l.length) : (queue_index.idx (fun x => decide (x.f0 = (l.getD i z42).f0)) l 0 = i) ↔ one l i = true := by
  unfold one
  constructor
  · intro he
    refine List.all_eq_true.2 (fun k hk => decide_eq_true (fun hh => ?_))
    have hk := List.mem_range.1 hk
    -- the first hit
    obtain ⟨n, hn, hp, hf⟩ := first_hit (fun n => (l.getD n z42).f0 = (l.getD i z42).f0) k hh
    have := queue_index.idx_hit (fun x => decide (x.f0 = (l.getD i z42).f0)) l n z42 0 (by omega) (decide_eq_true hp) (fun j hj => decide_eq_false (hf j hj))
    omega
  · intro ha
    have := queue_index.idx_hit (fun x => decide (x.f0 = (l.getD i z42).f0)) l i z42 0 h (decide_eq_true rfl) (fun j hj => decide_eq_false (of_decide_eq_true (List.all_eq_true.1 ha j (List.mem_range.2 hj))))
    omega
def NB (l : List S42) : Prop := ∀ p ∈ l, p.f0.size < 9223372036854775807
theorem wrP {a b : Int} {A B : Nat} (ha : -(A : Int) ≤ a ∧ a ≤ A) (hb : -(B : Int) ≤ b ∧ b ≤ B) (h : A * B ≤ 1000000000000) : wrap64 (a * b) = a * b := by
  have := mul_bd ha hb
  exact wr (by omega) (by omega)
theorem impl_l1 (l : List S42) (hl : l.length ≤ 8) (hn : NB l) (num den : Int) (hd : 1 ≤ den ∧ den ≤ 100) (hm : 0 ≤ num ∧ num ≤ 1000000) : ∀ d i : Nat, l.length = i + d → Ev (fun k => queue_Check.l1 k l l.length i l num den) (if (l.drop i).all (projOk num den) then 0 else 8)
  | 0, i, h => by
    refine Ev.step (fun k => by simp only [queue_Check.l1]; rfl) ?_
    refine Ev.iteF (by omega) ?_
    rw [List.drop_eq_nil_of_le (by omega)]
    exact Ev.now _
  | d + 1, i, h => by
    have ih := impl_l1 l hl hn num den hd hm d (i + 1) (by omega)
    refine Ev.step (fun k => by simp only [queue_Check.l1]; rfl) ?_
    refine Ev.iteT (by omega) (Ev.iteT (by omega) (Ev.iteT (by omega) ?_))
    rw [drop_get l z42 i (by omega), List.all_cons]
    have e : rd_T42 l (i : Int) = l.getD i z42 := rfl
    have hs := hn _ (mem_getD l z42 i (by omega))
    rw [e]
    generalize l.getD i z42 = p at hs
    simp only [name_eq _ hs, in_eq, Option.bind_some]
    have hj : projOk num den p = false → Ev (fun k => queue_Check.j3 k l l.length i true l num den p.f0 p.f1 p.f2 p.f3) (if (projOk num den p && (l.drop (i + 1)).all (projOk num den)) = true then 0 else 8) := fun h => by
      rw [h, Bool.false_and]
      refine Ev.step (fun k => by simp only [queue_Check.j3]; rfl) ?_
      exact Ev.iteT (by simp) (Ev.now _)
    refine Ev.ite (fun c1 => Ev.ite (fun c2 => Ev.ite (fun c3 => ?_) (fun c3 => hj ?_)) (fun c2 => hj ?_)) (fun c1 => hj ?_)
    · rw [decide_eq_true_eq] at c2 c3
      by_cases c4 : 0 ≤ p.f3 ∧ p.f3 ≤ 1000
      · rw [decide_eq_true c4]
        refine Ev.step (fun k => by simp only [queue_Check.j3]; rfl) ?_
        have w1 : wrap64 (p.f2 * den) = p.f2 * den := wrP (A := 1000000) (B := 100) (by omega) (by omega) (by omega)
        have w2 : wrap64 (num * p.f1) = num * p.f1 := wrP (A := 1000000) (B := 100) (by omega) (by omega) (by omega)
        have w3 : wrap64 (wrap64 (p.f2 + 1) * den) = (p.f2 + 1) * den := by
          rw [wr (x := p.f2 + 1) (by omega) (by omega)]
          exact wrP (A := 1000001) (B := 100) (by omega) (by omega) (by omega)
        rw [w1, w2, w3, wr1 i (by omega)]
        have hf : ¬ (p.f2 * den ≤ num * p.f1 ∧ (0 < p.f3 → num * p.f1 ≤ (p.f2 + 1) * den)) → Ev (fun _ => some (8 : Int)) (if (projOk num den p && (l.drop (i + 1)).all (projOk num den)) = true then 0 else 8) := fun hh => by
          have : projOk num den p = false := by unfold projOk; rw [c1, Bool.true_and, decide_eq_false_iff_not]; exact fun h5 => hh h5.2.2.2
          rw [this, Bool.false_and]
          exact Ev.now _
        have ht : (p.f2 * den ≤ num * p.f1 ∧ (0 < p.f3 → num * p.f1 ≤ (p.f2 + 1) * den)) → projOk num den p = true := fun hh => by unfold projOk; rw [c1, Bool.true_and, decide_eq_true_eq]; exact ⟨c2, c3, c4, hh⟩
        refine Ev.iteF (by simp) (Ev.ite (fun c5 => hf (fun h => by omega)) (fun c5 => Ev.ite (fun c6 => Ev.ite (fun c7 => hf (fun h => by have := h.2 c6; omega)) (fun c7 => ?_)) (fun c6 => ?_)))
        · rw [ht ⟨by omega, fun _ => by omega⟩, Bool.true_and]; exact ih
        · rw [ht ⟨by omega, fun h => by omega⟩, Bool.true_and]; exact ih
      · rw [decide_eq_false c4]
        exact hj (by unfold projOk; rw [c1, Bool.true_and, decide_eq_false_iff_not]; exact fun h => c4 h.2.2.1)
    · rw [decide_eq_true_eq] at c3; unfold projOk; rw [c1, Bool.true_and, decide_eq_false_iff_not]; exact fun h => c3 h.2.1
    · rw [decide_eq_true_eq] at c2; unfold projOk; rw [c1, Bool.true_and, decide_eq_false_iff_not]; exact fun h => c2 h.1
    · unfold projOk; rw [Bool.eq_false_iff.mpr c1, Bool.false_and]
theorem impl_l0 (l : List S42) (hl : l.length ≤ 8) (hn : NB l) (num den : Int) : ∀ d i : Nat, l.length = i + d → Ev (fun k => queue_Check.l0 k l l.length i l num den) (if allOne l i d then (if l.length ≠ 0 ∧ (1 ≤ den ∧ den ≤ 100) ∧ (0 ≤ num ∧ num ≤ 1000000) then (if l.all (projOk num den) then 0 else 8) else 8) else 14)
  | 0, i, h => by
    refine Ev.step (fun k => by simp only [queue_Check.l0]; rfl) ?_
    rw [show allOne l i 0 = true from rfl, if_pos rfl]
    have hj : ¬ (l.length ≠ 0 ∧ (1 ≤ den ∧ den ≤ 100) ∧ (0 ≤ num ∧ num ≤ 1000000)) → Ev (fun k => queue_Check.j1 k true l num den) (if l.length ≠ 0 ∧ (1 ≤ den ∧ den ≤ 100) ∧ (0 ≤ num ∧ num ≤ 1000000) then (if l.all (projOk num den) then (0 : Int) else 8) else 8) := fun h => by
      rw [if_neg h]
      refine Ev.step (fun k => by simp only [queue_Check.j1]; rfl) ?_
      exact Ev.iteT (by simp) (Ev.now _)
    simp only [in_eq, Option.bind_some]
    refine Ev.iteF (by omega) (Ev.ite (fun c => hj (fun h => by omega)) (fun c => Ev.ite (fun c2 => ?_) (fun c2 => hj (fun h => c2 (by rw [decide_eq_true_eq]; exact h.2.1)))))
    rw [decide_eq_true_eq] at c2
    by_cases c3 : 0 ≤ num ∧ num ≤ 1000000
    · rw [decide_eq_true c3, if_pos ⟨by omega, c2, c3⟩]
      refine Ev.step (fun k => by simp only [queue_Check.j1]; rfl) ?_
      refine Ev.iteF (by simp) ?_
      have := impl_l1 l hl hn num den c2 c3 l.length 0 (by omega)
      rw [List.drop_zero] at this
      exact this
    · rw [decide_eq_false c3]
      exact hj (fun h => c3 h.2.2)
  | d + 1, i, h => by
    have ih := impl_l0 l hl hn num den d (i + 1) (by omega)
    refine Ev.step (fun k => by simp only [queue_Check.l0]; rfl) ?_
    have e : rd_T42 l (i : Int) = l.getD i z42 := rfl
    rw [e]
    refine Ev.iteT (by omega) (Ev.iteT (by omega) (Ev.iteT (by omega) ?_))
    simp only [queue_index.f]
    rw [if_pos (by omega)]
    simp only [Option.bind_some]
    rw [show allOne l i (d + 1) = (one l i && allOne l (i + 1) d) from rfl]
    refine Ev.ite (fun c => ?_) (fun c => ?_)
    · rw [(idx_one l i (by omega)).1 c, Bool.true_and, wr1 i (by omega)]
      exact ih
    · rw [Bool.eq_false_iff.mpr (fun hh => c ((idx_one l i (by omega)).2 hh)), Bool.false_and]
      exact Ev.now _
theorem impl_Check (l : List S42) (num den : Int) (hn : NB l) : Ev (fun k => queue_Check.f k l num den) (chkQ l num den) := by
  unfold chkQ
  simp only [queue_Check.f]
  by_cases h : l.length > 8
  · rw [if_pos h]; exact Ev.iteT (by omega) (Ev.now _)
  · rw [if_neg h]; exact Ev.iteF (by omega) (impl_l0 l (by omega) hn num den l.length 0 (by omega))
/-! ### the reference -/
theorem refC_l2 (l : List S42) (hl : l.length ≤ 8) (num den : Int) (hd : 1 ≤ den ∧ den ≤ 100) (hm : 0 ≤ num ∧ num ≤ 1000000) : ∀ d i : Nat, l.length = i + d → Ev (fun k => fringeref42_Check.l2 k i l num den) (if (l.drop i).all (projOk num den) then 0 else 8)
  | 0, i, h => by
    refine Ev.step (fun k => by simp only [fringeref42_Check.l2]; rfl) ?_
    refine Ev.iteF (by omega) ?_
    rw [List.drop_eq_nil_of_le (by omega)]
    exact Ev.now _
  | d + 1, i, h => by
    have ih := refC_l2 l hl num den hd hm d (i + 1) (by omega)
    refine Ev.step (fun k => by simp only [fringeref42_Check.l2]; rfl) ?_
    refine Ev.iteT (by omega) (Ev.iteT (by omega) ?_)
    rw [drop_get l z42 i (by omega), List.all_cons]
    have e : rd_T42 l (i : Int) = l.getD i z42 := rfl
    rw [e]
    generalize l.getD i z42 = p
    simp only [refIn_eq, Option.bind_some]
    refine Ev.bind (refName_ev p.f0) ?_
    have hj : projOk num den p = false → Ev (fun k => fringeref42_Check.j4 k i true l num den p.f0 p.f1 p.f2 p.f3) (if (projOk num den p && (l.drop (i + 1)).all (projOk num den)) = true then 0 else 8) := fun h => by
      rw [h, Bool.false_and]
      refine Ev.step (fun k => by simp only [fringeref42_Check.j4]; rfl) ?_
      exact Ev.iteT (by simp) (Ev.now _)
    refine Ev.ite (fun c1 => Ev.ite (fun c2 => Ev.ite (fun c3 => ?_) (fun c3 => hj ?_)) (fun c2 => hj ?_)) (fun c1 => hj ?_)
    · rw [decide_eq_true_eq] at c2 c3
      by_cases c4 : 0 ≤ p.f3 ∧ p.f3 ≤ 1000
      · rw [decide_eq_true c4]
        refine Ev.step (fun k => by simp only [fringeref42_Check.j4]; rfl) ?_
        have w1 : wrap64 (p.f2 * den) = p.f2 * den := wrP (A := 1000000) (B := 100) (by omega) (by omega) (by omega)
        have w2 : wrap64 (num * p.f1) = num * p.f1 := wrP (A := 1000000) (B := 100) (by omega) (by omega) (by omega)
        have w3 : wrap64 (wrap64 (p.f2 + 1) * den) = (p.f2 + 1) * den := by
          rw [wr (x := p.f2 + 1) (by omega) (by omega)]
          exact wrP (A := 1000001) (B := 100) (by omega) (by omega) (by omega)
        rw [w1, w2, w3, wr1 i (by omega)]
        have hf : ¬ (p.f2 * den ≤ num * p.f1 ∧ (0 < p.f3 → num * p.f1 ≤ (p.f2 + 1) * den)) → Ev (fun _ => some (8 : Int)) (if (projOk num den p && (l.drop (i + 1)).all (projOk num den)) = true then 0 else 8) := fun hh => by
          have : projOk num den p = false := by unfold projOk; rw [c1, Bool.true_and, decide_eq_false_iff_not]; exact fun h5 => hh h5.2.2.2
          rw [this, Bool.false_and]
          exact Ev.now _
        have ht : (p.f2 * den ≤ num * p.f1 ∧ (0 < p.f3 → num * p.f1 ≤ (p.f2 + 1) * den)) → projOk num den p = true := fun hh => by unfold projOk; rw [c1, Bool.true_and, decide_eq_true_eq]; exact ⟨c2, c3, c4, hh⟩
        refine Ev.iteF (by simp) (Ev.ite (fun c5 => hf (fun h => by omega)) (fun c5 => Ev.ite (fun c6 => Ev.ite (fun c7 => hf (fun h => by have := h.2 c6; omega)) (fun c7 => ?_)) (fun c6 => ?_)))
        · rw [ht ⟨by omega, fun _ => by omega⟩, Bool.true_and]; exact ih
        · rw [ht ⟨by omega, fun h => by omega⟩, Bool.true_and]; exact ih
      · rw [decide_eq_false c4]
        exact hj (by unfold projOk; rw [c1, Bool.true_and, decide_eq_false_iff_not]; exact fun h => c4 h.2.2.1)
    · rw [decide_eq_true_eq] at c3; unfold projOk; rw [c1, Bool.true_and, decide_eq_false_iff_not]; exact fun h => c3 h.2.1
    · rw [decide_eq_true_eq] at c2; unfold projOk; rw [c1, Bool.true_and, decide_eq_false_iff_not]; exact fun h => c2 h.1
    · unfold projOk; rw [Bool.eq_false_iff.mpr c1, Bool.false_and]
theorem one_split (l : List S42) (i j e : Nat) : ((List.range' j (e + 1)).all fun k => decide ((l.getD k z42).f0 ≠ (l.getD i z42).f0)) = (decide ((l.getD j z42).f0 ≠ (l.getD i z42).f0) && ((List.range' (j + 1) e).all fun k => decide ((l.getD k z42).f0 ≠ (l.getD i z42).f0))) := by
  rw [List.range'_succ, List.all_cons]
theorem refC_l1 (l : List S42) (hl : l.length ≤ 8) (num den : Int) (i : Nat) (hi : i < l.length) (r : Int) (hk : Ev (fun k => fringeref42_Check.l0 k ((i + 1 : Nat) : Int) l num den) r) : ∀ e j : Nat, i = j + e → Ev (fun k => fringeref42_Check.l1 k i j l num den) (if ((List.range' j e).all fun k => decide ((l.getD k z42).f0 ≠ (l.getD i z42).f0)) = true then r else 14)
  | 0, j, h => by
    refine Ev.step (fun k => by simp only [fringeref42_Check.l1]; rfl) ?_
    refine Ev.iteF (by omega) ?_
    rw [wr1 i (by omega)]
    exact hk
  | e + 1, j, h => by
    have ih := refC_l1 l hl num den i hi r hk e (j + 1) (by omega)
    refine Ev.step (fun k => by simp only [fringeref42_Check.l1]; rfl) ?_
    have e1 : rd_T42 l (i : Int) = l.getD i z42 := rfl
    have e2 : rd_T42 l (j : Int) = l.getD j z42 := rfl
    rw [e1, e2]
    refine Ev.iteT (by omega) (Ev.iteT (by omega) (Ev.iteT (by omega) (Ev.iteT (by omega) (Ev.iteT (by omega) ?_))))
    rw [one_split l i j e, wr1 j (by omega)]
    have hs : ((l.getD j z42).f0.toList = (l.getD i z42).f0.toList) ↔ ((l.getD j z42).f0 = (l.getD i z42).f0) := by
      have := queue_index.str (l.getD j z42).f0 (l.getD i z42).f0
      rw [Bool.eq_iff_iff, beq_iff_eq, decide_eq_true_eq] at this
      exact this
    refine Ev.ite (fun c => ?_) (fun c => ?_)
    · rw [show decide ((l.getD j z42).f0 ≠ (l.getD i z42).f0) = false from decide_eq_false (fun hh => hh (hs.1 c)), Bool.false_and]
      exact Ev.now _
    · rw [show decide ((l.getD j z42).f0 ≠ (l.getD i z42).f0) = true from decide_eq_true (fun hh => c (hs.2 hh)), Bool.true_and]
      exact ih
theorem refC_l0 (l : List S42) (hl : l.length ≤ 8) (num den : Int) : ∀ d i : Nat, l.length = i + d → Ev (fun k => fringeref42_Check.l0 k i l num den) (if allOne l i d then (if l.length ≠ 0 ∧ (1 ≤ den ∧ den ≤ 100) ∧ (0 ≤ num ∧ num ≤ 1000000) then (if l.all (projOk num den) then 0 else 8) else 8) else 14)
  | 0, i, h => by
    refine Ev.step (fun k => by simp only [fringeref42_Check.l0]; rfl) ?_
    rw [show allOne l i 0 = true from rfl, if_pos rfl]
    have hj : ¬ (l.length ≠ 0 ∧ (1 ≤ den ∧ den ≤ 100) ∧ (0 ≤ num ∧ num ≤ 1000000)) → Ev (fun k => fringeref42_Check.j2 k true l num den) (if l.length ≠ 0 ∧ (1 ≤ den ∧ den ≤ 100) ∧ (0 ≤ num ∧ num ≤ 1000000) then (if l.all (projOk num den) then (0 : Int) else 8) else 8) := fun h => by
      rw [if_neg h]
      refine Ev.step (fun k => by simp only [fringeref42_Check.j2]; rfl) ?_
      exact Ev.iteT (by simp) (Ev.now _)
    simp only [refIn_eq, Option.bind_some]
    refine Ev.iteF (by omega) (Ev.ite (fun c => hj (fun h => by omega)) (fun c => Ev.ite (fun c2 => ?_) (fun c2 => hj (fun h => c2 (by rw [decide_eq_true_eq]; exact h.2.1)))))
    rw [decide_eq_true_eq] at c2
    by_cases c3 : 0 ≤ num ∧ num ≤ 1000000
    · rw [decide_eq_true c3, if_pos ⟨by omega, c2, c3⟩]
      refine Ev.step (fun k => by simp only [fringeref42_Check.j2]; rfl) ?_
      refine Ev.iteF (by simp) ?_
      have := refC_l2 l hl num den c2 c3 l.length 0 (by omega)
      rw [List.drop_zero] at this
      exact this
    · rw [decide_eq_false c3]
      exact hj (fun h => c3 h.2.2)
  | d + 1, i, h => by
    have ih := refC_l0 l hl num den d (i + 1) (by omega)
    refine Ev.step (fun k => by simp only [fringeref42_Check.l0]; rfl) ?_
    refine Ev.iteT (by omega) ?_
    have := refC_l1 l hl num den i (by omega) _ ih i 0 (by omega)
    rw [show allOne l i (d + 1) = (one l i && allOne l (i + 1) d) from rfl]
    rw [← List.range_eq_range'] at this
    have e : ((List.range i).all fun k => decide ((l.getD k z42).f0 ≠ (l.getD i z42).f0)) = one l i := rfl
    rw [e] at this
    cases ho : one l i with
    | true => rw [ho, if_pos rfl] at this; rw [Bool.true_and]; exact this
    | false => rw [ho, if_neg (by simp)] at this; rw [Bool.false_and, if_neg (by simp)]; exact this
theorem ref_Check (l : List S42) (num den : Int) : Ev (fun k => fringeref42_Check.f k l num den) (chkQ l num den) := by
  unfold chkQ
  simp only [fringeref42_Check.f]
  by_cases h : l.length > 8
  · rw [if_pos h]; exact Ev.iteT (by omega) (Ev.now _)
  · rw [if_neg h]; exact Ev.iteF (by omega) (refC_l0 l (by omega) num den l.length 0 (by omega))
/-! ### great queues -/
theorem great_l0 (l : List S42) (num den : Int) (hl : l.length ≤ 9223372036854775806) : ∀ d i : Nat, l.length = i + d → Ev (fun k => fringeref42_Great.l0 k i l num den) ((l.drop i).any (fun p => decide (p.f0.size > 100)) || decide (l.length > 20))
  | 0, i, h => by
    refine Ev.step (fun k => by simp only [fringeref42_Great.l0]; rfl) ?_
    refine Ev.iteF (by omega) ?_
    rw [List.drop_eq_nil_of_le (by omega)]
    exact Ev.some_of (by simp; omega)
  | d + 1, i, h => by
    refine Ev.step (fun k => by simp only [fringeref42_Great.l0]; rfl) ?_
    refine Ev.iteT (by omega) (Ev.iteT (by omega) ?_)
    have e : rd_T42 l (i : Int) = l.getD i z42 := rfl
    rw [drop_get l z42 i (by omega), List.any_cons, e, wr1 i (by omega)]
    refine Ev.ite (fun c => ?_) (fun c => ?_)
    · rw [decide_eq_true (by omega), Bool.true_or, Bool.true_or]; exact Ev.now _
    · rw [decide_eq_false (by omega), Bool.false_or]
      exact great_l0 l num den hl d (i + 1) (by omega)
def greatQ (l : List S42) : Bool := l.any (fun p => decide (p.f0.size > 100)) || decide (l.length > 20)
theorem Great_ev (l : List S42) (num den : Int) (hl : l.length ≤ 9223372036854775806) : Ev (fun k => fringeref42_Great.f k l num den) (greatQ l) := by
  simp only [fringeref42_Great.f]
  have := great_l0 l num den hl l.length 0 (by omega)
  rw [List.drop_zero] at this
  exact this
theorem great_NB {l : List S42} (h : greatQ l = false) : NB l ∧ l.length ≤ 20 := by
  unfold greatQ at h
  rw [Bool.or_eq_false_iff] at h
  refine ⟨fun p hp => ?_, by have := of_decide_eq_false h.2; omega⟩
  have := List.any_eq_false.1 h.1 p hp
  simp at this
  omega
end Go.Proofs.Ytelmcaenemjppaa.Pure
