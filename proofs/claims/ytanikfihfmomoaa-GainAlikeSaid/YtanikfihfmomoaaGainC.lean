/- Visibilities on the plain side: what Act answers. -/
import Derived.Test.YtanikfihfmomoaaGainA
import Derived.Test.YtanikfihfmomoaaQ6
import Derived.Test.YtanikfihfmomoaaQ10
namespace Go.Proofs.Ytanikfihfmomoaa.Pure
open Go.RowKit Go.Proofs.YtanikfihfmomoaaW.PrintWords Go.Proofs.YtanikfihfmomoaaW.PrintLast Go.Proofs.YtanikfihfmomoaaW.PrintMore Go.Proofs.Ytanikfihfmomoaa.Open Go.Proofs.Ytanikfihfmomoaa.Q Go.Proofs.Ytanikfihfmomoaa.Aid
def visOk (n : Int) (v : S38) : Bool := decide (0 ≤ v.f0 ∧ v.f0 < v.f1 ∧ v.f1 < n ∧ 0 ≤ v.f3) && cxOk v.f2.f0 v.f2.f1 v.f2.f2
theorem visOk_iff {n : Int} {v : S38} : visOk n v = true ↔ ((0 ≤ v.f0 ∧ v.f0 < v.f1 ∧ v.f1 < n ∧ 0 ≤ v.f3) ∧ cxOk v.f2.f0 v.f2.f1 v.f2.f2 = true) := by simp only [visOk, Bool.and_eq_true, decide_eq_true_eq]
theorem visOk_no {n : Int} {v : S38} (h : ¬ (0 ≤ v.f0 ∧ v.f0 < v.f1 ∧ v.f1 < n ∧ 0 ≤ v.f3)) : visOk n v = false := by
  rw [Bool.eq_false_iff]
  exact fun c => h (visOk_iff.1 c).1
theorem visOk_no' {n : Int} {v : S38} (h : ¬ cxOk v.f2.f0 v.f2.f1 v.f2.f2 = true) : visOk n v = false := by
  rw [Bool.eq_false_iff]
  exact fun c => h (visOk_iff.1 c).2
def oneS (l : List S36) (v : S38) : S38 × Int :=
  if (mulS (rd_T36 l v.f0).f0 (rd_T36 l v.f0).f1 (rd_T36 l v.f0).f2 v.f2.f0 v.f2.f1 v.f2.f2).2.2.2 = 0 then
    (⟨v.f0, v.f1, ⟨(mulS (mulS (rd_T36 l v.f0).f0 (rd_T36 l v.f0).f1 (rd_T36 l v.f0).f2 v.f2.f0 v.f2.f1 v.f2.f2).1 (mulS (rd_T36 l v.f0).f0 (rd_T36 l v.f0).f1 (rd_T36 l v.f0).f2 v.f2.f0 v.f2.f1 v.f2.f2).2.1 (mulS (rd_T36 l v.f0).f0 (rd_T36 l v.f0).f1 (rd_T36 l v.f0).f2 v.f2.f0 v.f2.f1 v.f2.f2).2.2.1 (rd_T36 l v.f1).f0 (wrap64 (-(rd_T36 l v.f1).f1)) (rd_T36 l v.f1).f2).1, (mulS (mulS (rd_T36 l v.f0).f0 (rd_T36 l v.f0).f1 (rd_T36 l v.f0).f2 v.f2.f0 v.f2.f1 v.f2.f2).1 (mulS (rd_T36 l v.f0).f0 (rd_T36 l v.f0).f1 (rd_T36 l v.f0).f2 v.f2.f0 v.f2.f1 v.f2.f2).2.1 (mulS (rd_T36 l v.f0).f0 (rd_T36 l v.f0).f1 (rd_T36 l v.f0).f2 v.f2.f0 v.f2.f1 v.f2.f2).2.2.1 (rd_T36 l v.f1).f0 (wrap64 (-(rd_T36 l v.f1).f1)) (rd_T36 l v.f1).f2).2.1, (mulS (mulS (rd_T36 l v.f0).f0 (rd_T36 l v.f0).f1 (rd_T36 l v.f0).f2 v.f2.f0 v.f2.f1 v.f2.f2).1 (mulS (rd_T36 l v.f0).f0 (rd_T36 l v.f0).f1 (rd_T36 l v.f0).f2 v.f2.f0 v.f2.f1 v.f2.f2).2.1 (mulS (rd_T36 l v.f0).f0 (rd_T36 l v.f0).f1 (rd_T36 l v.f0).f2 v.f2.f0 v.f2.f1 v.f2.f2).2.2.1 (rd_T36 l v.f1).f0 (wrap64 (-(rd_T36 l v.f1).f1)) (rd_T36 l v.f1).f2).2.2.1⟩, v.f3⟩, (mulS (mulS (rd_T36 l v.f0).f0 (rd_T36 l v.f0).f1 (rd_T36 l v.f0).f2 v.f2.f0 v.f2.f1 v.f2.f2).1 (mulS (rd_T36 l v.f0).f0 (rd_T36 l v.f0).f1 (rd_T36 l v.f0).f2 v.f2.f0 v.f2.f1 v.f2.f2).2.1 (mulS (rd_T36 l v.f0).f0 (rd_T36 l v.f0).f1 (rd_T36 l v.f0).f2 v.f2.f0 v.f2.f1 v.f2.f2).2.2.1 (rd_T36 l v.f1).f0 (wrap64 (-(rd_T36 l v.f1).f1)) (rd_T36 l v.f1).f2).2.2.2)
  else (v, (mulS (rd_T36 l v.f0).f0 (rd_T36 l v.f0).f1 (rd_T36 l v.f0).f2 v.f2.f0 v.f2.f1 v.f2.f2).2.2.2)
def goS (l : List S36) : List S38 → List S38 → List S38 × Int
  | [], acc => (acc, 0)
  | x :: t, acc => if (oneS l x).2 = 0 then goS l t (acc ++ [(oneS l x).1]) else ([], 16)
def actS (l : List S36) (vs : List S38) : List S38 × Int := if gChk l = 0 then (if vs.length > 64 then ([], 4) else if vs.all (visOk l.length) then goS l vs [] else ([], 8)) else ([], gChk l)
theorem goS_len (l : List S36) : ∀ (t acc : List S38), (goS l t acc).1.length ≤ t.length + acc.length
  | [], acc => by simp [goS]
  | x :: t, acc => by
    unfold goS
    split
    · have := goS_len l t (acc ++ [(oneS l x).1])
      rw [List.length_append, List.length_singleton] at this
      rw [List.length_cons]
      omega
    · simp
theorem actS_len (l : List S36) (vs : List S38) : (actS l vs).1.length ≤ 64 := by
  unfold actS
  split
  · split
    · simp
    · split
      · have := goS_len l vs []
        rw [List.length_nil] at this
        omega
      · simp
  · simp
theorem wrong_ev (n : Int) (v : S38) : Ev (fun k => act_wrong k n v) (!visOk n v) := by
  simp only [act_wrong]
  refine Ev.ite (fun h => ?_) (fun h1 => Ev.ite (fun h => ?_) (fun h2 => Ev.ite (fun h => ?_) (fun h3 => Ev.ite (fun h => ?_) (fun h4 => Ev.bind (cxCheck_ev _ _ _) (Ev.some_of ?_)))))
  · rw [visOk_no (by omega)]; exact Ev.now _
  · rw [visOk_no (by omega)]; exact Ev.now _
  · rw [visOk_no (by omega)]; exact Ev.now _
  · rw [visOk_no (by omega)]; exact Ev.now _
  · by_cases c : cxOk v.f2.f0 v.f2.f1 v.f2.f2 = true
    · rw [if_pos c, visOk_iff.2 ⟨by omega, c⟩]; rfl
    · rw [if_neg c, visOk_no' c]; rfl
theorem seen_ev (n : Int) (v : S38) : Ev (fun k => fringeref26_Seen.f k v.f0 v.f1 v.f2.f0 v.f2.f1 v.f2.f2 v.f3 n) (visOk n v) := by
  simp only [fringeref26_Seen.f]
  refine Ev.ite (fun h1 => Ev.ite (fun h2 => Ev.ite (fun h3 => Ev.bind (rCheck_ev _ _ _) ?_) (fun h => ?_)) (fun h => ?_)) (fun h => ?_)
  · by_cases c : cxOk v.f2.f0 v.f2.f1 v.f2.f2 = true
    · rw [if_pos c]
      refine Ev.iteT rfl (Ev.some_of ?_)
      by_cases h4 : v.f3 ≥ 0
      · rw [visOk_iff.2 ⟨by omega, c⟩, decide_eq_true h4]
      · rw [visOk_no (by omega), decide_eq_false h4]
    · rw [if_neg c, visOk_no' c]; exact Ev.iteF (by omega) (Ev.now _)
  · rw [visOk_no (by omega)]; exact Ev.now _
  · rw [visOk_no (by omega)]; exact Ev.now _
  · rw [visOk_no (by omega)]; exact Ev.now _
theorem anyv_ev {p : Nat → S38 → Option Bool} {q : S38 → Bool} (h : ∀ x, Ev (fun k => p k x) (q x)) : ∀ (l : List S38) (i : Int), 0 ≤ i → ∀ r : Bool, r = l.any q → Ev (fun k => (fnVis.idx (p k) l i).bind fun r => some (decide (r ≥ 0))) r
  | [], i, hi, r, hr => by
    subst hr
    simp only [fnVis.idx]
    exact Ev.now _
  | x :: t, i, hi, r, hr => by
    simp only [fnVis.idx, Option.bind_assoc]
    refine Ev.bind (h x) ?_
    rw [List.any_cons] at hr
    by_cases c : q x = true
    · rw [c, Bool.true_or] at hr
      rw [c, hr]
      refine Ev.some_of ?_
      simp [hi]
    · have c' : q x = false := by simpa using c
      rw [c', Bool.false_or] at hr
      rw [c']
      exact anyv_ev h t (i + 1) (by omega) r hr
theorem one_ev (l : List S36) (v : S38) (h : visOk l.length v = true) : Ev (fun k => act_one k l v) (oneS l v) := by
  obtain ⟨h1, h2⟩ := visOk_iff.1 h
  simp only [act_one]
  refine Ev.iteT (by omega) (Ev.bind (cxMul_ev _ _ _ _ _ _) ?_)
  unfold oneS
  generalize mulS (rd_T36 l v.f0).f0 (rd_T36 l v.f0).f1 (rd_T36 l v.f0).f2 v.f2.f0 v.f2.f1 v.f2.f2 = r
  by_cases c : r.2.2.2 = 0
  · rw [if_pos c]
    exact Ev.iteT c (Ev.bind (times_ev _ _ _ _ _ _) (Ev.now _))
  · rw [if_neg c]
    exact Ev.iteF c (Ev.now _)
theorem go_ev (l : List S36) : ∀ (t acc : List S38) (i : Nat), acc.length + t.length ≤ 1000 → (∀ v ∈ t, visOk l.length v = true) → Ev (fun k => madeVis.go (fun _ v => act_one k l v) t i acc) (goS l t acc)
  | [], acc, i, h, hv => by
    simp only [madeVis.go]
    exact Ev.now _
  | x :: t, acc, i, h, hv => by
    simp only [madeVis.go]
    rw [List.length_cons] at h
    refine Ev.bind (one_ev l x (hv x (by simp))) ?_
    rw [goS]
    by_cases c : (oneS l x).2 = 0
    · rw [if_pos c]
      refine Ev.iteT c (Ev.iteT (by omega) (go_ev l t _ (i + 1) ?_ (fun v h' => hv v (by simp [h']))))
      rw [List.length_append, List.length_singleton]
      omega
    · rw [if_neg c]
      exact Ev.iteF c (Ev.now _)
theorem gain_Act_ev (l : List S36) (vs : List S38) : Ev (fun k => gain_Act.f k l vs) (actS l vs) := by
  simp only [gain_Act.f]
  refine Ev.bind (gain_Check_ev l) ?_
  unfold actS
  by_cases h : gChk l = 0
  · rw [if_pos h]
    refine Ev.iteT h (Ev.ite (fun h1 => ?_) (fun h1 => ?_))
    · rw [if_pos h1]; exact Ev.now _
    · rw [if_neg h1]
      have h2 := anyv_ev (p := fun k v => act_wrong k l.length v) (fun x => wrong_ev l.length x) vs 0 (by omega) _ rfl
      simp only [fnVis.any, if_pos (show vs.length < 9223372036854775807 by omega)]
      refine Ev.bind h2 ?_
      have e : vs.any (fun x => !visOk l.length x) = !(vs.all (visOk l.length)) := by rw [List.not_all_eq_any_not]
      rw [e]
      by_cases c : vs.all (visOk l.length) = true
      · rw [if_pos c, c]
        exact Ev.iteF (by simp) (go_ev l vs [] 0 (by simp; omega) (List.all_eq_true.1 c))
      · have c' : vs.all (visOk l.length) = false := by simpa using c
        rw [if_neg c, c']
        exact Ev.iteT (by simp) (Ev.now _)
  · rw [if_neg h]; exact Ev.iteF h (Ev.now _)
theorem all_l0 (n : Int) (vs : List S38) (hl : vs.length ≤ 1000) : ∀ d i : Nat, vs.length = i + d → Ev (fun k => fringeref26_All.l0 k vs n i) (if (vs.drop i).all (visOk n) then 0 else 8)
  | 0, i, h => by
    refine Ev.step (fun k => by simp only [fringeref26_All.l0]; rfl) ?_
    rw [List.drop_eq_nil_of_le (by omega)]
    exact Ev.iteF (by omega) (Ev.now _)
  | d + 1, i, h => by
    refine Ev.step (fun k => by simp only [fringeref26_All.l0]; rfl) ?_
    refine Ev.iteT (by omega) (Ev.iteT (by omega) ?_)
    have e : rd_T38 vs (i : Int) = vs.getD i z38 := rfl
    rw [drop_get vs z38 i (by omega), List.all_cons, e, wr1 i (by omega)]
    have ih := all_l0 n vs hl d (i + 1) (by omega)
    generalize vs.getD i z38 = v
    refine Ev.bind (seen_ev n v) ?_
    by_cases c : visOk n v = true
    · rw [c, Bool.true_and]; exact Ev.iteT rfl ih
    · have c' : visOk n v = false := by simpa using c
      rw [c', Bool.false_and]; exact Ev.iteF (by simp) (Ev.some_of (by simp))
theorem all_ev (n : Int) (vs : List S38) : Ev (fun k => fringeref26_All.f k vs n) (if vs.length > 64 then 4 else if vs.all (visOk n) then 0 else 8) := by
  simp only [fringeref26_All.f]
  refine Ev.ite (fun h => ?_) (fun h => ?_)
  · rw [if_pos (by omega)]; exact Ev.now _
  · rw [if_neg (by omega)]
    have := all_l0 n vs (by omega) vs.length 0 (by omega)
    rw [List.drop_zero] at this
    exact this
end Go.Proofs.Ytanikfihfmomoaa.Pure
