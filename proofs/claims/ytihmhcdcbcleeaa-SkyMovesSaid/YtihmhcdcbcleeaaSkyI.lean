/- What merging comes to, in the program and in the reference. -/
import Derived.Test.YtihmhcdcbcleeaaQ6
import Derived.Test.YtihmhcdcbcleeaaQ7
import Derived.Test.YtihmhcdcbcleeaaSkyH
namespace Go.Proofs.Ytihmhcdcbcleeaa.Pure
open Go.RowKit Go.Proofs.YtihmhcdcbcleeaaW.PrintWords Go.Proofs.YtihmhcdcbcleeaaW.PrintLast Go.Proofs.YtihmhcdcbcleeaaW.PrintMore Go.Proofs.Ytihmhcdcbcleeaa.Open Go.Proofs.Ytihmhcdcbcleeaa.Q Go.Proofs.Ytihmhcdcbcleeaa.Aid
theorem puts_get : ∀ (l : List S33) (B : Int) (m : List Int), m.length = 64 → (∀ s ∈ l, lampOk s = true) → (∀ n, 0 ≤ m.getD n 0 ∧ m.getD n 0 ≤ B) → B + 1000 * l.length ≤ 1000000 → ∀ n, n < 64 → (l.foldl sky_Merge.put m).getD n 0 = m.getD n 0 + fl l n
  | [], _, m, _, _, _, _, n, _ => by rw [List.foldl_nil, fl_nil, Int.add_zero]
  | s :: l, B, m, hm, hg, hb, hB, n, hn => by
    have hk := lampOk_iff'.1 (hg s (by simp))
    have hat : at_ s < 64 := by unfold at_; omega
    have e : sky_Merge.at_ s = at_ s := rfl
    rw [List.length_cons] at hB
    have h0 := hb (at_ s)
    have hget : ∀ j, (sky_Merge.put m s).getD j 0 = if at_ s = j then m.getD (at_ s) 0 + s.f2 else m.getD j 0 := fun j => by
      unfold sky_Merge.put
      rw [e, wr (by omega) (by omega), List.getD_eq_getElem?_getD, List.getElem?_set]
      by_cases c : at_ s = j
      · rw [if_pos c, if_pos c, if_pos (by omega)]; rfl
      · rw [if_neg c, if_neg c, ← List.getD_eq_getElem?_getD]
    rw [List.foldl_cons, puts_get l (B + 1000) _ (by rw [sky_Merge.put_len]; exact hm) (fun t ht => hg t (by simp [ht])) (fun j => by rw [hget]; have := hb j; split <;> omega) (by omega) n hn, hget, fl_cons]
    split
    · rename_i c; rw [c]; omega
    · omega
theorem scan_eq (m : List Int) (v : Nat → Int) : ∀ (ns : List Nat) (out : List S33), (∀ n ∈ ns, m.getD n 0 = v n) → sky_Merge.scan m ns out = if ns.all (fun n => decide (v n ≤ 1000)) then (out ++ mg v ns, 0) else ([], 16)
  | [], out, _ => by simp [sky_Merge.scan, mg]
  | n :: ns, out, h => by
    have h0 := h n (by simp)
    rw [sky_Merge.scan, h0, List.all_cons]
    by_cases c : v n > 1000
    · rw [if_pos c, decide_eq_false (by omega), Bool.false_and, if_neg (by simp)]
    · rw [if_neg c, decide_eq_true (by omega), Bool.true_and]
      have ih := fun o => scan_eq m v ns o (fun k hk => h k (by simp [hk]))
      rw [mg_cons]
      by_cases c2 : v n > 0
      · rw [if_pos c2, if_pos c2, ih, List.append_assoc]
      · rw [if_neg c2, if_neg c2, ih, List.nil_append]
theorem zeros_get (k n : Nat) : (List.replicate k (0 : Int)).getD n 0 = 0 := by
  rw [List.getD_eq_getElem?_getD, List.getElem?_replicate]
  split <;> rfl
theorem sky_Merge_ev (l : List S33) : Ev (fun k => sky_Merge.f k l) (MergeS l) := by
  unfold MergeS
  simp only [sky_Merge.f]
  refine Ev.bind (sky_Check_ev l) ?_
  by_cases h : chk l = 0
  · obtain ⟨h1, h2⟩ := chk_ok h
    rw [if_pos h, if_pos h]
    refine Ev.iteT ⟨by omega, List.all_eq_true.2 (fun s hs => ?_)⟩ (Ev.some_of ?_)
    · have := lampOk_iff'.1 (h2 s hs)
      exact decide_eq_true (by omega)
    · have hg := puts_get l 0 (List.replicate 64 0) (by simp) h2 (fun n => by rw [zeros_get]; omega) (by omega)
      rw [scan_eq _ (fl l) _ _ (fun n hn => by
        rw [hg n (List.mem_range.1 hn), zeros_get, Int.zero_add])]
      rfl
  · rw [if_neg h, if_neg h]; exact Ev.now _
/-! ### the reference -/
theorem mg_append (v : Nat → Int) (a b : List Nat) : mg v (a ++ b) = mg v a ++ mg v b := List.filterMap_append
theorem rm_l2 (l : List S33) (hl : l.length ≤ 16) (hg : ∀ s ∈ l, lampOk s = true) (y x : Nat) (hy : y < 8) (hx : x < 8) (out : List S33) (ho : out.length ≤ 1000) (r : List S33 × Int)
    (hk : Ev (fun k => fringeref41_Merge.l1 k l (out ++ mg (fl l) [y * 8 + x]) y ((x + 1 : Nat) : Int)) r) :
    ∀ d i : Nat, l.length = i + d → ∀ acc : Int, 0 ≤ acc → acc ≤ 1000 * i → acc + fl (l.drop i) (y * 8 + x) = fl l (y * 8 + x) → Ev (fun k => fringeref41_Merge.l2 k l out y x i x y acc) r
  | 0, i, h, acc, h0, h1, ha => by
    refine Ev.step (fun k => by simp only [fringeref41_Merge.l2]; rfl) ?_
    refine Ev.iteF (by omega) ?_
    rw [List.drop_eq_nil_of_le (by omega), fl_nil, Int.add_zero] at ha
    rw [mg_cons] at hk
    have e0 : (((y * 8 + x) % 8 : Nat) : Int) = x := by omega
    have e1 : (((y * 8 + x) / 8 : Nat) : Int) = y := by omega
    rw [e0, e1, ← ha] at hk
    rw [wr1 x (by omega)]
    by_cases c : acc > 0
    · rw [if_pos c] at hk
      refine Ev.iteT c (Ev.iteT (by omega) ?_)
      have : mg (fl l) [] = [] := rfl
      rw [this, List.append_nil] at hk
      exact hk
    · rw [if_neg c] at hk
      refine Ev.iteF c ?_
      have : mg (fl l) [] = [] := rfl
      rw [this, List.append_nil, List.append_nil] at hk
      exact hk
  | d + 1, i, h, acc, h0, h1, ha => by
    refine Ev.step (fun k => by simp only [fringeref41_Merge.l2]; rfl) ?_
    refine Ev.iteT (by omega) (Ev.iteT (by omega) ?_)
    have hs := ok33 (hg _ (mem_getD l z33 i (by omega)))
    have e : rd_T33 l (i : Int) = l.getD i z33 := rfl
    rw [drop_get l z33 i (by omega), fl_cons] at ha
    rw [e, wr1 i (by omega)]
    generalize l.getD i z33 = s at hs ha
    have hat : at_ s = y * 8 + x ↔ (s.f0 = x ∧ s.f1 = y) := by unfold at_; omega
    have ih := fun a p q e => rm_l2 l hl hg y x hy hx out ho r hk d (i + 1) (by omega) a p q e
    refine Ev.ite (fun c1 => Ev.ite (fun c2 => ?_) (fun c2 => ?_)) (fun c1 => ?_)
    · rw [if_pos (hat.2 ⟨c1, c2⟩)] at ha
      rw [wr (by omega) (by omega)]
      exact ih _ (by omega) (by omega) (by omega)
    · rw [if_neg (fun hh => c2 (hat.1 hh).2), Int.zero_add] at ha
      exact ih _ h0 (by omega) ha
    · rw [if_neg (fun hh => c1 (hat.1 hh).1), Int.zero_add] at ha
      exact ih _ h0 (by omega) ha
theorem rm_l1 (l : List S33) (hl : l.length ≤ 16) (hg : ∀ s ∈ l, lampOk s = true) (y : Nat) (hy : y < 8) (r : List S33 × Int) : ∀ d x : Nat, 8 = x + d → ∀ out : List S33, out.length ≤ y * 8 + x →
    Ev (fun k => fringeref41_Merge.l0 k l (out ++ mg (fl l) (List.range' (y * 8 + x) d)) ((y + 1 : Nat) : Int)) r → Ev (fun k => fringeref41_Merge.l1 k l out y x) r
  | 0, x, h, out, ho, hk => by
    refine Ev.step (fun k => by simp only [fringeref41_Merge.l1]; rfl) ?_
    refine Ev.iteF (by omega) ?_
    rw [wr1 y (by omega)]
    have : mg (fl l) (List.range' (y * 8 + x) 0) = [] := rfl
    rw [this, List.append_nil] at hk
    exact hk
  | d + 1, x, h, out, ho, hk => by
    refine Ev.step (fun k => by simp only [fringeref41_Merge.l1]; rfl) ?_
    refine Ev.iteT (by omega) ?_
    have hlen : (mg (fl l) [y * 8 + x]).length ≤ 1 := by rw [mg_cons]; split <;> simp [mg]
    refine rm_l2 l hl hg y x hy (by omega) out (by omega) r ?_ l.length 0 (by omega) 0 (by omega) (by omega) (by rw [List.drop_zero, Int.zero_add])
    refine rm_l1 l hl hg y hy r d (x + 1) (by omega) _ (by rw [List.length_append]; omega) ?_
    rw [List.range'_succ] at hk
    rw [List.append_assoc, ← mg_append]
    exact hk
theorem rm_l0 (l : List S33) (hl : l.length ≤ 16) (hg : ∀ s ∈ l, lampOk s = true) : ∀ d y : Nat, 8 = y + d → ∀ out : List S33, out.length ≤ y * 8 →
    Ev (fun k => fringeref41_Merge.l0 k l out y) (if chk (out ++ mg (fl l) (List.range' (y * 8) (d * 8))) = 0 then (out ++ mg (fl l) (List.range' (y * 8) (d * 8)), 0) else ([], 16))
  | 0, y, h, out, ho => by
    refine Ev.step (fun k => by simp only [fringeref41_Merge.l0]; rfl) ?_
    refine Ev.iteF (by omega) ?_
    have : mg (fl l) (List.range' (y * 8) (0 * 8)) = [] := rfl
    rw [this, List.append_nil]
    refine Ev.bind (ref_Check_ev out) ?_
    by_cases c : chk out = 0
    · rw [if_pos c, if_pos c]; exact Ev.now _
    · rw [if_neg c, if_neg c]; exact Ev.now _
  | d + 1, y, h, out, ho => by
    refine Ev.step (fun k => by simp only [fringeref41_Merge.l0]; rfl) ?_
    refine Ev.iteT (by omega) ?_
    have hlen : ∀ ns : List Nat, (mg (fl l) ns).length ≤ ns.length := fun ns => List.length_filterMap_le _ _
    have ih := rm_l0 l hl hg d (y + 1) (by omega) (out ++ mg (fl l) (List.range' (y * 8) 8)) (by rw [List.length_append]; have := hlen (List.range' (y * 8) 8); rw [List.length_range'] at this; omega)
    have e : List.range' (y * 8) ((d + 1) * 8) = List.range' (y * 8) 8 ++ List.range' ((y + 1) * 8) (d * 8) := by
      rw [show (d + 1) * 8 = 8 + d * 8 by omega, show (y + 1) * 8 = y * 8 + 8 by omega, List.range'_append_1]
    rw [e, mg_append, ← List.append_assoc]
    exact rm_l1 l hl hg y (by omega) _ 8 0 (by omega) out (by omega) ih
theorem ref_Merge_ev (l : List S33) : Ev (fun k => fringeref41_Merge.f k l) (MergeS l) := by
  unfold MergeS
  simp only [fringeref41_Merge.f]
  refine Ev.bind (ref_Check_ev l) ?_
  by_cases h : chk l = 0
  · obtain ⟨h1, h2⟩ := chk_ok h
    rw [if_pos h]
    refine Ev.iteT h ?_
    have h3 := rm_l0 l h1 h2 8 0 (by omega) [] (by simp)
    rw [List.nil_append] at h3
    have e : mg (fl l) (List.range' (0 * 8) (8 * 8)) = merged l := by unfold merged; rw [List.range_eq_range']
    rw [e] at h3
    by_cases c : (List.range 64).all (fun n => decide (fl l n ≤ 1000)) = true
    · rw [if_pos c]; rw [if_pos ((merged_chk h).2 c)] at h3; exact h3
    · rw [if_neg c]; rw [if_neg (fun hc => c ((merged_chk h).1 hc))] at h3; exact h3
  · rw [if_neg h]; exact Ev.iteF h (Ev.now _)
theorem MergeS_le (l : List S33) : (MergeS l).1.length ≤ 100000 := by
  unfold MergeS
  split
  · split
    · rename_i h _
      have := merged_len (chk_ok h).2
      have := (chk_ok h).1
      simp only
      omega
    · simp
  · simp
end Go.Proofs.Ytihmhcdcbcleeaa.Pure
