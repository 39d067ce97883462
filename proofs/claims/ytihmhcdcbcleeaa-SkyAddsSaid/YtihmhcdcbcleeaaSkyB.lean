/- What the functions of the sky come to: visibilities. -/
import Derived.Test.YtihmhcdcbcleeaaQ13
import Derived.Test.YtihmhcdcbcleeaaQ19
import Derived.Test.YtihmhcdcbcleeaaSkyA
namespace Go.Proofs.Ytihmhcdcbcleeaa.Pure
open Go.RowKit Go.Proofs.YtihmhcdcbcleeaaW.PrintWords Go.Proofs.YtihmhcdcbcleeaaW.PrintLast Go.Proofs.YtihmhcdcbcleeaaW.PrintMore Go.Proofs.Ytihmhcdcbcleeaa.Open Go.Proofs.Ytihmhcdcbcleeaa.Q Go.Proofs.Ytihmhcdcbcleeaa.Aid
/-! ### baselines -/
def rowOf (i : Nat) (a : S41) : Nat → List S41 → List S85
  | _, [] => []
  | j, b :: t => ⟨i, j, b.f0 - a.f0, b.f1 - a.f1⟩ :: rowOf i a (j + 1) t
def allOf : Nat → List S41 → List S85
  | _, [] => []
  | i, a :: t => rowOf i a (i + 1) t ++ allOf (i + 1) t
theorem ok41 {s : S41} (h : placeOk s = true) : -100 ≤ s.f0 ∧ s.f0 ≤ 100 ∧ -100 ≤ s.f1 ∧ s.f1 ≤ 100 := by simpa [placeOk] using h
theorem ok33 {s : S33} (h : lampOk s = true) : 0 ≤ s.f0 ∧ s.f0 < 8 ∧ 0 ≤ s.f1 ∧ s.f1 < 8 ∧ 0 ≤ s.f2 ∧ s.f2 ≤ 1000 := by simpa [lampOk] using h
/-- What is known of baselines of good places. -/
def baseOk (n : Nat) (b : S85) : Prop := 0 ≤ b.f0 ∧ b.f0 < b.f1 ∧ b.f1 < n ∧ (-200 ≤ b.f2 ∧ b.f2 ≤ 200) ∧ (-200 ≤ b.f3 ∧ b.f3 ≤ 200)
theorem rowOf_ok {i : Nat} {a : S41} (ha : placeOk a = true) : ∀ (j : Nat) (t : List S41), i < j → (∀ s ∈ t, placeOk s = true) → ∀ b ∈ rowOf i a j t, baseOk (j + t.length) b
  | _, [], _, _, b, hb => by simp [rowOf] at hb
  | j, c :: t, hij, ht, b, hb => by
    rcases List.mem_cons.1 hb with rfl | hb
    · have h1 := ok41 ha
      have h2 := ok41 (ht c (by simp))
      refine ⟨?_, ?_, ?_, ?_, ?_⟩ <;> simp <;> omega
    · have := rowOf_ok ha (j + 1) t (by omega) (fun s hs => ht s (by simp [hs])) b hb
      rw [List.length_cons, show j + (t.length + 1) = j + 1 + t.length by omega]
      exact this
theorem allOf_ok : ∀ (i : Nat) (t : List S41), (∀ s ∈ t, placeOk s = true) → ∀ b ∈ allOf i t, baseOk (i + t.length) b
  | _, [], _, b, hb => by simp [allOf] at hb
  | i, a :: t, ht, b, hb => by
    rcases List.mem_append.1 hb with hb | hb
    · have := rowOf_ok (ht a (by simp)) (i + 1) t (by omega) (fun s hs => ht s (by simp [hs])) b hb
      rw [List.length_cons, show i + (t.length + 1) = i + 1 + t.length by omega]
      exact this
    · have := allOf_ok (i + 1) t (fun s hs => ht s (by simp [hs])) b hb
      rw [List.length_cons, show i + (t.length + 1) = i + 1 + t.length by omega]
      exact this
theorem rowOf_len (i : Nat) (a : S41) : ∀ (j : Nat) (t : List S41), (rowOf i a j t).length = t.length
  | _, [] => rfl
  | j, _ :: t => by simp [rowOf, rowOf_len i a (j + 1) t]
theorem allOf_len : ∀ (i : Nat) (t : List S41), (allOf i t).length * 2 = t.length * (t.length - 1)
  | _, [] => rfl
  | i, a :: t => by
    have h := allOf_len (i + 1) t
    simp only [allOf, List.length_append, rowOf_len, List.length_cons]
    rw [Nat.add_mul, h, Nat.add_sub_cancel]
    generalize t.length = n
    cases n with
    | zero => rfl
    | succ n => simp only [Nat.add_sub_cancel, Nat.add_mul, Nat.mul_add]; omega
theorem bl_l1 (p : List S41) (hl : p.length ≤ 8) (hp : ∀ s ∈ p, placeOk s = true) (i : Nat) (hi : i < p.length) (r : List S85) : ∀ d j : Nat, p.length = i + 1 + j + d → ∀ acc : List S85, acc.length ≤ i * 8 + j →
    Ev (fun k => sky_baselines.l0 k p (acc ++ rowOf i (p.getD i z41) (i + 1 + j) (p.drop (i + 1 + j))) p p.length ((i + 1 : Nat) : Int)) r →
    Ev (fun k => sky_baselines.l1 k p acc i p p.length i (p.drop (i + 1)) (p.drop (i + 1)).length j (p.getD i z41).f0 (p.getD i z41).f1) r
  | 0, j, h, acc, _, hk => by
    refine Ev.step (fun k => by simp only [sky_baselines.l1]; rfl) ?_
    refine Ev.iteF (by rw [List.length_drop]; omega) ?_
    rw [wr1 i (by omega)]
    rw [List.drop_eq_nil_of_le (by omega), rowOf, List.append_nil] at hk
    exact hk
  | d + 1, j, h, acc, ha, hk => by
    refine Ev.step (fun k => by simp only [sky_baselines.l1]; rfl) ?_
    refine Ev.iteT (by rw [List.length_drop]; omega) (Ev.iteT (by omega) (Ev.iteT (by rw [List.length_drop]; omega) (Ev.iteT (by omega) ?_)))
    have e : rd_T41 (p.drop (i + 1)) (j : Int) = p.getD (i + 1 + j) z41 := by
      show (p.drop (i + 1)).getD j z41 = _
      rw [List.getD_eq_getElem?_getD, List.getElem?_drop, ← List.getD_eq_getElem?_getD]
    have hb := ok41 (hp _ (mem_getD p z41 (i + 1 + j) (by omega)))
    have hc := ok41 (hp _ (mem_getD p z41 i hi))
    rw [e, wr1 i (by omega), wr1 j (by omega), wr (x := ((i + 1 : Nat) : Int) + (j : Int)) (by omega) (by omega), wr (by omega) (by omega), wr (by omega) (by omega)]
    refine bl_l1 p hl hp i hi r d (j + 1) (by omega) _ (by rw [List.length_append, List.length_singleton]; omega) ?_
    rw [drop_get p z41 (i + 1 + j) (by omega), rowOf] at hk
    have e2 : ((i + 1 : Nat) : Int) + (j : Int) = ((i + 1 + j : Nat) : Int) := by omega
    rw [e2, List.append_assoc, List.singleton_append]
    exact hk
theorem bl_l0 (p : List S41) (hl : p.length ≤ 8) (hp : ∀ s ∈ p, placeOk s = true) : ∀ d i : Nat, p.length = i + d → ∀ acc : List S85, acc.length ≤ i * 8 →
    Ev (fun k => sky_baselines.l0 k p acc p p.length i) (acc ++ allOf i (p.drop i))
  | 0, i, h, acc, _ => by
    refine Ev.step (fun k => by simp only [sky_baselines.l0]; rfl) ?_
    refine Ev.iteF (by omega) ?_
    rw [List.drop_eq_nil_of_le (by omega), allOf, List.append_nil]
    exact Ev.now _
  | d + 1, i, h, acc, ha => by
    refine Ev.step (fun k => by simp only [sky_baselines.l0]; rfl) ?_
    simp only [wr1 i (by omega)]
    refine Ev.iteT (by omega) (Ev.iteT (by omega) (Ev.iteT (by omega) (Ev.iteT (by omega) (Ev.iteT (by omega) ?_))))
    simp only [Option.bind_some, Int.toNat_natCast]
    rw [drop_get p z41 i (by omega), allOf]
    have e : rd_T41 p (i : Int) = p.getD i z41 := rfl
    rw [e]
    have h1 := bl_l0 p hl hp d (i + 1) (by omega) (acc ++ rowOf i (p.getD i z41) (i + 1) (p.drop (i + 1))) (by rw [List.length_append, rowOf_len, List.length_drop]; omega)
    rw [List.append_assoc] at h1
    have h2 := bl_l1 p hl hp i (by omega) (acc ++ (rowOf i (p.getD i z41) (i + 1) (p.drop (i + 1)) ++ allOf (i + 1) (p.drop (i + 1)))) d 0 (by omega) acc (by omega)
    rw [Nat.add_zero] at h2
    exact h2 h1
theorem sky_baselines_ev (p : List S41) (hl : p.length ≤ 8) (hp : ∀ s ∈ p, placeOk s = true) : Ev (fun k => sky_baselines.f k p) (allOf 0 p) := by
  simp only [sky_baselines.f]
  have := bl_l0 p hl hp p.length 0 (by omega) [] (by simp)
  rwa [List.drop_zero, List.nil_append] at this

/-! ### turning -/
def rot (q : Int) (g : Int × Int) : Int × Int := if q % 4 = 1 then (-g.2, g.1) else if q % 4 = 2 then (-g.1, -g.2) else if q % 4 = 3 then (g.2, -g.1) else g
theorem rot_mod {q q' : Int} (h : q % 4 = q' % 4) (g : Int × Int) : rot q g = rot q' g := by unfold rot; rw [h]
theorem rot_bd {q : Int} {g : Int × Int} {B : Int} (h1 : -B ≤ g.1 ∧ g.1 ≤ B) (h2 : -B ≤ g.2 ∧ g.2 ≤ B) : (-B ≤ (rot q g).1 ∧ (rot q g).1 ≤ B) ∧ (-B ≤ (rot q g).2 ∧ (rot q g).2 ≤ B) := by
  unfold rot
  split
  · simp only; omega
  · split
    · simp only; omega
    · split
      · simp only; omega
      · exact ⟨h1, h2⟩
theorem rot_add (q q' : Int) (g : Int × Int) : rot q (rot q' g) = rot (q' + q) g := by
  have h : q % 4 = 0 ∨ q % 4 = 1 ∨ q % 4 = 2 ∨ q % 4 = 3 := by omega
  have h' : q' % 4 = 0 ∨ q' % 4 = 1 ∨ q' % 4 = 2 ∨ q' % 4 = 3 := by omega
  have e : (q' + q) % 4 = (q' % 4 + q % 4) % 4 := Int.add_emod _ _ _
  unfold rot
  rw [e]
  rcases h with h | h | h | h <;> rcases h' with h' | h' | h' | h' <;> simp [h, h'] 
theorem rot_plus (q : Int) (a b c d : Int) : rot q (a + c, b + d) = ((rot q (a, b)).1 + (rot q (c, d)).1, (rot q (a, b)).2 + (rot q (c, d)).2) := by
  unfold rot
  split
  · refine Prod.ext ?_ ?_ <;> simp only <;> omega
  · split
    · refine Prod.ext ?_ ?_ <;> simp only <;> omega
    · split
      · refine Prod.ext ?_ ?_ <;> simp only <;> omega
      · rfl
theorem rot_zero (q : Int) : rot q (0, 0) = (0, 0) := by
  unfold rot
  split
  · rfl
  · split
    · rfl
    · split <;> rfl
theorem sky_turn_eq (a b q : Int) (ha : -9223372036854775807 ≤ a ∧ a ≤ 9223372036854775807) (hb : -9223372036854775807 ≤ b ∧ b ≤ 9223372036854775807) : sky_turn.f a b q = some (rot q (a, b)) := by
  unfold sky_turn.f rot
  rw [and3, wr (x := -b) (by omega) (by omega), wr (x := -a) (by omega) (by omega)]
  split
  · rfl
  · split
    · rfl
    · split <;> rfl
/-! ### the visibility of a baseline -/
def sm (u v : Int) (l : List S33) (x y : Int) : Int × Int := l.foldr (fun s a => ((rot (u * (s.f0 + x) + v * (s.f1 + y)) (s.f2, 0)).1 + a.1, (rot (u * (s.f0 + x) + v * (s.f1 + y)) (s.f2, 0)).2 + a.2)) (0, 0)
theorem sm_cons (u v : Int) (s : S33) (l : List S33) (x y : Int) : sm u v (s :: l) x y = ((rot (u * (s.f0 + x) + v * (s.f1 + y)) (s.f2, 0)).1 + (sm u v l x y).1, (rot (u * (s.f0 + x) + v * (s.f1 + y)) (s.f2, 0)).2 + (sm u v l x y).2) := rfl
theorem sm_bd (u v : Int) (x y : Int) : ∀ (l : List S33), (∀ s ∈ l, lampOk s = true) → (-(1000 * l.length : Int) ≤ (sm u v l x y).1 ∧ (sm u v l x y).1 ≤ 1000 * l.length) ∧ (-(1000 * l.length : Int) ≤ (sm u v l x y).2 ∧ (sm u v l x y).2 ≤ 1000 * l.length)
  | [], _ => by simp [sm]
  | s :: l, h => by
    have h1 := sm_bd u v x y l (fun t ht => h t (by simp [ht]))
    have h2 := ok33 (h s (by simp))
    have h3 := rot_bd (q := u * (s.f0 + x) + v * (s.f1 + y)) (g := (s.f2, 0)) (B := 1000) (by simp; omega) (by simp)
    rw [sm_cons, List.length_cons]
    simp only
    omega
theorem sm_append (u v : Int) (x y : Int) : ∀ (l m : List S33), sm u v (l ++ m) x y = ((sm u v l x y).1 + (sm u v m x y).1, (sm u v l x y).2 + (sm u v m x y).2)
  | [], m => by simp [sm]
  | s :: l, m => by
    rw [List.cons_append, sm_cons, sm_cons, sm_append u v x y l m]
    simp only [Prod.mk.injEq]
    omega
/-- Turning all is turning each. -/
theorem sm_turn (u v : Int) (x y : Int) : ∀ (l : List S33), rot (u * x + v * y) (sm u v l 0 0) = sm u v l x y
  | [] => by simp [sm, rot_zero]
  | s :: l => by
    rw [sm_cons, sm_cons, rot_plus]
    show ((rot (u * x + v * y) (rot (u * (s.f0 + 0) + v * (s.f1 + 0)) (s.f2, 0))).1 + (rot (u * x + v * y) (sm u v l 0 0)).1, (rot (u * x + v * y) (rot (u * (s.f0 + 0) + v * (s.f1 + 0)) (s.f2, 0))).2 + (rot (u * x + v * y) (sm u v l 0 0)).2) = _
    rw [rot_add, sm_turn u v x y l]
    have e : u * (s.f0 + 0) + v * (s.f1 + 0) + (u * x + v * y) = u * (s.f0 + x) + v * (s.f1 + y) := by
      rw [Int.mul_add u s.f0 x, Int.mul_add v s.f1 y, Int.add_zero, Int.add_zero]
      omega
    rw [e]
theorem q_bd {u v a b : Int} (hu : -200 ≤ u ∧ u ≤ 200) (hv : -200 ≤ v ∧ v ≤ 200) (ha : -20 ≤ a ∧ a ≤ 20) (hb : -20 ≤ b ∧ b ≤ 20) : (-4000 ≤ u * a ∧ u * a ≤ 4000) ∧ (-4000 ≤ v * b ∧ v * b ≤ 4000) := by
  have h1 := mul_bd (A := 200) (B := 20) hu ha
  have h2 := mul_bd (A := 200) (B := 20) hv hb
  exact ⟨by simpa using h1, by simpa using h2⟩
theorem see_l0 (l : List S33) (hl : l.length ≤ 16) (hg : ∀ s ∈ l, lampOk s = true) (x y b0 b1 u v : Int) (hu : -200 ≤ u ∧ u ≤ 200) (hv : -200 ≤ v ∧ v ≤ 200) (hx : -8 ≤ x ∧ x ≤ 8) (hy : -8 ≤ y ∧ y ≤ 8) :
    ∀ d i : Nat, l.length = i + d → ∀ re im : Int, (-(1000 * i : Int) ≤ re ∧ re ≤ 1000 * i) → (-(1000 * i : Int) ≤ im ∧ im ≤ 1000 * i) →
    Ev (fun k => sky_baseline_see.l0 k x y l l.length i b0 b1 u v re im) (re + (sm u v (l.drop i) x y).1, im + (sm u v (l.drop i) x y).2)
  | 0, i, h, re, im, _, _ => by
    refine Ev.step (fun k => by simp only [sky_baseline_see.l0]; rfl) ?_
    refine Ev.iteF (by omega) ?_
    rw [List.drop_eq_nil_of_le (by omega)]
    exact Ev.some_of (by simp [sm])
  | d + 1, i, h, re, im, hre, him => by
    refine Ev.step (fun k => by simp only [sky_baseline_see.l0]; rfl) ?_
    refine Ev.iteT (by omega) (Ev.iteT (by omega) (Ev.iteT (by omega) ?_))
    rw [drop_get l z33 i (by omega), sm_cons]
    have e : rd_T33 l (i : Int) = l.getD i z33 := rfl
    have h2 := ok33 (hg _ (mem_getD l z33 i (by omega)))
    rw [e]
    generalize l.getD i z33 = s at h2
    have hq := q_bd (u := u) (v := v) (a := s.f0 + x) (b := s.f1 + y) hu hv (by omega) (by omega)
    have h3 := rot_bd (q := u * (s.f0 + x) + v * (s.f1 + y)) (g := (s.f2, 0)) (B := 1000) (by simp; omega) (by simp)
    rw [wr (x := s.f0 + x) (by omega) (by omega), wr (x := s.f1 + y) (by omega) (by omega), wr (x := u * (s.f0 + x)) (by omega) (by omega), wr (x := v * (s.f1 + y)) (by omega) (by omega), wr (x := u * (s.f0 + x) + v * (s.f1 + y)) (by omega) (by omega)]
    simp only [sky_turn_eq s.f2 0 (u * (s.f0 + x) + v * (s.f1 + y)) (by omega) (by omega), Option.bind_some]
    generalize rot (u * (s.f0 + x) + v * (s.f1 + y)) (s.f2, 0) = g at h3 ⊢
    rw [wr (x := re + g.1) (by omega) (by omega), wr (x := im + g.2) (by omega) (by omega), wr1 i (by omega)]
    have ih := see_l0 l hl hg x y b0 b1 u v hu hv hx hy d (i + 1) (by omega) (re + g.1) (im + g.2) (by omega) (by omega)
    rw [Int.add_assoc, Int.add_assoc] at ih
    exact ih
theorem sky_see_ev (l : List S33) (hl : l.length ≤ 16) (hg : ∀ s ∈ l, lampOk s = true) (x y b0 b1 u v : Int) (hu : -200 ≤ u ∧ u ≤ 200) (hv : -200 ≤ v ∧ v ≤ 200) (hx : -8 ≤ x ∧ x ≤ 8) (hy : -8 ≤ y ∧ y ≤ 8) :
    Ev (fun k => sky_baseline_see.f k b0 b1 u v l x y) (sm u v l x y) := by
  simp only [sky_baseline_see.f]
  have := see_l0 l hl hg x y b0 b1 u v hu hv hx hy l.length 0 (by omega) 0 0 (by simp) (by simp)
  rw [List.drop_zero, Int.zero_add, Int.zero_add] at this
  exact this

/-! ### all visibilities -/
def visB (l : List S33) (x y : Int) (b : S85) : S47 := ⟨b.f0, b.f1, ⟨(sm b.f2 b.f3 l x y).1, (sm b.f2 b.f3 l x y).2, 1⟩, 1⟩
def visOf (p : List S41) (l : List S33) (x y : Int) : List S47 := (allOf 0 p).map (visB l x y)
theorem turned_l0 (l : List S33) (hl : l.length ≤ 16) (hg : ∀ s ∈ l, lampOk s = true) (x y : Int) (hx : -8 ≤ x ∧ x ≤ 8) (hy : -8 ≤ y ∧ y ≤ 8) (n : Nat) (bl : List S85) (hb : ∀ b ∈ bl, baseOk n b) (hbl : bl.length ≤ 1000) :
    ∀ d i : Nat, bl.length = i + d → ∀ out : List S47, out.length = i → Ev (fun k => sky_turned.l0 k l x y out bl bl.length i) (out ++ (bl.drop i).map (visB l x y))
  | 0, i, h, out, _ => by
    refine Ev.step (fun k => by simp only [sky_turned.l0]; rfl) ?_
    refine Ev.iteF (by omega) ?_
    rw [List.drop_eq_nil_of_le (by omega), List.map_nil, List.append_nil]
    exact Ev.now _
  | d + 1, i, h, out, ho => by
    refine Ev.step (fun k => by simp only [sky_turned.l0]; rfl) ?_
    refine Ev.iteT (by omega) (Ev.iteT (by omega) (Ev.iteT (by omega) ?_))
    rw [drop_get bl z85 i (by omega), List.map_cons]
    have e : rd_T85 bl (i : Int) = bl.getD i z85 := rfl
    have hk := hb _ (mem_getD bl z85 i (by omega))
    rw [e]
    generalize bl.getD i z85 = b at hk
    refine Ev.bind (sky_see_ev l hl hg x y b.f0 b.f1 b.f2 b.f3 hk.2.2.2.1 hk.2.2.2.2 hx hy) (Ev.iteT (by omega) ?_)
    rw [wr1 i (by omega)]
    have ih := turned_l0 l hl hg x y hx hy n bl hb hbl d (i + 1) (by omega) (out ++ [visB l x y b]) (by rw [List.length_append, List.length_singleton, ho])
    rw [List.append_assoc, List.singleton_append] at ih
    exact ih
theorem allOf_le {p : List S41} (hl : p.length ≤ 8) (i : Nat) : (allOf i p).length ≤ 28 := by
  have h := allOf_len i p
  have h2 : p.length * (p.length - 1) ≤ 8 * 7 := Nat.mul_le_mul hl (by omega)
  omega
theorem sky_turned_ev (p : List S41) (l : List S33) (hpl : p.length ≤ 8) (hp : ∀ s ∈ p, placeOk s = true) (hl : l.length ≤ 16) (hg : ∀ s ∈ l, lampOk s = true) (x y : Int) (hx : -8 ≤ x ∧ x ≤ 8) (hy : -8 ≤ y ∧ y ≤ 8) :
    Ev (fun k => sky_turned.f k p l x y) (visOf p l x y) := by
  simp only [sky_turned.f]
  refine Ev.bind (sky_baselines_ev p hpl hp) ?_
  have := turned_l0 l hl hg x y hx hy (0 + p.length) (allOf 0 p) (allOf_ok 0 p hp) (by have := allOf_le hpl 0; omega) (allOf 0 p).length 0 (by omega) [] rfl
  rw [List.drop_zero, List.nil_append] at this
  exact this

/-! ### See -/
def SeeS (p : List S41) (l : List S33) : List S47 × Int := if bth p l = 0 then (visOf p l 0 0, 0) else ([], bth p l)
def TurnS (p : List S41) (l : List S33) (x y : Int) : List S47 × Int := if bth p l = 0 then (if -8 ≤ x ∧ x ≤ 8 ∧ -8 ≤ y ∧ y ≤ 8 then (visOf p l x y, 0) else ([], 2)) else ([], bth p l)
theorem sky_See_ev (p : List S41) (l : List S33) (hp : ∀ s ∈ p, R2 s) : Ev (fun k => sky_See.f k p l) (SeeS p l) := by
  unfold SeeS
  simp only [sky_See.f]
  refine Ev.bind (sky_both_ev p l hp) ?_
  by_cases h : bth p l = 0
  · obtain ⟨h1, _, h2, h3, h4⟩ := bth_ok h
    rw [if_pos h]
    exact Ev.iteT h (Ev.bind (sky_turned_ev p l h1 h2 h3 h4 0 0 (by omega) (by omega)) (Ev.now _))
  · rw [if_neg h]; exact Ev.iteF h (Ev.now _)
/-! ### what is the same -/
theorem same_vis_l0 (m : List S47) (hm : m.length ≤ 100000) : ∀ d i : Nat, m.length = i + d → Ev (fun k => fringeref41_SameVis.l0 k m m i) true
  | 0, i, h => by
    refine Ev.step (fun k => by simp only [fringeref41_SameVis.l0]; rfl) ?_
    exact Ev.iteF (by omega) (Ev.now _)
  | d + 1, i, h => by
    refine Ev.step (fun k => by simp only [fringeref41_SameVis.l0]; rfl) ?_
    refine Ev.iteT (by omega) (Ev.iteT (by omega) (Ev.iteT (by omega) (Ev.iteF (by simp) ?_)))
    rw [wr1 i (by omega)]
    exact same_vis_l0 m hm d (i + 1) (by omega)
theorem same_vis (m : List S47) (hm : m.length ≤ 100000) : Ev (fun k => fringeref41_SameVis.f k m m) true := by
  simp only [fringeref41_SameVis.f]
  exact Ev.iteT (by simp) (same_vis_l0 m hm m.length 0 (by omega))
/-! ### how long the answers are -/
theorem visOf_le {p : List S41} {l : List S33} (x y : Int) (h : bth p l = 0) : (visOf p l x y).length ≤ 100000 := by
  have := allOf_le (bth_ok h).1 0
  unfold visOf
  rw [List.length_map]
  omega
theorem SeeS_le (p : List S41) (l : List S33) : (SeeS p l).1.length ≤ 100000 := by
  unfold SeeS
  by_cases h : bth p l = 0
  · rw [if_pos h]; exact visOf_le 0 0 h
  · rw [if_neg h]; simp
theorem TurnS_le (p : List S41) (l : List S33) (x y : Int) : (TurnS p l x y).1.length ≤ 100000 := by
  unfold TurnS
  by_cases h : bth p l = 0
  · rw [if_pos h]
    split
    · exact visOf_le x y h
    · simp
  · rw [if_neg h]; simp
theorem Great_eq (p : List S41) (l : List S33) : fringeref41_Great.f p l = some (decide (p.length > 20 ∨ l.length > 40)) := by
  unfold fringeref41_Great.f
  by_cases h : (p.length : Int) > 20
  · rw [if_pos h]; congr 1; simp; omega
  · rw [if_neg h]; congr 1; rw [decide_eq_decide]; omega
theorem GL41_R2 {p : List S41} (h : GL41 p) : ∀ s ∈ p, R2 s := fun s hs => ⟨wf64 (h.2.2 s hs).1, wf64 (h.2.2 s hs).2⟩
end Go.Proofs.Ytihmhcdcbcleeaa.Pure
