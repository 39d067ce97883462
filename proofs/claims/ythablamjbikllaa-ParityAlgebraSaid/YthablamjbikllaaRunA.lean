/- A machine for closed calls: its data. Values in which the blocks of one's own are named by numbers of their own, and what it is that a world holds them. -/
import Derived.Orders
import Derived.Below
import Derived.Laws.IdiomCopy
import Derived.Laws.Cells
set_option linter.unusedVariables false
namespace Go.Proofs.Ythablamjbikllaa.Run
open Go.RowKit

/-! ### tables -/
inductive T (α : Type) where
  | leaf
  | node (l : T α) (v : Option α) (r : T α)

noncomputable def T.get {α : Type} (t : T α) : Nat → Option α :=
  T.rec (motive := fun _ => Nat → Option α) (fun _ => none) (fun _ v _ gl gr n =>
    Nat.rec (motive := fun _ => Option α) v (fun k _ => Bool.rec (motive := fun _ => Option α) (gr (Nat.div k (nat_lit 2))) (gl (Nat.div k (nat_lit 2))) (Nat.beq (Nat.mod k (nat_lit 2)) (nat_lit 0))) n) t
noncomputable def T.set {α : Type} (v : Option α) (f : Nat) : T α → Nat → T α :=
  Nat.rec (motive := fun _ => T α → Nat → T α) (fun t _ => t) (fun _ ih t n =>
    T.rec (motive := fun _ => T α)
      (Nat.rec (motive := fun _ => T α) (.node .leaf v .leaf) (fun k _ => Bool.rec (motive := fun _ => T α) (.node .leaf none (ih .leaf (Nat.div k (nat_lit 2)))) (.node (ih .leaf (Nat.div k (nat_lit 2))) none .leaf) (Nat.beq (Nat.mod k (nat_lit 2)) (nat_lit 0))) n)
      (fun l x r _ _ => Nat.rec (motive := fun _ => T α) (.node l v r) (fun k _ => Bool.rec (motive := fun _ => T α) (.node l x (ih r (Nat.div k (nat_lit 2)))) (.node (ih l (Nat.div k (nat_lit 2))) x r) (Nat.beq (Nat.mod k (nat_lit 2)) (nat_lit 0))) n) t) f
theorem brec {α : Type} (b : Bool) (x y : α) : Bool.rec (motive := fun _ => α) x y b = bif b then y else x := by cases b <;> rfl
theorem T.get_leaf {α : Type} (n : Nat) : (T.leaf : T α).get n = none := rfl
theorem T.get_0 {α : Type} (l : T α) (v : Option α) (r : T α) : (T.node l v r).get 0 = v := rfl
theorem T.get_s {α : Type} (l : T α) (v : Option α) (r : T α) (k : Nat) : (T.node l v r).get (k + 1) = bif Nat.beq (k % 2) 0 then l.get (k / 2) else r.get (k / 2) := brec _ _ _
theorem T.set_leaf0 {α : Type} (v : Option α) (f : Nat) : T.set v (f + 1) .leaf 0 = .node .leaf v .leaf := rfl
theorem T.set_leafs {α : Type} (v : Option α) (f k : Nat) : T.set v (f + 1) .leaf (k + 1) = bif Nat.beq (k % 2) 0 then .node (T.set v f .leaf (k / 2)) none .leaf else .node .leaf none (T.set v f .leaf (k / 2)) := brec _ _ _
theorem T.set_node0 {α : Type} (v : Option α) (f : Nat) (l : T α) (x : Option α) (r : T α) : T.set v (f + 1) (.node l x r) 0 = .node l v r := rfl
theorem T.set_nodes {α : Type} (v : Option α) (f k : Nat) (l : T α) (x : Option α) (r : T α) : T.set v (f + 1) (.node l x r) (k + 1) = bif Nat.beq (k % 2) 0 then .node (T.set v f l (k / 2)) x r else .node l x (T.set v f r (k / 2)) := brec _ _ _

theorem half_eq {k m : Nat} (h : k % 2 = m % 2) : (k / 2 = m / 2) ↔ k = m := by omega
theorem T.get_set_s {α : Type} (v : Option α) (f : Nat) (l : T α) (x : Option α) (r : T α) (k m : Nat) (hk : k < f) (ihl : (T.set v f l (k / 2)).get (m / 2) = if m / 2 = k / 2 then v else l.get (m / 2)) (ihr : (T.set v f r (k / 2)).get (m / 2) = if m / 2 = k / 2 then v else r.get (m / 2)) :
    (bif Nat.beq (k % 2) 0 then T.node (T.set v f l (k / 2)) x r else T.node l x (T.set v f r (k / 2))).get (m + 1) = if m + 1 = k + 1 then v else (T.node l x r).get (m + 1) := by
  have := half_eq (k := k) (m := m)
  by_cases hk : k % 2 = 0 <;> by_cases hm : m % 2 = 0
  · have e1 : Nat.beq (k % 2) 0 = true := by rw [hk]; rfl
    have e2 : Nat.beq (m % 2) 0 = true := by rw [hm]; rfl
    simp only [e1, cond_true, T.get_s, e2, ihl]
    by_cases c : m = k
    · simp [c]
    · rw [if_neg (by omega), if_neg (by omega)]
  · have e1 : Nat.beq (k % 2) 0 = true := by rw [hk]; rfl
    have e2 : Nat.beq (m % 2) 0 = false := by rw [show m % 2 = 1 by omega]; rfl
    simp only [e1, cond_true, T.get_s, e2, cond_false]
    rw [if_neg (by omega)]
  · have e1 : Nat.beq (k % 2) 0 = false := by rw [show k % 2 = 1 by omega]; rfl
    have e2 : Nat.beq (m % 2) 0 = true := by rw [hm]; rfl
    simp only [e1, cond_true, T.get_s, e2, cond_false]
    rw [if_neg (by omega)]
  · have e1 : Nat.beq (k % 2) 0 = false := by rw [show k % 2 = 1 by omega]; rfl
    have e2 : Nat.beq (m % 2) 0 = false := by rw [show m % 2 = 1 by omega]; rfl
    simp only [e1, T.get_s, e2, cond_false, ihr]
    by_cases c : m = k
    · simp [c]
    · rw [if_neg (by omega), if_neg (by omega)]
theorem T.get_set {α : Type} (v : Option α) : ∀ (f : Nat) (t : T α) (n m : Nat), n < f → (T.set v f t n).get m = if m = n then v else t.get m
  | 0, _, n, _, h => by omega
  | f + 1, .leaf, 0, 0, h => rfl
  | f + 1, .leaf, 0, m + 1, h => by rw [T.set_leaf0, T.get_s]; cases Nat.beq (m % 2) 0 <;> simp [T.get_leaf]
  | f + 1, .leaf, k + 1, 0, h => by rw [T.set_leafs]; cases Nat.beq (k % 2) 0 <;> simp [T.get_0, T.get_leaf]
  | f + 1, .leaf, k + 1, m + 1, h => by
    have ih := T.get_set v f .leaf (k / 2) (m / 2) (by omega)
    have := T.get_set_s v f .leaf none .leaf k m (by omega) ih ih
    rw [T.set_leafs, this, T.get_s]
    cases Nat.beq (m % 2) 0 <;> simp [T.get_leaf]
  | f + 1, .node l x r, 0, 0, h => rfl
  | f + 1, .node l x r, 0, m + 1, h => by rw [T.set_node0, T.get_s, T.get_s, if_neg (by omega)]
  | f + 1, .node l x r, k + 1, 0, h => by rw [T.set_nodes, if_neg (by omega)]; cases Nat.beq (k % 2) 0 <;> rfl
  | f + 1, .node l x r, k + 1, m + 1, h => by
    rw [T.set_nodes]
    exact T.get_set_s v f l x r k m (by omega) (T.get_set v f l (k / 2) (m / 2) (by omega)) (T.get_set v f r (k / 2) (m / 2) (by omega))

noncomputable def T.put {α : Type} (t : T α) (n : Nat) (v : α) : T α := T.set (some v) (n + 1) t n
noncomputable def T.del {α : Type} (t : T α) (n : Nat) : T α := T.set none (n + 1) t n
theorem T.get_put {α : Type} (t : T α) (n m : Nat) (v : α) : (t.put n v).get m = if m = n then some v else t.get m := T.get_set _ _ _ _ _ (by omega)
theorem T.get_del {α : Type} (t : T α) (n m : Nat) : (t.del n).get m = if m = n then none else t.get m := T.get_set _ _ _ _ _ (by omega)
/-- A list laid from a place on. -/
noncomputable def T.lay {α : Type} : List α → Nat → T α → T α
  | [], _, t => t
  | x :: l, i, t => T.lay l (i + 1) (t.put i x)
theorem T.get_lay {α : Type} : ∀ (l : List α) (i : Nat) (t : T α) (m : Nat), (T.lay l i t).get m = if i ≤ m ∧ m < i + l.length then l[m - i]? else t.get m
  | [], i, t, m => by simp only [T.lay, List.length_nil]; rw [if_neg (by omega)]
  | x :: l, i, t, m => by
    rw [T.lay, T.get_lay l (i + 1), T.get_put, List.length_cons]
    by_cases h : m = i
    · subst h
      rw [if_neg (by omega), if_pos rfl, if_pos (by omega), Nat.sub_self]; rfl
    · by_cases h2 : i + 1 ≤ m ∧ m < i + 1 + l.length
      · rw [if_pos h2, if_pos (by omega), show m - i = (m - (i + 1)) + 1 by omega, List.getElem?_cons_succ]
      · rw [if_neg h2, if_neg h, if_neg (by omega)]
/-- A row of a table, read. -/
noncomputable def T.row {α : Type} (t : T α) : Nat → Nat → Option (List α)
  | _, 0 => some []
  | i, n + 1 => match t.get i with
    | none => none
    | some x => match T.row t (i + 1) n with
      | none => none
      | some l => some (x :: l)
theorem T.row_spec {α : Type} (t : T α) : ∀ (n i : Nat) (l : List α), T.row t i n = some l → l.length = n ∧ ∀ k, k < n → t.get (i + k) = l[k]?
  | 0, i, l, h => by
    simp only [T.row, Option.some.injEq] at h
    subst h
    exact ⟨rfl, fun k hk => absurd hk (by omega)⟩
  | n + 1, i, l, h => by
    simp only [T.row] at h
    split at h
    · cases h
    · rename_i x hx
      split at h
      · cases h
      · rename_i l' hl'
        simp only [Option.some.injEq] at h
        subst h
        obtain ⟨h1, h2⟩ := T.row_spec t n (i + 1) l' hl'
        refine ⟨by rw [List.length_cons, h1], fun k hk => ?_⟩
        match k with
        | 0 => exact hx
        | k + 1 => rw [show i + (k + 1) = i + 1 + k by omega, h2 k (by omega), List.getElem?_cons_succ]

/-! ### values -/
inductive C where
  | sc (v : Value)
  | ptr (b off : Nat)
  | slc (b off len cap : Nat)
  | slu (b off lo len : Nat)
  | sle (b off lo l s : Nat)
  | fn (f : Nat) (caps : List C)
  | mp (b : Nat)
inductive V where
  | c (x : C)
  | agg (l : List C)
  | tup (l : List V)
/-- The real number of a block, and how many elements it bears. -/
abbrev Ren := Nat → Option (Nat × Nat)
mutual
def C.real (ρ : Ren) : C → Option Value
  | .sc v => some v
  | .ptr b off => (ρ b).map fun p => .pointer (some ⟨p.1, off, none⟩)
  | .slc b off len cap => (ρ b).map fun p => .slice (some ⟨p.1, off, none⟩) len cap
  | .slu b off lo len => (ρ b).map fun p => .slice (some ⟨p.1, off, none⟩) len (p.2 - lo)
  | .sle b off lo l s => (ρ b).map fun p => .slice (some ⟨p.1, if p.2 - lo = l then off else off + l * s, none⟩) 0 (p.2 - lo - l)
  | .fn f cs => (C.reals ρ cs).map fun l => .func (.func f) #[] l.toArray
  | .mp b => (ρ b).map fun p => .map (some p.1)
def C.reals (ρ : Ren) : List C → Option (List Value)
  | [] => some []
  | x :: l => (C.real ρ x).bind fun v => (C.reals ρ l).map fun vs => v :: vs
end
mutual
def V.real (ρ : Ren) : V → Option Value
  | .c x => x.real ρ
  | .agg l => (C.reals ρ l).map fun vs => .agg vs.toArray
  | .tup l => (V.reals ρ l).map fun vs => .tuple vs.toArray
def V.reals (ρ : Ren) : List V → Option (List Value)
  | [] => some []
  | x :: l => (V.real ρ x).bind fun v => (V.reals ρ l).map fun vs => v :: vs
end
/-- Of the same blocks, and more. -/
def Ren.le (ρ ρ' : Ren) : Prop := ∀ b p, ρ b = some p → ρ' b = some p
theorem Ren.le_refl (ρ : Ren) : ρ.le ρ := fun _ _ h => h
theorem Ren.le_trans {a b c : Ren} (h : a.le b) (k : b.le c) : a.le c := fun x p hx => k x p (h x p hx)
mutual
theorem C.mono {ρ ρ' : Ren} (h : ρ.le ρ') : ∀ (x : C) (v : Value), x.real ρ = some v → x.real ρ' = some v
  | .sc v, w, e => e
  | .ptr b off, w, e => by
    simp only [C.real, Option.map_eq_some_iff] at e ⊢
    obtain ⟨p, hp, e⟩ := e
    exact ⟨p, h b p hp, e⟩
  | .slc b off len cap, w, e => by
    simp only [C.real, Option.map_eq_some_iff] at e ⊢
    obtain ⟨p, hp, e⟩ := e
    exact ⟨p, h b p hp, e⟩
  | .slu b off len cap, w, e => by
    simp only [C.real, Option.map_eq_some_iff] at e ⊢
    obtain ⟨p, hp, e⟩ := e
    exact ⟨p, h b p hp, e⟩
  | .sle b off lo l s, w, e => by
    simp only [C.real, Option.map_eq_some_iff] at e ⊢
    obtain ⟨p, hp, e⟩ := e
    exact ⟨p, h b p hp, e⟩
  | .fn f cs, w, e => by
    simp only [C.real, Option.map_eq_some_iff] at e ⊢
    obtain ⟨p, hp, e⟩ := e
    exact ⟨p, C.monos h cs p hp, e⟩
  | .mp b, w, e => by
    simp only [C.real, Option.map_eq_some_iff] at e ⊢
    obtain ⟨p, hp, e⟩ := e
    exact ⟨p, h b p hp, e⟩
theorem C.monos {ρ ρ' : Ren} (h : ρ.le ρ') : ∀ (l : List C) (v : List Value), C.reals ρ l = some v → C.reals ρ' l = some v
  | [], w, e => e
  | x :: l, w, e => by
    simp only [C.reals, Option.bind_eq_some_iff, Option.map_eq_some_iff] at e ⊢
    obtain ⟨v, hv, vs, hvs, e⟩ := e
    exact ⟨v, C.mono h x v hv, vs, C.monos h l vs hvs, e⟩
end
mutual
theorem V.mono {ρ ρ' : Ren} (h : ρ.le ρ') : ∀ (x : V) (v : Value), x.real ρ = some v → x.real ρ' = some v
  | .c x, w, e => C.mono h x w e
  | .agg l, w, e => by
    simp only [V.real, Option.map_eq_some_iff] at e ⊢
    obtain ⟨p, hp, e⟩ := e
    exact ⟨p, C.monos h l p hp, e⟩
  | .tup l, w, e => by
    simp only [V.real, Option.map_eq_some_iff] at e ⊢
    obtain ⟨p, hp, e⟩ := e
    exact ⟨p, V.monos h l p hp, e⟩
theorem V.monos {ρ ρ' : Ren} (h : ρ.le ρ') : ∀ (l : List V) (v : List Value), V.reals ρ l = some v → V.reals ρ' l = some v
  | [], w, e => e
  | x :: l, w, e => by
    simp only [V.reals, Option.bind_eq_some_iff, Option.map_eq_some_iff] at e ⊢
    obtain ⟨v, hv, vs, hvs, e⟩ := e
    exact ⟨v, V.mono h x v hv, vs, V.monos h l vs hvs, e⟩
end
theorem C.reals_spec {ρ : Ren} : ∀ {l : List C} {vs : List Value}, C.reals ρ l = some vs → vs.length = l.length ∧ ∀ (i : Nat) (x : C), l[i]? = some x → ∃ v, x.real ρ = some v ∧ vs[i]? = some v
  | [], vs, h => by simp only [C.reals, Option.some.injEq] at h; subst h; exact ⟨rfl, fun i x hx => by simp at hx⟩
  | y :: l, vs, h => by
    simp only [C.reals, Option.bind_eq_some_iff, Option.map_eq_some_iff] at h
    obtain ⟨v, hv, vs', hvs, rfl⟩ := h
    obtain ⟨h1, h2⟩ := C.reals_spec hvs
    refine ⟨by simp [h1], fun i x hx => ?_⟩
    match i with
    | 0 => simp only [List.getElem?_cons_zero, Option.some.injEq] at hx; subst hx; exact ⟨v, hv, rfl⟩
    | i + 1 => rw [List.getElem?_cons_succ] at hx ⊢; exact h2 i x hx
theorem C.reals_of {ρ : Ren} : ∀ {l : List C} {vs : List Value}, vs.length = l.length → (∀ (i : Nat) (x : C), l[i]? = some x → ∃ v, x.real ρ = some v ∧ vs[i]? = some v) → C.reals ρ l = some vs
  | [], vs, h, _ => by rw [List.length_nil, List.length_eq_zero_iff] at h; subst h; rfl
  | y :: l, [], h, _ => by simp at h
  | y :: l, v :: vs, h, k => by
    obtain ⟨w, hw, e⟩ := k 0 y rfl
    simp only [List.getElem?_cons_zero, Option.some.injEq] at e
    subst e
    have := C.reals_of (l := l) (vs := vs) (by simpa using h) (fun i x hx => by have := k (i + 1) x (by rwa [List.getElem?_cons_succ]); rwa [List.getElem?_cons_succ] at this)
    simp only [C.reals, hw, this, Option.bind_some, Option.map_some]
theorem C.reals_sc (ρ : Ren) (l : List Value) : C.reals ρ (l.map .sc) = some l := by
  induction l with
  | nil => rfl
  | cons x l ih => simp only [List.map_cons, C.reals, C.real, ih, Option.bind_some, Option.map_some]
theorem C.reals_append {ρ : Ren} : ∀ {l m : List C} {vs ws : List Value}, C.reals ρ l = some vs → C.reals ρ m = some ws → C.reals ρ (l ++ m) = some (vs ++ ws)
  | [], m, vs, ws, h, k => by simp only [C.reals, Option.some.injEq] at h; subst h; simpa using k
  | y :: l, m, vs, ws, h, k => by
    simp only [C.reals, Option.bind_eq_some_iff, Option.map_eq_some_iff] at h
    obtain ⟨v, hv, vs', hvs, rfl⟩ := h
    simp only [List.cons_append, C.reals, hv, C.reals_append hvs k, Option.bind_some, Option.map_some]
/-- The cells of a value. -/
def V.cells : V → Option (List C)
  | .c x => some [x]
  | .agg l => some l
  | .tup _ => none
def C.flat : C → Bool
  | .sc (.agg _) => false
  | .sc (.tuple _) => false
  | _ => true
theorem C.flat_real {ρ : Ren} {x : C} {v : Value} (h : x.real ρ = some v) (hf : x.flat = true) : v.oneCell' = true := by
  cases x with
  | sc w => simp only [C.real, Option.some.injEq] at h; subst h; cases w <;> first | rfl | cases hf
  | _ => simp only [C.real, Option.map_eq_some_iff] at h; obtain ⟨p, _, rfl⟩ := h; rfl
theorem oneCell_cells {v : Value} (h : v.oneCell' = true) : v.cells = #[v] := by cases v <;> first | rfl | cases h
theorem C.flats_real {ρ : Ren} {l : List C} {vs : List Value} (h : C.reals ρ l = some vs) (hf : l.all C.flat = true) : ∀ v ∈ vs, v.oneCell' = true := by
  obtain ⟨h1, h2⟩ := C.reals_spec h
  intro v hv
  obtain ⟨i, hi, rfl⟩ := List.mem_iff_getElem.1 hv
  obtain ⟨w, hw, e⟩ := h2 i l[i] (List.getElem?_eq_getElem (by omega))
  rw [List.getElem?_eq_getElem hi] at e
  cases e
  exact C.flat_real hw (List.all_eq_true.1 hf _ (List.getElem_mem _))
theorem V.cells_real {ρ : Ren} {v : V} {w : Value} {l : List C} (h : v.real ρ = some w) (hc : v.cells = some l) (hf : l.all C.flat = true) : C.reals ρ l = some w.cells.toList := by
  cases v with
  | c x =>
    simp only [V.cells, Option.some.injEq] at hc
    subst hc
    simp only [List.all_cons, List.all_nil, Bool.and_true] at hf
    have e := oneCell_cells (C.flat_real h hf)
    rw [e]
    simp only [V.real] at h
    simp [C.reals, h]
  | agg m =>
    simp only [V.cells, Option.some.injEq] at hc
    subst hc
    simp only [V.real, Option.map_eq_some_iff] at h
    obtain ⟨vs, hvs, rfl⟩ := h
    simpa [Value.cells] using hvs
  | tup m => cases hc

/-! ### blocks -/
inductive Blk where
  | cells (elem n : Nat) (grow : Bool) (cs : T C)
  | map (es : List MapEntry) (clock : Nat)

/-- What a real block is, where it is told as blk. -/
def BlkR (P : Program) (ρ : Ren) (κ : Nat) : Blk → Option Obj → Prop
  | .cells elem n grow cs, o => ∃ arr fz, o = some (.cells arr elem fz) ∧ (fz = (0, 0) ∨ arr.size ≤ fz.1) ∧ (if grow then n ≤ arr.size ∧ ∃ i, P.info? elem = some i ∧ arr.size = κ * i.size else arr.size = n) ∧
      ∀ i, i < n → ∃ c v, cs.get i = some c ∧ c.flat = true ∧ c.real ρ = some v ∧ arr[i]? = some v
  | .map es clock, o => o = some (.map es.toArray clock)
theorem BlkR.mono {P : Program} {ρ ρ' : Ren} (h : ρ.le ρ') {κ : Nat} : ∀ {b : Blk} {o : Option Obj}, BlkR P ρ κ b o → BlkR P ρ' κ b o
  | .cells elem n grow cs, o, ⟨arr, fz, h1, h2, h3, h4⟩ => ⟨arr, fz, h1, h2, h3, fun i hi => let ⟨c, v, a, f, b, d⟩ := h4 i hi; ⟨c, v, a, f, C.mono h c v b, d⟩⟩
  | .map _ _, _, k => k
theorem BlkR.is {P : Program} {ρ : Ren} {κ : Nat} : ∀ {b : Blk} {o : Option Obj}, BlkR P ρ κ b o → ∃ x, o = some x
  | .cells _ _ _ _, _, ⟨_, _, h, _⟩ => ⟨_, h⟩
  | .map _ _, _, h => ⟨_, h⟩

abbrev Heap := Nat → Option Blk
structure Good (P : Program) (ρ : Ren) (h : Heap) (W : World) : Prop where
  at_ : ∀ b blk, h b = some blk → ∃ r κ, ρ b = some (r, κ) ∧ BlkR P ρ κ blk W.heap[r]?
  inj : ∀ b b' blk blk' r κ κ', h b = some blk → h b' = some blk' → ρ b = some (r, κ) → ρ b' = some (r, κ') → b = b'
def Owns (ρ : Ren) (h : Heap) (r : Nat) : Prop := ∃ b blk κ, h b = some blk ∧ ρ b = some (r, κ)
structure Keep (ρ : Ren) (h : Heap) (W : World) (ρ' : Ren) (h' : Heap) (W' : World) (n n' : Nat) : Prop where
  le : ρ.le ρ'
  new : ∀ b, ρ' b ≠ ρ b → n ≤ b ∧ b < n'
  frame : ∀ r, r < W.heap.size → ¬ Owns ρ h r → W'.heap[r]? = W.heap[r]?
  size : W.heap.size ≤ W'.heap.size
  owns : ∀ r, Owns ρ' h' r → W.heap.size ≤ r ∨ Owns ρ h r
  dom : ∀ b blk, h' b = some blk → (∃ blk', h b = some blk') ∨ (n ≤ b ∧ b < n')
  os : W'.os = W.os
  tape : W'.tape = W.tape
  output : W'.output = W.output
  num : n ≤ n'
theorem Keep.refl (ρ : Ren) (h : Heap) (W : World) (n : Nat) : Keep ρ h W ρ h W n n :=
  ⟨Ren.le_refl _, fun _ k => absurd rfl k, fun _ _ _ => rfl, Nat.le_refl _, fun _ k => .inr k, fun b blk k => .inl ⟨blk, k⟩, rfl, rfl, rfl, Nat.le_refl _⟩
theorem Keep.trans {ρ ρ₁ ρ₂ : Ren} {h h₁ h₂ : Heap} {W W₁ W₂ : World} {n n₁ n₂ : Nat} (a : Keep ρ h W ρ₁ h₁ W₁ n n₁) (b : Keep ρ₁ h₁ W₁ ρ₂ h₂ W₂ n₁ n₂) : Keep ρ h W ρ₂ h₂ W₂ n n₂ where
  le := Ren.le_trans a.le b.le
  new := fun x hx => by
    by_cases c : ρ₁ x = ρ x
    · have := b.new x (fun e => hx (e.trans c)); have := a.num; omega
    · have := a.new x c; have := b.num; omega
  frame := fun r hr hn => by
    rw [b.frame r (by have := a.size; omega) (fun c => by rcases a.owns r c with c | c; omega; exact hn c), a.frame r hr hn]
  size := Nat.le_trans a.size b.size
  owns := fun r hr => by
    rcases b.owns r hr with c | c
    · exact .inl (Nat.le_trans a.size c)
    · exact a.owns r c
  dom := fun x blk hx => by
    rcases b.dom x blk hx with ⟨y, hy⟩ | c
    · rcases a.dom x y hy with c | c
      · exact .inl c
      · exact .inr (by have := b.num; omega)
    · exact .inr (by have := a.num; omega)
  os := b.os.trans a.os
  tape := b.tape.trans a.tape
  output := b.output.trans a.output
  num := Nat.le_trans a.num b.num
/-- No block is named by the numbers from n on, up to m. -/
def Fresh (ρ : Ren) (n m : Nat) : Prop := ∀ b, n ≤ b → b < m → ρ b = none
theorem Fresh.sub {ρ : Ren} {n m n' m' : Nat} (h : Fresh ρ n m) (h1 : n ≤ n') (h2 : m' ≤ m) : Fresh ρ n' m' := fun b c d => h b (by omega) (by omega)
theorem Keep.fresh {ρ ρ' : Ren} {h h' : Heap} {W W' : World} {n n' m : Nat} (k : Keep ρ h W ρ' h' W' n n') (f : Fresh ρ n m) : Fresh ρ' n' m := fun b c d => by
  by_cases e : ρ' b = ρ b
  · rw [e]; exact f b (by have := k.num; omega) d
  · have := k.new b e; omega
/-- A drawing turns nothing of it. -/
theorem Good.of_heap {P : Program} {ρ : Ren} {h : Heap} {W W' : World} (g : Good P ρ h W) (e : W'.heap = W.heap) : Good P ρ h W' := ⟨fun b blk k => by rw [e]; exact g.at_ b blk k, g.inj⟩
theorem Keep.of_heap {ρ : Ren} {h : Heap} {W W' : World} (n : Nat) (e : W'.heap = W.heap) (e1 : W'.os = W.os) (e2 : W'.tape = W.tape) (e3 : W'.output = W.output) : Keep ρ h W ρ h W' n n :=
  ⟨Ren.le_refl _, fun _ k => absurd rfl k, fun _ _ _ => by rw [e], by rw [e]; exact Nat.le_refl _, fun _ k => .inr k, fun b blk k => .inl ⟨blk, k⟩, e1, e2, e3, Nat.le_refl _⟩
theorem Owns.lt {P : Program} {ρ : Ren} {h : Heap} {W : World} (g : Good P ρ h W) {r : Nat} (k : Owns ρ h r) : r < W.heap.size := by
  obtain ⟨b, blk, κ, hb, hr⟩ := k
  obtain ⟨r', κ', hr', hB⟩ := g.at_ b blk hb
  rw [hr] at hr'
  cases hr'
  obtain ⟨x, hx⟩ := hB.is
  exact (Array.getElem?_eq_some_iff.1 hx).1
end Go.Proofs.Ythablamjbikllaa.Run
