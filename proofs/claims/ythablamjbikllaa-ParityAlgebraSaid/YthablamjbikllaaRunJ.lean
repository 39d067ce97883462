/- A machine for closed calls: regions whose order is drawn. What the machine answers in the order of the text, Go answers in each order. -/
import Derived.Test.YthablamjbikllaaRunI
set_option linter.unusedVariables false
namespace Go.Proofs.Ythablamjbikllaa.Run
open Go.RowKit

theorem blt_true {a b : Nat} (h : a < b) : Nat.blt a b = true := Nat.ble_eq_true_of_le h
/-! ### tables that are copied -/
theorem get_delFrom : ∀ (n lo : Nat) (h : T Blk) (b : Nat), (delFrom h lo n).get b = if lo ≤ b ∧ b < lo + n then none else h.get b
  | 0, lo, h, b => by simp only [delFrom]; rw [if_neg (by omega)]
  | n + 1, lo, h, b => by
    rw [delFrom, get_delFrom n, T.get_del]
    by_cases c : b = lo
    · subst c; rw [if_neg (by omega), if_pos rfl, if_pos (by omega)]
    · by_cases d : lo + 1 ≤ b ∧ b < lo + 1 + n
      · rw [if_pos d, if_pos (by omega)]
      · rw [if_neg d, if_neg c, if_neg (by omega)]
theorem get_backFrom (old : T Blk) : ∀ (n lo : Nat) (h : T Blk) (b : Nat), (backFrom h old lo n).get b = if lo ≤ b ∧ b < lo + n then (match old.get b with | some x => some x | none => h.get b) else h.get b
  | 0, lo, h, b => by simp only [backFrom]; rw [if_neg (by omega)]
  | n + 1, lo, h, b => by
    rw [backFrom, get_backFrom old n]
    have e : ∀ b, (orPut h h lo (old.get lo)).get b = if b = lo then (match old.get b with | some x => some x | none => h.get b) else h.get b := fun b => by
      cases ho : old.get lo with
      | none =>
        by_cases c : b = lo
        · subst c; rw [if_pos rfl, ho]; rfl
        · rw [if_neg c]; rfl
      | some x =>
        simp only [orPut, T.get_put]
        by_cases c : b = lo
        · subst c; rw [if_pos rfl, if_pos rfl, ho]
        · rw [if_neg c, if_neg c]
    rw [e]
    by_cases c : b = lo
    · subst c; rw [if_neg (by omega), if_pos rfl, if_pos (by omega)]
    · by_cases d : lo + 1 ≤ b ∧ b < lo + 1 + n
      · rw [if_pos d, if_neg c, if_pos (by omega)]
      · rw [if_neg d, if_neg c, if_neg (by omega)]
theorem get_copyFrom (new : T Blk) : ∀ (n lo : Nat) (h : T Blk) (b : Nat), (copyFrom h new lo n).get b = if lo ≤ b ∧ b < lo + n then new.get b else h.get b
  | 0, lo, h, b => by simp only [copyFrom]; rw [if_neg (by omega)]
  | n + 1, lo, h, b => by
    rw [copyFrom, get_copyFrom new n]
    have e : ∀ b, (orPut h (h.del lo) lo (new.get lo)).get b = if b = lo then new.get b else h.get b := fun b => by
      cases ho : new.get lo with
      | none =>
        simp only [orPut, T.get_del]
        by_cases c : b = lo
        · subst c; rw [if_pos rfl, if_pos rfl, ho]
        · rw [if_neg c, if_neg c]
      | some x =>
        simp only [orPut, T.get_put]
        by_cases c : b = lo
        · subst c; rw [if_pos rfl, if_pos rfl, ho]
        · rw [if_neg c, if_neg c]
    rw [e]
    by_cases c : b = lo
    · subst c; rw [if_neg (by omega), if_pos rfl, if_pos (by omega)]
    · by_cases d : lo + 1 ≤ b ∧ b < lo + 1 + n
      · rw [if_pos d, if_pos (by omega)]
      · rw [if_neg d, if_neg c, if_neg (by omega)]
/-- Blocks of operations that are not ahead. -/
noncomputable def Hid1 (mask : Nat) (infs : List Inf) (b : Nat) : Prop := ∃ x ∈ infs, Nat.testBit mask x.at_ = false ∧ x.lo ≤ b ∧ b < x.hi
theorem get_hide (mask : Nat) : ∀ (infs : List Inf) (h : T Blk) (b : Nat), (Hid1 mask infs b → (hide mask infs h).get b = none) ∧ (¬ Hid1 mask infs b → (hide mask infs h).get b = h.get b)
  | [], h, b => ⟨fun ⟨x, hx, _⟩ => absurd hx (by simp), fun _ => rfl⟩
  | x :: l, h, b => by
    unfold hide
    cases hm : Nat.testBit mask x.at_ with
    | true =>
      obtain ⟨i1, i2⟩ := get_hide mask l h b
      have e : Hid1 mask (x :: l) b ↔ Hid1 mask l b := ⟨fun ⟨y, hy, h1, h2⟩ => by
        rcases List.mem_cons.1 hy with rfl | hy
        · rw [hm] at h1; cases h1
        · exact ⟨y, hy, h1, h2⟩, fun ⟨y, hy, h1⟩ => ⟨y, List.mem_cons_of_mem _ hy, h1⟩⟩
      exact ⟨fun k => i1 (e.1 k), fun k => i2 (fun c => k (e.2 c))⟩
    | false =>
      obtain ⟨i1, i2⟩ := get_hide mask l (delFrom h x.lo (x.hi - x.lo)) b
      simp only [cond_false]
      refine ⟨fun k => ?_, fun k => ?_⟩
      · by_cases c : Hid1 mask l b
        · exact i1 c
        · rw [i2 c, get_delFrom]
          obtain ⟨y, hy, h1, h2⟩ := k
          rcases List.mem_cons.1 hy with rfl | hy
          · rw [if_pos (by omega)]
          · exact absurd ⟨y, hy, h1, h2⟩ c
      · rw [i2 (fun ⟨y, hy, h1⟩ => k ⟨y, List.mem_cons_of_mem _ hy, h1⟩), get_delFrom, if_neg]
        intro c
        exact k ⟨x, List.mem_cons_self, hm, by omega⟩
theorem get_unhide (mask : Nat) (old : T Blk) : ∀ (infs : List Inf) (h : T Blk) (b : Nat), (Hid1 mask infs b → (unhide mask old infs h).get b = match old.get b with | some x => some x | none => h.get b) ∧ (¬ Hid1 mask infs b → (unhide mask old infs h).get b = h.get b)
  | [], h, b => ⟨fun ⟨x, hx, _⟩ => absurd hx (by simp), fun _ => rfl⟩
  | x :: l, h, b => by
    unfold unhide
    cases hm : Nat.testBit mask x.at_ with
    | true =>
      obtain ⟨i1, i2⟩ := get_unhide mask old l h b
      have e : Hid1 mask (x :: l) b ↔ Hid1 mask l b := ⟨fun ⟨y, hy, h1, h2⟩ => by
        rcases List.mem_cons.1 hy with rfl | hy
        · rw [hm] at h1; cases h1
        · exact ⟨y, hy, h1, h2⟩, fun ⟨y, hy, h1⟩ => ⟨y, List.mem_cons_of_mem _ hy, h1⟩⟩
      exact ⟨fun k => i1 (e.1 k), fun k => i2 (fun c => k (e.2 c))⟩
    | false =>
      obtain ⟨i1, i2⟩ := get_unhide mask old l (backFrom h old x.lo (x.hi - x.lo)) b
      simp only [cond_false]
      refine ⟨fun k => ?_, fun k => ?_⟩
      · by_cases c : Hid1 mask l b
        · rw [i1 c, get_backFrom]
          cases old.get b with
          | some y => rfl
          | none => simp only; split <;> rfl
        · rw [i2 c, get_backFrom]
          obtain ⟨y, hy, h1, h2⟩ := k
          rcases List.mem_cons.1 hy with rfl | hy
          · rw [if_pos (by omega)]
          · exact absurd ⟨y, hy, h1, h2⟩ c
      · rw [i2 (fun ⟨y, hy, h1⟩ => k ⟨y, List.mem_cons_of_mem _ hy, h1⟩), get_backFrom, if_neg]
        intro c
        exact k ⟨x, List.mem_cons_self, hm, by omega⟩

/-! ### what one operation sees, and what it writes -/
noncomputable def Sees (f : Foot) (mask : Nat) (infs : List Inf) (b : Nat) : Prop := match f with
  | .no => False
  | .few l => b ∈ l
  | .all => ¬ Hid1 mask infs b
theorem get_sightF (h : T Blk) : ∀ (l : List Nat) (b : Nat), (b ∈ l → (sightF h l).get b = h.get b) ∧ (¬ b ∈ l → (sightF h l).get b = none)
  | [], b => ⟨fun k => (by cases k), fun _ => rfl⟩
  | c :: l, b => by
    obtain ⟨i1, i2⟩ := get_sightF h l b
    have e : (sightF h (c :: l)).get b = if b = c then (match h.get b with | some x => some x | none => (sightF h l).get b) else (sightF h l).get b := by
      simp only [sightF]
      cases hc : h.get c with
      | none =>
        simp only [orPut]
        by_cases d : b = c
        · subst d; rw [if_pos rfl, hc]
        · rw [if_neg d]
      | some x =>
        simp only [orPut, T.get_put]
        by_cases d : b = c
        · subst d; rw [if_pos rfl, if_pos rfl, hc]
        · rw [if_neg d, if_neg d]
    rw [e]
    refine ⟨fun k => ?_, fun k => ?_⟩
    · by_cases d : b = c
      · rw [if_pos d]
        cases hb : h.get b with
        | some x => rfl
        | none =>
          simp only
          by_cases m : b ∈ l
          · rw [i1 m, hb]
          · exact i2 m
      · rw [if_neg d]
        rcases List.mem_cons.1 k with k | k
        · exact absurd k d
        · exact i1 k
    · rw [if_neg (fun d => k (by rw [d]; exact List.mem_cons_self))]
      exact i2 (fun m => k (List.mem_cons_of_mem _ m))
theorem get_mergeF (old new : T Blk) : ∀ (l : List Nat) (b : Nat), (b ∈ l → (mergeF old new l).get b = new.get b) ∧ (¬ b ∈ l → (mergeF old new l).get b = old.get b)
  | [], b => ⟨fun k => (by cases k), fun _ => rfl⟩
  | c :: l, b => by
    obtain ⟨i1, i2⟩ := get_mergeF old new l b
    have e : (mergeF old new (c :: l)).get b = if b = c then new.get b else (mergeF old new l).get b := by
      simp only [mergeF]
      cases hc : new.get c with
      | none =>
        simp only [orPut, T.get_del]
        by_cases d : b = c
        · subst d; rw [if_pos rfl, if_pos rfl, hc]
        · rw [if_neg d, if_neg d]
      | some x =>
        simp only [orPut, T.get_put]
        by_cases d : b = c
        · subst d; rw [if_pos rfl, if_pos rfl, hc]
        · rw [if_neg d, if_neg d]
    rw [e]
    refine ⟨fun k => ?_, fun k => ?_⟩
    · by_cases d : b = c
      · rw [if_pos d]
      · rw [if_neg d]
        rcases List.mem_cons.1 k with k | k
        · exact absurd k d
        · exact i1 k
    · rw [if_neg (fun d => k (by rw [d]; exact List.mem_cons_self))]
      exact i2 (fun m => k (List.mem_cons_of_mem _ m))
theorem get_sight (f : Foot) (mask : Nat) (infs : List Inf) (h : T Blk) (b : Nat) : (Sees f mask infs b → (sight f mask infs h).get b = h.get b) ∧ (¬ Sees f mask infs b → (sight f mask infs h).get b = none) := by
  cases f with
  | no => exact ⟨fun k => k.elim, fun _ => rfl⟩
  | few l =>
    simp only [Sees, sight]
    exact get_sightF h l b
  | all =>
    simp only [Sees, sight]
    exact ⟨fun k => (get_hide mask infs h b).2 k, fun k => (get_hide mask infs h b).1 (Classical.not_not.1 k)⟩
/-- The blocks that an operation writes. -/
noncomputable def Writes (f : Foot) (mask : Nat) (infs : List Inf) (wr : Bool) (lo hi b : Nat) : Prop := (wr = true ∧ Sees f mask infs b ∧ b < lo) ∨ (lo ≤ b ∧ b < hi)
theorem get_merge {f : Foot} {mask : Nat} {infs : List Inf} {st st' : St} {n : Nat} (hd : DomLt st.heap st.next) (hidden : ∀ x ∈ infs, x.hi ≤ st.next)
    (hl : Low ⟨sight f mask infs st.heap, st.next, st.next⟩ st') (b : Nat) :
    (Writes f mask infs (Nat.blt st'.low st.next) st.next st'.next b → (merge f mask infs st.heap st'.heap st.next st'.next).get b = st'.heap.get b) ∧
    (¬ Writes f mask infs (Nat.blt st'.low st.next) st.next st'.next b → (merge f mask infs st.heap st'.heap st.next st'.next).get b = st.heap.get b) := by
  have num : st.next ≤ st'.next := hl.num
  -- outside its sight nothing stands
  have out : ∀ b, ¬ Sees f mask infs b → ¬ (st.next ≤ b ∧ b < st'.next) → st'.heap.get b = none := fun b h1 h2 => by
    cases e : st'.heap.get b with
    | none => rfl
    | some x =>
      rcases hl.dom b x e with ⟨y, hy⟩ | c
      · rw [(get_sight f mask infs st.heap b).2 h1] at hy; cases hy
      · exact absurd c h2
  have far : ∀ b, st'.next ≤ b → st'.heap.get b = none ∧ st.heap.get b = none := fun b h => by
    have e2 : st.heap.get b = none := by
      cases e : st.heap.get b with
      | none => rfl
      | some x => have := hd b x e; omega
    refine ⟨?_, e2⟩
    by_cases c : Sees f mask infs b
    · cases e : st'.heap.get b with
      | none => rfl
      | some x =>
        rcases hl.dom b x e with ⟨y, hy⟩ | c2
        · rw [(get_sight f mask infs st.heap b).1 c, e2] at hy; cases hy
        · omega
    · exact out b c (by omega)
  -- what is seen, and not written, is as it was
  have keep : ∀ b, Sees f mask infs b → b < st.next → Nat.blt st'.low st.next = false → st'.heap.get b = st.heap.get b := fun b h1 h2 h3 => by
    have h3 : ¬ st'.low < st.next := fun c => by rw [blt_true c] at h3; cases h3
    rw [hl.same b (by omega) h2]
    exact (get_sight f mask infs st.heap b).1 h1
  -- the table itself
  have val : ((Sees f mask infs b ∨ (st.next ≤ b ∧ b < st'.next)) → (merge f mask infs st.heap st'.heap st.next st'.next).get b = st'.heap.get b) ∧ (¬ Sees f mask infs b → ¬ (st.next ≤ b ∧ b < st'.next) → (merge f mask infs st.heap st'.heap st.next st'.next).get b = st.heap.get b) := by
    cases f with
    | no =>
      simp only [merge, get_copyFrom]
      refine ⟨fun k => ?_, fun _ k => ?_⟩
      · rcases k with k | k
        · exact k.elim
        · rw [if_pos (by omega)]
      · rw [if_neg (by omega)]
    | few l =>
      simp only [merge, get_copyFrom]
      obtain ⟨e1, e2⟩ := get_mergeF st.heap st'.heap l b
      simp only [Sees]
      refine ⟨fun k => ?_, fun k1 k2 => ?_⟩
      · by_cases d : st.next ≤ b ∧ b < st.next + (st'.next - st.next)
        · rw [if_pos d]
        · rw [if_neg d]
          rcases k with k | k
          · exact e1 k
          · omega
      · rw [if_neg (by omega), e2 k1]
    | all =>
      simp only [merge, Sees]
      obtain ⟨u1, u2⟩ := get_unhide mask st.heap infs st'.heap b
      refine ⟨fun k => ?_, fun k1 k2 => ?_⟩
      · rcases k with k | k
        · exact u2 k
        · refine u2 fun ⟨x, hx, _, _, h3⟩ => ?_
          have := hidden x hx
          omega
      · have k1 := Classical.not_not.1 k1
        rw [u1 k1]
        cases ho : st.heap.get b with
        | some x => rfl
        | none => exact out b (fun c => c k1) k2
  refine ⟨fun k => ?_, fun k => ?_⟩
  · rcases k with ⟨_, k, _⟩ | k
    · exact val.1 (.inl k)
    · exact val.1 (.inr k)
  · by_cases c : Sees f mask infs b
    · rw [val.1 (.inl c)]
      by_cases d : b < st.next
      · refine keep b c d ?_
        cases hw : Nat.blt st'.low st.next with
        | false => rfl
        | true => exact absurd (.inl ⟨hw, c, d⟩) k
      · by_cases d2 : b < st'.next
        · exact absurd (.inr ⟨by omega, d2⟩) k
        · rw [(far b (by omega)).1, (far b (by omega)).2]
    · exact val.2 c (fun d => k (.inr d))

theorem sight_dom {f : Foot} {mask : Nat} {infs : List Inf} {h : T Blk} {n : Nat} (hd : DomLt h n) : DomLt (sight f mask infs h) n := fun b x hx => by
  by_cases c : Sees f mask infs b
  · rw [(get_sight f mask infs h b).1 c] at hx; exact hd b x hx
  · rw [(get_sight f mask infs h b).2 c] at hx; cases hx
/-! ### who wrote last -/
/-- Of operations (the last one ahead): what the last one of S that writes has written. -/
noncomputable def lw {β X : Type} (S : Nat → Bool) (w : β → Option X) (x0 : X) : List β → X
  | [] => x0
  | r :: rs => bif S rs.length then (match w r with | some x => x | none => lw S w x0 rs) else lw S w x0 rs
/-- r stands at place k. -/
noncomputable def Stands {β : Type} : List β → Nat → β → Prop
  | [], _, _ => False
  | r :: rs, k, x => (k = rs.length ∧ x = r) ∨ Stands rs k x
theorem Stands.lt {β : Type} : ∀ {rs : List β} {k : Nat} {x : β}, Stands rs k x → k < rs.length
  | r :: rs, k, x, h => by
    rcases h with ⟨rfl, _⟩ | h
    · simp
    · have := h.lt; simp; omega
theorem Stands.uniq {β : Type} : ∀ {rs : List β} {k : Nat} {x y : β}, Stands rs k x → Stands rs k y → x = y
  | r :: rs, k, x, y, h, h' => by
    rcases h with ⟨e, rfl⟩ | h <;> rcases h' with ⟨e', rfl⟩ | h'
    · rfl
    · have := h'.lt; omega
    · have := h.lt; omega
    · exact h.uniq h'
theorem Stands.ex {β : Type} : ∀ {rs : List β} {k : Nat}, k < rs.length → ∃ x, Stands rs k x
  | [], k, h => absurd h (by simp)
  | r :: rs, k, h => by
    by_cases c : k = rs.length
    · exact ⟨r, .inl ⟨c, rfl⟩⟩
    · obtain ⟨x, hx⟩ := Stands.ex (rs := rs) (k := k) (by simp at h; omega)
      exact ⟨x, .inr hx⟩
theorem Stands.getElem {β : Type} : ∀ {rs : List β} {k : Nat} {x : β}, Stands rs k x → rs[rs.length - 1 - k]? = some x
  | r :: rs, k, x, h => by
    rcases h with ⟨rfl, rfl⟩ | h
    · simp
    · have := h.lt
      rw [show (r :: rs).length - 1 - k = (rs.length - 1 - k) + 1 by simp; omega, List.getElem?_cons_succ]
      exact h.getElem
theorem Stands.of_getElem {β : Type} : ∀ {rs : List β} {k : Nat} {x : β}, k < rs.length → rs[rs.length - 1 - k]? = some x → Stands rs k x
  | [], k, x, h, _ => absurd h (by simp)
  | r :: rs, k, x, h, e => by
    by_cases c : k = rs.length
    · subst c
      simp at e
      exact .inl ⟨rfl, e.symm⟩
    · simp at h
      rw [show (r :: rs).length - 1 - k = (rs.length - 1 - k) + 1 by simp; omega, List.getElem?_cons_succ] at e
      exact .inr (Stands.of_getElem (by omega) e)
theorem Stands.mem {β : Type} : ∀ {rs : List β} {x : β}, x ∈ rs → ∃ k, Stands rs k x
  | r :: rs, x, h => by
    rcases List.mem_cons.1 h with rfl | h
    · exact ⟨rs.length, .inl ⟨rfl, rfl⟩⟩
    · obtain ⟨k, hk⟩ := Stands.mem h
      exact ⟨k, .inr hk⟩
theorem lw_congr {β X : Type} {S S' : Nat → Bool} {w : β → Option X} {x0 : X} : ∀ {rs : List β}, (∀ k r, Stands rs k r → w r ≠ none → S k = S' k) → lw S w x0 rs = lw S' w x0 rs
  | [], _ => rfl
  | r :: rs, h => by
    have ih := lw_congr (rs := rs) (x0 := x0) fun k x hx => h k x (.inr hx)
    simp only [lw, ih]
    cases hw : w r with
    | none => cases S rs.length <;> cases S' rs.length <;> rfl
    | some x => rw [h rs.length r (.inl ⟨rfl, rfl⟩) (by rw [hw]; simp)]
theorem lw_add {β X : Type} {S : Nat → Bool} {w : β → Option X} {x0 : X} {k : Nat} (hk : S k = false) : ∀ {rs : List β} {r : β}, Stands rs k r → (∀ j x, Stands rs j x → k < j → S j = true → w x = none ∨ w r = none) →
    lw (fun i => Nat.beq i k || S i) w x0 rs = match w r with | some x => x | none => lw S w x0 rs
  | y :: rs, r, h, hj => by
    rcases h with ⟨e, rfl⟩ | h
    · have e1 : lw (fun i => Nat.beq i k || S i) w x0 rs = lw S w x0 rs := lw_congr fun j x hx _ => by
        have := hx.lt
        have : Nat.beq j k = false := by cases q : Nat.beq j k; rfl; have := beq_of q; omega
        simp [this]
      simp only [lw, e1]
      rw [← e, hk, Nat.beq_refl]
      rfl
    · have ih := lw_add (x0 := x0) hk h (fun j x hx => hj j x (.inr hx))
      have hlt := h.lt
      have e0 : Nat.beq rs.length k = false := by cases q : Nat.beq rs.length k; rfl; have := beq_of q; omega
      simp only [lw, ih, e0, Bool.false_or]
      cases hs : S rs.length with
      | false => rfl
      | true =>
        simp only [cond_true]
        rcases hj rs.length y (.inl ⟨rfl, rfl⟩) hlt hs with c | c
        · rw [c]
        · rw [c]
theorem lw_all {β X : Type} {w : β → Option X} {x0 : X} (r : β) (rs : List β) : lw (fun _ => true) w x0 (r :: rs) = match w r with | some x => x | none => lw (fun _ => true) w x0 rs := rfl
theorem lw_none {β X : Type} {w : β → Option X} {x0 : X} : ∀ rs : List β, lw (fun _ => false) w x0 rs = x0
  | [] => rfl
  | r :: rs => by simp only [lw, cond_false]; exact lw_none rs
/-- Ahead of a place: the list behind it. -/
inductive Tail {β : Type} : List β → β → List β → Prop
  | here (r : β) (rs : List β) : Tail (r :: rs) r rs
  | there {y r : β} {rs pre : List β} : Tail rs r pre → Tail (y :: rs) r pre
theorem Stands.tail {β : Type} : ∀ {rs : List β} {k : Nat} {x : β}, Stands rs k x → ∃ pre, Tail rs x pre ∧ pre.length = k
  | r :: rs, k, x, h => by
    rcases h with ⟨rfl, rfl⟩ | h
    · exact ⟨rs, .here _ _, rfl⟩
    · obtain ⟨pre, h1, h2⟩ := h.tail
      exact ⟨pre, .there h1, h2⟩
theorem Tail.stands {β : Type} {rs pre : List β} {x : β} (h : Tail rs x pre) : Stands rs pre.length x := by
  induction h with
  | here r rs => exact .inl ⟨rfl, rfl⟩
  | there _ ih => exact .inr ih
theorem Tail.sub {β : Type} {rs pre : List β} {x : β} (h : Tail rs x pre) {j : Nat} {y : β} : Stands pre j y → Stands rs j y := by
  induction h with
  | here r rs => exact fun k => .inr k
  | there _ ih => exact fun k => .inr (ih k)
theorem Tail.down {β : Type} {rs pre : List β} {x : β} (h : Tail rs x pre) {j : Nat} {y : β} (hj : j < pre.length) : Stands rs j y → Stands pre j y := by
  induction h with
  | here r rs => intro k; rcases k with ⟨e, _⟩ | k; omega; exact k
  | there t ih => intro k; rcases k with ⟨e, _⟩ | k; (have := t.stands.lt; omega); exact ih hj k
theorem lw_tail {β X : Type} {w : β → Option X} {x0 : X} {rs pre : List β} {x : β} (h : Tail rs x pre) : lw (fun i => Nat.blt i pre.length) w x0 rs = lw (fun _ => true) w x0 pre := by
  induction h with
  | here r rs =>
    have e0 : Nat.blt rs.length rs.length = false := by cases q : Nat.blt rs.length rs.length; rfl; have := blt_of q; omega
    simp only [lw, e0, cond_false]
    exact lw_congr fun k r hk _ => by have := hk.lt; simp [blt_true this]
  | there t ih =>
    rename_i y r rs pre
    have := t.stands.lt
    have e0 : Nat.blt rs.length pre.length = false := by cases q : Nat.blt rs.length pre.length; rfl; have := blt_of q; omega
    simp only [lw, e0, cond_false]
    exact ih
end Go.Proofs.Ythablamjbikllaa.Run
