/- A machine for closed calls: single operations answer in Go what the machine says (values, reads, parts). -/
import Derived.Test.YthablamjbikllaaRunC
set_option linter.unusedVariables false
namespace Go.Proofs.Ythablamjbikllaa.Run
open Go.RowKit

/-! ### what Go's own words come to -/
theorem run_zero {P : Program} {t : TypeId} {z : List Value} (h : zeroV P t = some z) (W : World) : ∃ v, (zeroValue t).run P W = .ok v W ∧ v.cells.toList = z ∧ ∃ i, P.info? t = some i ∧ i.zero = some v := by
  unfold zeroV at h
  split at h
  · rename_i i hi
    split at h
    · rename_i v hv
      simp only [Option.some.injEq] at h
      refine ⟨v, ?_, h, i, hi, hv⟩
      simp [zeroValue, typeInfo, hi, hv]
    · cases h
  · cases h
theorem run_size {P : Program} {t : TypeId} {n : Nat} (h : sizeP P t = some n) (W : World) : (sizeOf t).run P W = .ok n W := by
  unfold sizeP at h
  split at h
  · rename_i i hi
    simp only [Option.some.injEq] at h
    simp [sizeOf, typeInfo, hi, h]
  · cases h
theorem run_under {P : Program} {t : TypeId} {d : TypeDesc} (h : P.underlying t = some d) (W : World) : (underlying t).run P W = .ok d W := by
  simp [underlying, h]
theorem run_isAgg {P : Program} {t : TypeId} {d : TypeDesc} (h : P.underlying t = some d) (W : World) : (isAgg t).run P W = .ok (aggB d) W := by
  unfold isAgg
  simp only [Sem.run_bind, run_under h, Result.andThen_ok]
  cases d <;> rfl
theorem nat?_spec {g : Env} {x : Operand} {n : Nat} (h : nat? g x = some n) : ∃ k, g x = some (.c (.sc (.int k n))) := by
  unfold nat? at h
  split at h
  · rename_i k m hk
    simp only [Option.some.injEq] at h
    subst h
    exact ⟨k, hk⟩
  · cases h

/-- The operands are told. -/
def Tells (ρ : Ren) (g : Env) (e : Operand → Value) (xs : List Operand) : Prop := ∀ x ∈ xs, ∀ u, g x = some u → u.real ρ = some (e x)
theorem Tells.nat {ρ : Ren} {g : Env} {e : Operand → Value} {xs : List Operand} (h : Tells ρ g e xs) {x : Operand} (hx : x ∈ xs) {n : Nat} (hn : nat? g x = some n) : ∃ k, e x = .int k n := by
  obtain ⟨k, hk⟩ := nat?_spec hn
  have := h x hx _ hk
  simp only [V.real, C.real, Option.some.injEq] at this
  exact ⟨k, this.symm⟩
/-- The machine's answer is Go's. -/
def OpOK (P : Program) (g : Env) (st st' : St) (v : V) (o : Oper) : Prop :=
  ∀ ρ (A : Act) W, Tells ρ g A.eval o.op.operands.toList → Good P ρ st.heap.get W → Fresh ρ st.next st'.next →
    ∀ K Q, (∀ ρ' W' x, Keep ρ st.heap.get W ρ' st'.heap.get W' st.next st'.next → Good P ρ' st'.heap.get W' → v.real ρ' = some x → K (A.put o.dst x) W') → o.wp P A W K Q
/-- Only what stands in the number's reach has turned. -/
structure Low (st st' : St) : Prop where
  num : st.next ≤ st'.next
  low : st'.low ≤ st.low
  same : ∀ b, b < st'.low → b < st.next → st'.heap.get b = st.heap.get b
  dom : ∀ b x, st'.heap.get b = some x → (∃ y, st.heap.get b = some y) ∨ (st.next ≤ b ∧ b < st'.next)
theorem Low.refl (st : St) : Low st st := ⟨Nat.le_refl _, Nat.le_refl _, fun _ _ _ => rfl, fun _ x h => .inl ⟨x, h⟩⟩
theorem Low.trans {a b c : St} (h : Low a b) (k : Low b c) : Low a c :=
  ⟨Nat.le_trans h.num k.num, Nat.le_trans k.low h.low, fun x h1 h2 => by
    have := h.num; have := k.low
    rw [k.same x h1 (by omega), h.same x (by omega) h2], fun x y hx => by
    have := h.num; have := k.num
    rcases k.dom x y hx with ⟨z, hz⟩ | c
    · rcases h.dom x z hz with c | c
      · exact .inl c
      · exact .inr (by omega)
    · exact .inr (by omega)⟩
def DomLt (h : T Blk) (n : Nat) : Prop := ∀ b x, h.get b = some x → b < n
theorem Low.domLt {a b : St} (h : Low a b) (k : DomLt a.heap a.next) : DomLt b.heap b.next := fun x y hx => by
  have := h.num
  rcases h.dom x y hx with ⟨z, hz⟩ | c
  · have := k x z hz; omega
  · exact c.2
theorem Low.new (st : St) (blk : Blk) : Low st (st.new blk) := ⟨by simp [St.new], Nat.le_refl _, fun b _ hb => by simp only [St.new, T.get_put]; rw [if_neg (by omega)], fun b x hx => by
  simp only [St.new, T.get_put] at hx ⊢
  by_cases c : b = st.next
  · exact .inr (by omega)
  · rw [if_neg c] at hx; exact .inl ⟨x, hx⟩⟩
theorem low_min (a b : Nat) : (bif Nat.ble a b then a else b) ≤ a ∧ (bif Nat.ble a b then a else b) ≤ b := by
  cases h : Nat.ble a b
  · simp only [cond_false]
    have : ¬ a ≤ b := fun c => by rw [Nat.ble_eq_true_of_le c] at h; cases h
    omega
  · simp only [cond_true]
    have := Nat.le_of_ble_eq_true h
    omega
theorem Low.wr (st : St) (b : Nat) (blk : Blk) {y : Blk} (hb : st.heap.get b = some y) : Low st (st.wr b blk) := ⟨Nat.le_refl _, (low_min _ _).1, fun x h1 _ => by
  simp only [St.wr, T.get_put] at h1 ⊢
  have := (low_min st.low b).2
  rw [if_neg (by omega)], fun x z hx => by
  simp only [St.wr, T.get_put] at hx ⊢
  by_cases c : x = b
  · subst c; exact .inl ⟨y, hb⟩
  · rw [if_neg c] at hx; exact .inl ⟨z, hx⟩⟩

theorem OpOK.of_run {P : Program} {g : Env} {st st' : St} {v : V} {o : Oper}
    (h : ∀ ρ (A : Act) W, Tells ρ g A.eval o.op.operands.toList → Good P ρ st.heap.get W → Fresh ρ st.next st'.next → ∃ ρ' W' x, (execOp A.eval o).run P W = .ok (.value x) W' ∧ v.real ρ' = some x ∧ Good P ρ' st'.heap.get W' ∧ Keep ρ st.heap.get W ρ' st'.heap.get W' st.next st'.next) : OpOK P g st st' v o := by
  intro ρ A W ht hg hf K Q hk
  obtain ⟨ρ', W', x, h1, h2, h3, h4⟩ := h ρ A W ht hg hf
  simp only [Oper.wp, h1, Oper.upon_value]
  exact hk ρ' W' x h4 h3 h2
theorem OpOK.of_skip {P : Program} {g : Env} {st st' : St} {o : Oper}
    (h : ∀ ρ (A : Act) W, Tells ρ g A.eval o.op.operands.toList → Good P ρ st.heap.get W → Fresh ρ st.next st'.next → ∃ ρ' W', (execOp A.eval o).run P W = .ok .skip W' ∧ Good P ρ' st'.heap.get W' ∧ Keep ρ st.heap.get W ρ' st'.heap.get W' st.next st'.next) : OpOK P g st st' (.tup []) o := by
  intro ρ A W ht hg hf K Q hk
  obtain ⟨ρ', W', h1, h3, h4⟩ := h ρ A W ht hg hf
  simp only [Oper.wp, h1, Oper.upon_skip]
  exact hk ρ' W' _ h4 h3 rfl
theorem OpOK.still {P : Program} {g : Env} {st : St} {v : V} {o : Oper}
    (h : ∀ ρ (A : Act) W, Tells ρ g A.eval o.op.operands.toList → Good P ρ st.heap.get W → ∃ x, (execOp A.eval o).run P W = .ok (.value x) W ∧ v.real ρ = some x) : OpOK P g st st v o :=
  .of_run fun ρ A W ht hg _ => let ⟨x, h1, h2⟩ := h ρ A W ht hg; ⟨ρ, W, x, h1, h2, hg, Keep.refl _ _ _ _⟩
theorem withSt_spec {st : St} {x : Option V} {v : V} {st' : St} (h : withSt st x = some (v, st')) : x = some v ∧ st' = st := by
  cases x with
  | none => cases h
  | some y => simp only [withSt, Option.some.injEq, Prod.mk.injEq] at h; exact ⟨by rw [h.1], h.2.symm⟩
theorem orV_spec {x y : Option V} {v : V} (h : orV x y = some v) : x = some v ∨ y = some v := by
  cases x with
  | none => exact .inr h
  | some w => exact .inl h

theorem closed_ok {P : Program} {g : Env} {o : Oper} {v : V} (h : closedV P g o = some v) {ρ : Ren} {e : Operand → Value} (ht : Tells ρ g e o.op.operands.toList) :
    ∃ x, (∀ W, (execOp e o).run P W = .ok (.value x) W) ∧ v.real ρ = some x := by
  unfold closedV at h
  split at h
  · cases h
  · rename_i hns
    cases hall : o.op.operands.toList.all (valIs g) with
    | false => rw [hall] at h; cases h
    | true =>
      rw [hall] at h
      simp only [cond_true] at h
      split at h
      · rename_i x hx
        simp only [Option.some.injEq] at h
        subst h
        refine ⟨x, fun W => ?_, V.of_real x ρ⟩
        have hc := execOp_congr (ρ := e) (ρ' := fun x => match g x with | some v => (match v.val with | some w => w | none => undef) | none => undef) o (fun cs b hh => hns cs b hh) (fun x hx => by
          have h1 := List.all_eq_true.1 hall x (by simpa using hx)
          have h2 := ht x (by simpa using hx)
          show e x = valOf g x
          unfold valIs at h1
          unfold valOf
          cases hgx : g x with
          | none => rw [hgx] at h1; cases h1
          | some u =>
            rw [hgx] at h1
            simp only at h1 ⊢
            obtain ⟨w, hw⟩ := Option.isSome_iff_exists.1 h1
            rw [hw]
            have h3 := h2 u hgx
            rw [V.val_real hw ρ] at h3
            exact (Option.some.inj h3).symm)
        rw [hc]
        exact pureRun_run hx W
      · cases h
theorem closed_OpOK {P : Program} {g : Env} {o : Oper} {v : V} (h : closedV P g o = some v) (st : St) : OpOK P g st st v o :=
  .still fun ρ A W ht _ => let ⟨x, h1, h2⟩ := closed_ok h ht; ⟨x, h1 W, h2⟩

theorem run_val {P : Program} {s : Sem Value} {x : Value} {W W' : World} (h : s.run P W = .ok x W') : (do pure (Next.value (← s)) : Sem Next).run P W = .ok (.value x) W' := by
  simp [h]
theorem run_unit {P : Program} {s : Sem Unit} {W W' : World} (h : s.run P W = .ok () W') : (do s; pure Next.skip : Sem Next).run P W = .ok .skip W' := by
  simp [h]

/-! ### new blocks -/
theorem blk_new {P : Program} {ρ : Ren} {l : List C} {vs : List Value} (hl : C.reals ρ l = some vs) (hf : l.all C.flat = true) (elem κ : Nat) :
    BlkR P ρ κ (.cells elem l.length false (T.lay l 0 .leaf)) (some (.cells vs.toArray elem (0, 0))) := by
  obtain ⟨h1, h2⟩ := C.reals_spec hl
  refine ⟨vs.toArray, (0, 0), rfl, .inl rfl, by simp [h1], fun i hi => ?_⟩
  obtain ⟨v, e1, e2⟩ := h2 i l[i] (List.getElem?_eq_getElem hi)
  refine ⟨l[i], v, ?_, List.all_eq_true.1 hf _ (List.getElem_mem _), e1, by simpa using e2⟩
  rw [T.get_lay, if_pos (by omega), Nat.sub_zero, List.getElem?_eq_getElem hi]
theorem newBlk_spec {st st' : St} {elem : TypeId} {l : List C} (h : newBlk st elem l = some st') : l.all C.flat = true ∧ st' = st.new (.cells elem l.length false (T.lay l 0 .leaf)) := by
  unfold newBlk at h
  cases hf : l.all C.flat with
  | false => rw [hf] at h; cases h
  | true => rw [hf] at h; simp only [cond_true, Option.some.injEq] at h; exact ⟨rfl, h.symm⟩
/-- A new row of cells: the machine's and Go's. -/
theorem newRow_ok {P : Program} {ρ : Ren} {st st' : St} {W : World} {elem : TypeId} {l : List C} {vs : List Value} (h : newBlk st elem l = some st') (g : Good P ρ st.heap.get W) (f : Fresh ρ st.next st'.next) (hl : C.reals ρ l = some vs) :
    ∃ ρ' W' κ, ρ' st.next = some (W.heap.size, κ) ∧ W' = { W with heap := W.heap.push (.cells vs.toArray elem (0, 0)) } ∧ Good P ρ' st'.heap.get W' ∧ Keep ρ st.heap.get W ρ' st'.heap.get W' st.next st'.next := by
  obtain ⟨hf, rfl⟩ := newBlk_spec h
  have := g.alloc (b := st.next) (f _ (Nat.le_refl _) (by simp [St.new])) 0 (blk_new hl hf elem 0) (W' := { W with heap := W.heap.push (.cells vs.toArray elem (0, 0)) }) rfl rfl rfl rfl
  refine ⟨upd ρ st.next (some (W.heap.size, 0)), _, 0, upd_same _ _ _, rfl, ?_⟩
  simp only [St.new, get_put_upd]
  exact this
theorem Low.newBlk {st st' : St} {elem : TypeId} {l : List C} (h : newBlk st elem l = some st') : Low st st' := by
  obtain ⟨_, rfl⟩ := newBlk_spec h
  exact Low.new _ _

/-! ### reading -/
theorem readC_ok {P : Program} {ρ : Ren} {h : T Blk} {W : World} (g : Good P ρ h.get W) {b off m : Nat} {l : List C} (hl : readC h b off m = some l) :
    ∃ r κ vs, ρ b = some (r, κ) ∧ C.reals ρ l = some vs ∧ vs.length = m ∧ l.all C.flat = true ∧ (∀ k, k < vs.length → W.cell? ⟨r, off + k, none⟩ = vs[k]?) ∧ (loadCells ⟨r, off, none⟩ m).run P W = .ok vs.toArray W := by
  unfold readC at hl
  split at hl
  · rename_i elem n gr cs hb
    cases hle : Nat.ble (off + m) n with
    | false => rw [hle] at hl; cases hl
    | true =>
      rw [hle] at hl
      simp only [cond_true] at hl
      have hn := Nat.le_of_ble_eq_true hle
      obtain ⟨r, κ, hr, arr, fz, h1, h2, h3, h4⟩ := g.at_ b _ hb
      obtain ⟨vs, e1, e2, e3, e4⟩ := blk_row h4 hl hn
      refine ⟨r, κ, vs, hr, e1, e2, ?_, fun k hk => by rw [cell_of h1]; exact e3 k hk, by have := run_row (P := P) h1 vs e3; rwa [e2] at this⟩
      obtain ⟨s1, s2⟩ := T.row_spec cs m off l hl
      refine List.all_eq_true.2 fun c hc => ?_
      obtain ⟨k, hk, rfl⟩ := List.mem_iff_getElem.1 hc
      obtain ⟨c', v, a, fl, _⟩ := h4 (off + k) (by omega)
      rw [s2 k (by omega), List.getElem?_eq_getElem hk] at a
      cases a
      exact fl
  · cases hl
theorem load_ok {P : Program} {ρ : Ren} {h : T Blk} {W : World} (g : Good P ρ h.get W) {t : TypeId} {b off : Nat} {v : V} (hl : loadV P t h b off = some v) :
    ∃ r κ x, ρ b = some (r, κ) ∧ v.real ρ = some x ∧ (loadVar t ⟨r, off, none⟩).run P W = .ok x W := by
  unfold loadV at hl
  split at hl
  · cases hl
  · rename_i d hd
    cases ha : aggB d with
    | true =>
      rw [ha] at hl
      simp only [cond_true] at hl
      split at hl
      · cases hl
      · rename_i m hm
        split at hl
        · cases hl
        · rename_i l hr
          simp only [Option.some.injEq] at hl
          subst hl
          obtain ⟨r, κ, vs, e1, e2, e3, _, _, e4⟩ := readC_ok g hr
          refine ⟨r, κ, .agg vs.toArray, e1, by simp [V.real, e2], ?_⟩
          simp [loadVar, run_isAgg hd, ha, run_size hm, e4]
    | false =>
      rw [ha] at hl
      simp only [cond_false] at hl
      split at hl
      · rename_i x hr
        simp only [Option.some.injEq] at hl
        subst hl
        obtain ⟨r, κ, vs, e1, e2, e3, _, e5, _⟩ := readC_ok g hr
        match vs, e3 with
        | [y], _ =>
          have hc := e5 0 (by simp)
          simp only [Nat.add_zero, List.getElem?_cons_zero] at hc
          refine ⟨r, κ, y, e1, ?_, ?_⟩
          · simp only [C.reals, Option.bind_eq_some_iff, Option.map_eq_some_iff, Option.some.injEq] at e2
            obtain ⟨z, hz, w, hw, e⟩ := e2
            simp only [List.cons.injEq] at e
            rw [e.1] at hz
            exact hz
          · simp [loadVar, run_isAgg hd, ha, hc]
      · cases hl

/-! ### parts -/
theorem splice_arr (cells : Array Value) (off : Nat) : ∀ (l : List Value) (j : Nat), off + j + l.length ≤ cells.size →
    ((l.zipIdx j).foldl (fun cs p => cs.setIfInBounds (off + p.2) p.1) cells).toList = cells.toList.take (off + j) ++ (l ++ cells.toList.drop (off + j + l.length))
  | [], j, h => by simp
  | v :: l, j, h => by
    rw [List.zipIdx_cons, List.foldl_cons]
    have := splice_arr (cells.setIfInBounds (off + j) v) off l (j + 1) (by simp only [Array.size_setIfInBounds, List.length_cons] at h ⊢; omega)
    rw [this]
    simp only [Array.toList_setIfInBounds, List.length_cons]
    have hlt : off + j < cells.toList.length := by simp only [List.length_cons] at h; simp; omega
    apply List.ext_getElem?
    intro i
    simp only [List.getElem?_append, List.length_take, List.length_set, List.getElem?_take, List.getElem?_set, List.getElem?_drop, List.getElem?_cons, List.length_cons]
    have hs : cells.toList.length = cells.size := by simp
    rw [show min (off + (j + 1)) cells.toList.length = off + j + 1 by omega, show min (off + j) cells.toList.length = off + j by omega]
    by_cases c : i < off + j
    · rw [if_pos (by omega), if_pos (by omega), if_pos c, if_pos c, if_neg (by omega)]
    · by_cases d : i = off + j
      · subst d
        rw [if_pos (by omega), if_pos (by omega), if_pos rfl, if_pos hlt, if_neg (by omega), Nat.sub_self, if_pos (by omega)]
        simp
      · rw [if_neg (by omega), if_neg c, show i - (off + j) = (i - (off + j + 1)) + 1 by omega]
        by_cases e : i - (off + j + 1) < l.length
        · rw [if_pos e, if_pos (by omega), if_neg (by omega)]
          simp
        · rw [if_neg e, if_neg (by omega), if_neg (by omega)]
          congr 1
          omega
theorem splice_real {ρ : Ren} {cs l : List C} {zs vs : List Value} (h : C.reals ρ cs = some zs) (k : C.reals ρ l = some vs) (off : Nat) (ho : off + l.length ≤ cs.length) :
    C.reals ρ (splice cs off l) = some (zs.take off ++ (vs ++ zs.drop (off + vs.length))) := by
  obtain ⟨h1, h2⟩ := C.reals_spec h
  obtain ⟨k1, k2⟩ := C.reals_spec k
  have ht : C.reals ρ (cs.take off) = some (zs.take off) := C.reals_of (by simp [h1]) fun i x hx => by
    rw [List.getElem?_take] at hx ⊢
    split at hx
    · rename_i c; rw [if_pos c]; exact h2 i x hx
    · cases hx
  have hd : C.reals ρ (cs.drop (off + l.length)) = some (zs.drop (off + vs.length)) := C.reals_of (by simp [h1, k1]) fun i x hx => by
    rw [List.getElem?_drop] at hx ⊢
    rw [k1]
    exact h2 _ x hx
  exact C.reals_append ht (C.reals_append k hd)
/-- Parts and their values. -/
inductive PartsR (ρ : Ren) : List (Nat × List C) → List (Nat × Value) → Prop
  | nil : PartsR ρ [] []
  | cons {i : Nat} {cs : List C} {v : Value} {l : List (Nat × List C)} {m : List (Nat × Value)} : C.reals ρ cs = some v.cells.toList → PartsR ρ l m → PartsR ρ ((i, cs) :: l) ((i, v) :: m)
theorem fill_ok {ρ : Ren} {place : Nat → Option (Nat × Nat)} : ∀ {ps : List (Nat × List C)} {qs : List (Nat × Value)} {cs : List C} {zs : Array Value} {l : List C}, PartsR ρ ps qs → C.reals ρ cs = some zs.toList → fillC place cs ps = some l →
    ∃ out, Instr.fill place zs qs = some out ∧ C.reals ρ l = some out.toList
  | [], _, cs, zs, l, .nil, hz, hf => by simp only [fillC, Option.some.injEq] at hf; subst hf; exact ⟨zs, rfl, hz⟩
  | (i, c) :: ps, _, cs, zs, l, .cons (v := v) (m := m) hc hr, hz, hf => by
    simp only [fillC] at hf
    split at hf
    · cases hf
    · rename_i off size hp
      cases hb : (Nat.beq c.length size && Nat.ble (off + c.length) cs.length) with
      | false => rw [hb] at hf; cases hf
      | true =>
        rw [hb] at hf
        simp only [cond_true] at hf
        simp only [Bool.and_eq_true] at hb
        have b1 : c.length = size := Nat.eq_of_beq_eq_true hb.1
        have b2 := Nat.le_of_ble_eq_true hb.2
        have l1 := (C.reals_spec hc).1
        have l2 := (C.reals_spec hz).1
        simp only [Array.length_toList] at l1 l2
        have hs := splice_arr zs off v.cells.toList 0 (by simp; omega)
        have hz2 := splice_real hz hc off b2
        obtain ⟨out, o1, o2⟩ := fill_ok (zs := v.cells.zipIdx.foldl (fun cs p => cs.setIfInBounds (off + p.2) p.1) zs) hr (by
          rw [hz2, ← Array.foldl_toList, Array.toList_zipIdx, hs]
          simp) hf
        refine ⟨out, ?_, o2⟩
        simp only [Instr.fill, hp]
        rw [if_neg (by simp; omega)]
        exact o1
theorem parts_ok {ρ : Ren} {g : Env} {e : Operand → Value} : ∀ {l : List (Nat × Operand)} {ps : List (Nat × List C)}, Tells ρ g e (l.map (·.2)) → partsOf g l = some ps → PartsR ρ ps (l.map fun p => (p.1, e p.2))
  | [], ps, _, h => by simp only [partsOf, Option.some.injEq] at h; subst h; exact .nil
  | (i, x) :: l, ps, ht, h => by
    simp only [partsOf] at h
    split at h
    · cases h
    · rename_i v hv
      split at h
      · cases h
      · rename_i cs hcs
        cases hf : cs.all C.flat with
        | false => rw [hf] at h; cases h
        | true =>
          rw [hf] at h
          simp only [cond_true] at h
          split at h
          · cases h
          · rename_i r hr
            simp only [Option.some.injEq] at h
            subst h
            exact .cons (V.cells_real (ht x (by simp) v hv) hcs hf) (parts_ok (fun y hy => ht y (by simp at hy ⊢; exact .inr hy)) hr)
theorem places_ok {P : Program} {W : World} : ∀ {l : List Field} {pl : List (Nat × Nat)}, placesOf P l = some pl → (l.mapM (m := Sem) fun f => do pure (f.offset, ← sizeOf f.type)).run P W = .ok pl W
  | [], pl, h => by simp only [placesOf, Option.some.injEq] at h; subst h; rfl
  | f :: l, pl, h => by
    simp only [placesOf] at h
    split at h
    · cases h
    · rename_i m hm
      split at h
      · cases h
      · rename_i r hr
        simp only [Option.some.injEq] at h
        subst h
        have ih := places_ok (W := W) hr
        simp only [List.mapM_cons, Sem.run_bind, run_size hm, Result.andThen_ok, Sem.run_pure, ih]
theorem build_ok {P : Program} {ρ : Ren} {g : Env} {e : Operand → Value} {t : TypeId} {parts : Array (Nat × Operand)} {l : List C} (h : buildV P g t parts = some l) (ht : Tells ρ g e (parts.toList.map (·.2))) (W : World) :
    ∃ vs, C.reals ρ l = some vs ∧ (Instr.build t (parts.map fun (i, x) => (i, e x))).run P W = .ok (.agg vs.toArray) W := by
  unfold buildV at h
  split at h
  · cases h
  · rename_i z hz
    split at h
    · cases h
    · rename_i ps hps
      obtain ⟨zv, z1, z2, _⟩ := run_zero hz W
      have hp := parts_ok ht hps
      have hz0 : C.reals ρ (scs z) = some zv.cells.toList := by rw [z2]; exact C.reals_sc ρ z
      have he : (parts.map fun (i, x) => (i, e x)).toList = parts.toList.map fun p => (p.1, e p.2) := by simp
      split at h
      · rename_i fields hu
        split at h
        · cases h
        · rename_i pl hpl
          obtain ⟨out, o1, o2⟩ := fill_ok hp hz0 h
          refine ⟨out.toList, o2, ?_⟩
          have hm := places_ok (W := W) hpl
          simp only [Instr.build, Sem.run_bind, z1, Result.andThen_ok, run_under hu, Array.mapM_eq_mapM_toList, Sem.run_map, hm, he]
          have : (fun i : Nat => pl.toArray[i]?) = fun i : Nat => pl[i]? := by funext i; simp
          rw [this, o1]
          simp
      · rename_i n elem hu
        split at h
        · cases h
        · rename_i size hs
          obtain ⟨out, o1, o2⟩ := fill_ok hp hz0 h
          refine ⟨out.toList, o2, ?_⟩
          simp only [Instr.build, Sem.run_bind, z1, Result.andThen_ok, run_under hu, run_size hs, he, o1]
          simp
      · cases h
theorem part_ok {P : Program} {ρ : Ren} {t : TypeId} {l : List C} {vs : List Value} {off : Nat} {v : V} (hl : C.reals ρ l = some vs) (h : partV P t l off = some v) (W : World) :
    ∃ x, v.real ρ = some x ∧ (part t vs.toArray off).run P W = .ok x W := by
  obtain ⟨h1, h2⟩ := C.reals_spec hl
  unfold partV at h
  split at h
  · cases h
  · rename_i d hd
    cases ha : aggB d with
    | true =>
      rw [ha] at h
      simp only [cond_true] at h
      split at h
      · cases h
      · rename_i m hm
        simp only [Option.some.injEq] at h
        subst h
        refine ⟨.agg ((vs.drop off).take m).toArray, ?_, ?_⟩
        · have : C.reals ρ ((l.drop off).take m) = some ((vs.drop off).take m) := C.reals_of (by simp [h1]) fun i x hx => by
            rw [List.getElem?_take] at hx ⊢
            split at hx
            · rename_i c; rw [if_pos c]; rw [List.getElem?_drop] at hx ⊢; exact h2 _ x hx
            · cases hx
          simp [V.real, this]
        · simp only [part, Sem.run_bind, run_isAgg hd, ha, Result.andThen_ok, if_true, run_size hm]
          simp [List.extract_eq_take_drop]
    | false =>
      rw [ha] at h
      simp only [cond_false] at h
      split at h
      · rename_i x hx
        simp only [Option.some.injEq] at h
        subst h
        obtain ⟨y, e1, e2⟩ := h2 off x hx
        refine ⟨y, e1, ?_⟩
        simp only [part, Sem.run_bind, run_isAgg hd, ha, Result.andThen_ok]
        simp [e2]
      · cases h
end Go.Proofs.Ythablamjbikllaa.Run
