/- A machine for closed calls: regions whose order is fixed. -/
import Derived.Test.YthablamjbikllaaRunH
set_option linter.unusedVariables false
namespace Go.Proofs.Ythablamjbikllaa.Run
open Go.RowKit

/-- The temporaries of a frame are told. -/
structure AR (ρ : Ren) (a : Nat → Option V) (m : Nat) (A : Act) : Prop where
  defers : A.defers = []
  size : A.tmps.size = m
  at_ : ∀ t u, a t = some u → ∃ x, u.real ρ = some x ∧ A.tmps[t]? = some x
theorem AR.mono {ρ ρ' : Ren} (h : ρ.le ρ') {a : Nat → Option V} {m : Nat} {A : Act} (k : AR ρ a m A) : AR ρ' a m A :=
  ⟨k.defers, k.size, fun t u ht => let ⟨x, h1, h2⟩ := k.at_ t u ht; ⟨x, V.mono h u x h1, h2⟩⟩
theorem AR.put {ρ : Ren} {a : T V} {m : Nat} {A : Act} {d : Option Tmp} {v : V} {x : Value} {a' : T V} (k : AR ρ a.get m A) (h : putV m a d v = some a') (hv : v.real ρ = some x) : AR ρ a'.get m (A.put d x) := by
  unfold putV at h
  split at h
  · simp only [Option.some.injEq] at h
    subst h
    exact k
  · rename_i t
    obtain ⟨c, h⟩ := bif_some h
    have c := blt_of c
    simp only [Option.some.injEq] at h
    subst h
    refine ⟨k.defers, by simp [Act.put, k.size], fun s u hs => ?_⟩
    rw [T.get_put] at hs
    by_cases e : s = t
    · subst e
      rw [if_pos rfl] at hs
      simp only [Option.some.injEq] at hs
      subst hs
      refine ⟨x, hv, ?_⟩
      have : s < A.tmps.size := by rw [k.size]; exact c
      simp [Act.put, this]
    · rw [if_neg e] at hs
      obtain ⟨y, h1, h2⟩ := k.at_ s u hs
      refine ⟨y, h1, ?_⟩
      simp only [Act.put]
      rw [Array.getElem?_setIfInBounds_ne (by omega)]
      exact h2
theorem tmpsOf_mem {t : Nat} : ∀ {l : List Operand}, Operand.tmp t ∈ l → t ∈ tmpsOf l
  | [], h => by cases h
  | x :: l, h => by
    rcases List.mem_cons.1 h with rfl | h
    · exact List.mem_cons_self
    · have ih := tmpsOf_mem h
      cases x <;> simp [tmpsOf, ih]
theorem reads_ops {ops : Array Oper} {o : Oper} {t : Nat} (h : t ∈ tmpsOf o.op.operands.toList) : t ∈ readsOf ops o := by
  unfold readsOf
  split
  · exact h
  · split
    · split
      · exact List.mem_cons_of_mem _ h
      · exact h
    · exact h
/-- What an operation reads of temporaries is told. -/
def Reads (ρ : Ren) (a : Nat → Option V) (A : Act) (l : List Nat) : Prop := ∀ t ∈ l, ∀ u, a t = some u → ∃ x, u.real ρ = some x ∧ A.tmps[t]? = some x
theorem AR.reads {ρ : Ren} {a : Nat → Option V} {m : Nat} {A : Act} (k : AR ρ a m A) (l : List Nat) : Reads ρ a A l := fun t _ => k.at_ t
theorem Reads.tells {ρ : Ren} {a : T V} {A : Act} {ops : Array Oper} {o : Oper} (h : Reads ρ a.get A (readsOf ops o)) : Tells ρ (ev a) A.eval o.op.operands.toList := by
  intro x hx u hu
  cases x with
  | tmp t =>
    obtain ⟨y, h1, h2⟩ := h t (reads_ops (tmpsOf_mem hx)) u hu
    rw [h1]
    simp [Act.eval, h2]
  | const v =>
    simp only [ev, Option.some.injEq] at hu
    subst hu
    exact V.of_real v ρ
  | global g => cases hu
  | func f =>
    simp only [ev, Option.some.injEq] at hu
    subst hu
    rfl
theorem guard_ok {ρ : Ren} {a : T V} {A : Act} {ops : Array Oper} {o : Oper} {b : Bool} (h : guardB ops a o = some b) (hr : Reads ρ a.get A (readsOf ops o)) : Region.wanted o (yielded ops A.tmps) = b := by
  unfold guardB at h
  unfold readsOf at hr
  unfold Region.wanted
  split at h
  · rename_i hg
    simp only [Option.some.injEq] at h
    simp [hg, h]
  · rename_i j w hg
    simp only [hg] at hr ⊢
    split at h
    · cases h
    · rename_i x hx
      simp only [hx] at hr
      split at h
      · cases h
      · rename_i d hd
        simp only [hd] at hr
        split at h
        · rename_i c hc
          simp only [Option.some.injEq] at h
          obtain ⟨y, h1, h2⟩ := hr d List.mem_cons_self _ hc
          simp only [V.real, C.real, Option.some.injEq] at h1
          subst h1
          simp only [yielded, hx, Option.bind_some, hd, h2]
          rw [← h]
          cases c <;> cases w <;> rfl
        · rename_i l hc
          simp only [Option.some.injEq] at h
          obtain ⟨y, h1, h2⟩ := hr d List.mem_cons_self _ hc
          simp only [V.real, Option.map_eq_some_iff] at h1
          obtain ⟨vs, _, rfl⟩ := h1
          simp only [yielded, hx, Option.bind_some, hd, h2]
          rw [← h]
          cases w <;> rfl
        · cases h
/-- One operation of a region. -/
theorem oper_ok {P : Program} {call : Caller} (hc : CallOK P call) {ops : Array Oper} {a : T V} {st st' : St} {o : Oper} {v : V} (h : evalOper P call ops a st o = some (v, st')) (hd : DomLt st.heap st.next) :
    Low st st' ∧ ∀ ρ (A : Act) W, Reads ρ a.get A (readsOf ops o) → Good P ρ st.heap.get W → Fresh ρ st.next st'.next → ∀ K Q i, ops[i]? = some o →
      (∀ ρ' W' x, Keep ρ st.heap.get W ρ' st'.heap.get W' st.next st'.next → Good P ρ' st'.heap.get W' → v.real ρ' = some x → K (A.put o.dst x) W') → wpOp P ops Q i K A W := by
  unfold evalOper at h
  split at h
  · cases h
  · rename_i hg
    simp only [Option.some.injEq, Prod.mk.injEq] at h
    obtain ⟨rfl, rfl⟩ := h
    refine ⟨Low.refl _, fun ρ A W hr hgd hf K Q i hi hk => ?_⟩
    simp only [wpOp, hi, guard_ok hg hr]
    exact hk ρ W undef (Keep.refl _ _ _ _) hgd rfl
  · rename_i hg
    obtain ⟨h1, h2⟩ := evalOp_ok hc h hd
    refine ⟨h2, fun ρ A W hr hgd hf K Q i hi hk => ?_⟩
    simp only [wpOp, hi, guard_ok hg hr, if_true]
    exact .inl (h1 ρ A W hr.tells hgd hf K Q hk)
/-- A region in the order in which it stands. -/
theorem seq_ok {P : Program} {call : Caller} (hc : CallOK P call) {ops : Array Oper} {m : Nat} : ∀ (l : List Oper) (k : Nat) (a : T V) (st : St) (a' : T V) (st' : St), ops.toList.drop k = l → runSeq P call ops m l a st = some (a', st') → DomLt st.heap st.next →
    Low st st' ∧ ∀ ρ (A : Act) W, AR ρ a.get m A → Good P ρ st.heap.get W → Fresh ρ st.next st'.next → ∀ Q : Exit → Act → World → Prop,
      (∀ ρ' A' W', Keep ρ st.heap.get W ρ' st'.heap.get W' st.next st'.next → Good P ρ' st'.heap.get W' → AR ρ' a'.get m A' → Q .normal A' W') → wpOps P ops Q (List.range' k l.length) A W
  | [], k, a, st, a', st', hl, h, hd => by
    simp only [runSeq, Option.some.injEq, Prod.mk.injEq] at h
    obtain ⟨rfl, rfl⟩ := h
    exact ⟨Low.refl _, fun ρ A W ha hg hf Q hk => hk ρ A W (Keep.refl _ _ _ _) hg ha⟩
  | o :: l, k, a, st, a', st', hl, h, hd => by
    simp only [runSeq] at h
    split at h
    · cases h
    · rename_i v st1 hv
      rw [force_eq] at h
      split at h
      · cases h
      · rename_i a1 hp
        have hk : ops[k]? = some o := by
          have : ops.toList[k]? = some o := by
            have := congrArg (·[0]?) hl
            simpa using this
          simpa using this
        have hl' : ops.toList.drop (k + 1) = l := by
          rw [← List.drop_drop, hl]; rfl
        obtain ⟨l1, o1⟩ := oper_ok hc hv hd
        obtain ⟨l2, o2⟩ := seq_ok hc l (k + 1) a1 st1 a' st' hl' h (l1.domLt hd)
        refine ⟨l1.trans l2, fun ρ A W ha hg hf Q hq => ?_⟩
        rw [List.length_cons, List.range'_succ, wpOps_cons]
        refine o1 ρ A W (ha.reads _) hg (hf.sub (Nat.le_refl _) l2.num) _ Q k hk fun ρ' W' x k1 g1 v1 => ?_
        refine o2 ρ' _ W' ((ha.mono k1.le).put hp v1) g1 ((k1.fresh hf)) Q fun ρ2 A2 W2 k2 g2 a2 => ?_
        exact hq ρ2 A2 W2 (k1.trans k2) g2 a2
theorem region_seq {P : Program} {call : Caller} (hc : CallOK P call) {id : Nat} {ops : Array Oper} {m : Nat} {a a' : T V} {st st' : St} (h : runSeq P call ops m ops.toList a st = some (a', st')) (hd : DomLt st.heap st.next) :
    Low st st' ∧ ∀ ρ (A : Act) W, AR ρ a.get m A → Good P ρ st.heap.get W → Fresh ρ st.next st'.next → ∀ Q : Exit → Act → World → Prop,
      (∀ ρ' A' W', Keep ρ st.heap.get W ρ' st'.heap.get W' st.next st'.next → Good P ρ' st'.heap.get W' → AR ρ' a'.get m A' → Q .normal A' W') → (Code.region id ops false).wp P Q A W := by
  obtain ⟨h1, h2⟩ := seq_ok hc ops.toList 0 a st a' st' rfl h hd
  refine ⟨h1, fun ρ A W ha hg hf Q hq => wp_region ?_⟩
  have := h2 ρ A W ha hg hf Q hq
  rwa [Array.length_toList, ← List.range_eq_range'] at this
end Go.Proofs.Ythablamjbikllaa.Run
