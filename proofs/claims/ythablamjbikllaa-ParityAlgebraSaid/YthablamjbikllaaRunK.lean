/- A machine for closed calls: regions whose order is drawn. What the machine answers in the order of the text, Go answers in each order. -/
import Derived.Test.YthablamjbikllaaRunJ
set_option linter.unusedVariables false
namespace Go.Proofs.Ythablamjbikllaa.Run
open Go.RowKit

/-- One operation that has been carried out by the machine. -/
structure Rc where
  o : Oper
  mask : Nat
  inf : Inf
  a : T V
  st : St
  v : V
  s' : St
/-- What it saw. -/
noncomputable def Rc.seen (r : Rc) (infs : List Inf) : St := ⟨sight r.inf.foot r.mask infs r.st.heap, r.st.next, r.st.next⟩
structure StepR (P : Program) (call : Caller) (ops : Array Oper) (m : Nat) (rs : List Rc) (a : T V) (st : St) (r : Rc) (a' : T V) : Prop where
  ahead : aheadOf rs.length (rs.map (·.mask)) r.o.after.toList 0 = some r.mask
  eval : evalOper P call ops a (r.seen (rs.map (·.inf))) r.o = some (r.v, r.s')
  put : putV m a r.o.dst r.v = some a'
  inf : r.inf = ⟨rs.length, readsOf ops r.o, r.o.dst, r.inf.foot, Nat.blt r.s'.low st.next, st.next, r.s'.next⟩
  clash : noClash r.mask r.inf (rs.map (·.inf)) = true
  op : ops[rs.length]? = some r.o
  a_eq : r.a = a
  st_eq : r.st = st
noncomputable def postSt (st : St) (r : Rc) (infs : List Inf) : St := ⟨merge r.inf.foot r.mask infs st.heap r.s'.heap st.next r.s'.next, r.s'.next, bif Nat.ble st.low r.s'.low then st.low else r.s'.low⟩
inductive Tr (P : Program) (call : Caller) (ops : Array Oper) (m : Nat) (a0 : T V) (st0 : St) : List Rc → T V → St → Prop
  | nil : Tr P call ops m a0 st0 [] a0 st0
  | cons {rs : List Rc} {a : T V} {st : St} {r : Rc} {a' : T V} : Tr P call ops m a0 st0 rs a st → StepR P call ops m rs a st r a' → Tr P call ops m a0 st0 (r :: rs) a' (postSt st r (rs.map (·.inf)))

theorem draw_tr {P : Program} {call : Caller} {ops : Array Oper} {m : Nat} {a0 : T V} {st0 : St} : ∀ (l : List Oper) (rs : List Rc) (a : T V) (st : St) (a' : T V) (st' : St), Tr P call ops m a0 st0 rs a st → ops.toList.drop rs.length = l → rs.length + l.length = ops.size →
    runDraw P call ops m l rs.length (rs.map (·.mask)) (rs.map (·.inf)) a st = some (a', st') → ∃ rs', Tr P call ops m a0 st0 rs' a' st' ∧ rs'.length = ops.size
  | [], rs, a, st, a', st', t, hl, hn, h => by
    simp only [runDraw, Option.some.injEq, Prod.mk.injEq] at h
    obtain ⟨rfl, rfl⟩ := h
    exact ⟨rs, t, by simpa using hn⟩
  | o :: l, rs, a, st, a', st', t, hl, hn, h => by
    simp only [runDraw] at h
    split at h
    · cases h
    · rename_i mask hm
      split at h
      · cases h
      · rename_i v s1 hv
        rw [force_eq] at h
        split at h
        · cases h
        · rename_i a1 hp
          obtain ⟨hc, h⟩ := bif_some h
          have hk : ops[rs.length]? = some o := by
            have : ops.toList[rs.length]? = some o := by
              have := congrArg (·[0]?) hl
              simpa using this
            simpa using this
          have hl' : ops.toList.drop (rs.length + 1) = l := by rw [← List.drop_drop, hl]; rfl
          let r : Rc := ⟨o, mask, ⟨rs.length, readsOf ops o, o.dst, footOf (ev a) o.op, Nat.blt s1.low st.next, st.next, s1.next⟩, a, st, v, s1⟩
          have hs : StepR P call ops m rs a st r a1 := ⟨hm, hv, hp, rfl, hc, hk, rfl, rfl⟩
          exact draw_tr l (r :: rs) a1 _ a' st' (t.cons hs) (by simpa using hl') (by simp at hn ⊢; omega) h

section
variable {P : Program} {call : Caller} {ops : Array Oper} {m : Nat} {a0 : T V} {st0 : St}
theorem Tr.at_ {rs pre : List Rc} {a : T V} {st : St} {r : Rc} (h : Tr P call ops m a0 st0 rs a st) (ht : Tail rs r pre) : ∃ a', Tr P call ops m a0 st0 pre r.a r.st ∧ StepR P call ops m pre r.a r.st r a' := by
  induction h with
  | nil => cases ht
  | cons t s ih =>
    cases ht with
    | here => rw [s.a_eq, s.st_eq]; exact ⟨_, t, s⟩
    | there ht => exact ih ht
theorem StepR.low (hc : CallOK P call) {rs : List Rc} {a a' : T V} {st : St} {r : Rc} (s : StepR P call ops m rs a st r a') (hd : DomLt st.heap st.next) : Low (r.seen (rs.map (·.inf))) r.s' :=
  (oper_ok hc s.eval (by rw [Rc.seen, s.st_eq]; exact sight_dom hd)).1
theorem StepR.lo {rs : List Rc} {a a' : T V} {st : St} {r : Rc} (s : StepR P call ops m rs a st r a') : r.inf.lo = st.next ∧ r.inf.hi = r.s'.next ∧ r.inf.at_ = rs.length ∧ r.inf.wr = Nat.blt r.s'.low st.next ∧ r.inf.rt = readsOf ops r.o ∧ r.inf.dst = r.o.dst := by
  rw [s.inf]; exact ⟨rfl, rfl, rfl, rfl, rfl, rfl⟩
theorem Tr.base (hc : CallOK P call) (hd : DomLt st0.heap st0.next) {rs : List Rc} {a : T V} {st : St} (h : Tr P call ops m a0 st0 rs a st) : DomLt st.heap st.next ∧ Low st0 st ∧ st0.next ≤ st.next ∧ ∀ r k, Stands rs k r → st0.next ≤ r.inf.lo ∧ r.inf.lo ≤ r.inf.hi ∧ r.inf.hi ≤ st.next := by
  induction h with
  | nil => exact ⟨hd, Low.refl _, Nat.le_refl _, fun r k hk => hk.elim⟩
  | cons t s ih =>
    rename_i rs a st r a'
    obtain ⟨ih0, ihl, ih⟩ := ih
    have hl := s.low hc ih0
    obtain ⟨l1, l2, _⟩ := s.lo
    rw [Rc.seen, s.st_eq] at hl
    have hn : st.next ≤ r.s'.next := hl.num
    have hh : ∀ x ∈ rs.map (·.inf), x.hi ≤ st.next := fun y hy => by
      obtain ⟨q, hq, rfl⟩ := List.mem_map.1 hy
      obtain ⟨k, hk⟩ := Stands.mem hq
      exact (ih.2 q k hk).2.2
    have hlow : Low st (postSt st r (rs.map (·.inf))) := by
      refine ⟨hn, (low_min _ _).1, fun b h1 h2 => ?_, fun b x hx => ?_⟩
      · obtain ⟨m1, m2⟩ := get_merge (n := 0) ih0 hh hl b
        have h1 : b < r.s'.low := Nat.lt_of_lt_of_le h1 (low_min _ _).2
        by_cases w : Writes r.inf.foot r.mask (rs.map (·.inf)) (Nat.blt r.s'.low st.next) st.next r.s'.next b
        · rcases w with ⟨w1, w2, w3⟩ | w
          · show (merge _ _ _ _ _ _ _).get b = _
            rw [m1 (.inl ⟨w1, w2, w3⟩), hl.same b h1 h2]
            exact (get_sight _ _ _ _ b).1 w2
          · omega
        · exact m2 w
      · obtain ⟨m1, m2⟩ := get_merge (n := 0) ih0 hh hl b
        by_cases w : Writes r.inf.foot r.mask (rs.map (·.inf)) (Nat.blt r.s'.low st.next) st.next r.s'.next b
        · have hx' : r.s'.heap.get b = some x := by rw [← m1 w]; exact hx
          rcases hl.dom b x hx' with ⟨y, hy⟩ | c
          · by_cases c : Sees r.inf.foot r.mask (rs.map (·.inf)) b
            · exact .inl ⟨y, by rw [← (get_sight r.inf.foot r.mask (rs.map (·.inf)) st.heap b).1 c]; exact hy⟩
            · have := (get_sight r.inf.foot r.mask (rs.map (·.inf)) st.heap b).2 c
              rw [this] at hy
              cases hy
          · exact .inr c
        · exact .inl ⟨x, by rw [← m2 w]; exact hx⟩
    refine ⟨hlow.domLt ih0, ihl.trans hlow, Nat.le_trans ih.1 hn, fun x k hk => ?_⟩
    show _ ∧ _ ∧ x.inf.hi ≤ r.s'.next
    rcases hk with ⟨_, rfl⟩ | hk
    · rw [l1, l2]; exact ⟨ih.1, hn, Nat.le_refl _⟩
    · obtain ⟨q1, q2, q3⟩ := ih.2 x k hk
      exact ⟨q1, q2, by omega⟩
theorem Tr.num (hc : CallOK P call) (hd : DomLt st0.heap st0.next) {rs : List Rc} {a : T V} {st : St} (h : Tr P call ops m a0 st0 rs a st) : st0.next ≤ st.next ∧ ∀ r k, Stands rs k r → st0.next ≤ r.inf.lo ∧ r.inf.lo ≤ r.inf.hi ∧ r.inf.hi ≤ st.next := (h.base hc hd).2.2
theorem Tr.dom (hc : CallOK P call) (hd : DomLt st0.heap st0.next) {rs : List Rc} {a : T V} {st : St} (h : Tr P call ops m a0 st0 rs a st) : DomLt st.heap st.next := (h.base hc hd).1
/-- What an operation writes, as to one temporary; as to one block. -/
noncomputable def wT (t : Nat) (r : Rc) : Option (Option V) := if r.o.dst = some t then some (some r.v) else none
open Classical in
noncomputable def wH (b : Nat) (x : Rc × List Inf) : Option (Option Blk) := if Writes x.1.inf.foot x.1.mask x.2 x.1.inf.wr x.1.inf.lo x.1.inf.hi b then some (x.1.s'.heap.get b) else none
/-- Each operation with those that stand ahead of it in the text. -/
noncomputable def withPre : List Rc → List (Rc × List Inf)
  | [] => []
  | r :: rs => (r, rs.map (·.inf)) :: withPre rs
theorem withPre_length : ∀ rs : List Rc, (withPre rs).length = rs.length
  | [] => rfl
  | r :: rs => by simp [withPre, withPre_length rs]
theorem withPre_stands {rs : List Rc} : ∀ {k : Nat} {x : Rc × List Inf}, Stands (withPre rs) k x → ∃ pre, Tail rs x.1 pre ∧ pre.length = k ∧ x.2 = pre.map (·.inf) := by
  induction rs with
  | nil => intro k x h; exact h.elim
  | cons r rs ih =>
    intro k x h
    have h' : (k = (withPre rs).length ∧ x = (r, rs.map (·.inf))) ∨ Stands (withPre rs) k x := h
    rcases h' with ⟨e, e2⟩ | h'
    · rw [e2]; exact ⟨rs, .here _ _, by rw [e, withPre_length], rfl⟩
    · obtain ⟨pre, h1, h2, h3⟩ := ih h'
      exact ⟨pre, .there h1, h2, h3⟩
theorem withPre_tail : ∀ {rs pre : List Rc} {r : Rc}, Tail rs r pre → Tail (withPre rs) (r, pre.map (·.inf)) (withPre pre)
  | _, _, _, .here r rs => .here _ _
  | _, _, _, .there h => .there (withPre_tail h)
theorem putV_get {m : Nat} {a a' : T V} {d : Option Tmp} {v : V} (h : putV m a d v = some a') (t : Nat) : a'.get t = if d = some t then some v else a.get t := by
  unfold putV at h
  split at h
  · simp only [Option.some.injEq] at h
    subst h
    simp
  · rename_i s
    obtain ⟨_, h⟩ := bif_some h
    simp only [Option.some.injEq] at h
    subst h
    rw [T.get_put]
    by_cases c : t = s
    · subst c; simp
    · rw [if_neg c, if_neg (fun e => c (Option.some.inj e).symm)]
theorem Tr.tmps {rs : List Rc} {a : T V} {st : St} (h : Tr P call ops m a0 st0 rs a st) (t : Nat) : a.get t = lw (fun _ => true) (wT t) (a0.get t) rs := by
  induction h with
  | nil => rfl
  | cons tr s ih =>
    rename_i rs a st r a'
    rw [lw_all, ← ih, putV_get s.put]
    unfold wT
    split <;> simp_all
theorem Tr.heap (hc : CallOK P call) (hd : DomLt st0.heap st0.next) {rs : List Rc} {a : T V} {st : St} (h : Tr P call ops m a0 st0 rs a st) (b : Nat) : st.heap.get b = lw (fun _ => true) (wH b) (st0.heap.get b) (withPre rs) := by
  induction h with
  | nil => rfl
  | cons t s ih =>
    rename_i rs a st r a'
    have hl := s.low hc (t.dom hc hd)
    rw [Rc.seen, s.st_eq] at hl
    have hh : ∀ x ∈ rs.map (·.inf), x.hi ≤ st.next := fun y hy => by
      obtain ⟨q, hq, rfl⟩ := List.mem_map.1 hy
      obtain ⟨k, hk⟩ := Stands.mem hq
      exact ((t.num hc hd).2 q k hk).2.2
    obtain ⟨m1, m2⟩ := get_merge (n := 0) (t.dom hc hd) hh hl b
    obtain ⟨l1, l2, _, l4, _⟩ := s.lo
    rw [withPre, lw_all, ← ih]
    by_cases w : Writes r.inf.foot r.mask (rs.map (·.inf)) (Nat.blt r.s'.low st.next) st.next r.s'.next b
    · have w' : Writes r.inf.foot r.mask (rs.map (·.inf)) r.inf.wr r.inf.lo r.inf.hi b := by rw [l1, l2, l4]; exact w
      rw [show wH b (r, rs.map (·.inf)) = some (r.s'.heap.get b) from if_pos w']
      exact m1 w
    · have w' : ¬ Writes r.inf.foot r.mask (rs.map (·.inf)) r.inf.wr r.inf.lo r.inf.hi b := by rw [l1, l2, l4]; exact w
      rw [show wH b (r, rs.map (·.inf)) = none from if_neg w']
      exact m2 w

/-! ### what stands ahead, what may be exchanged -/
theorem ahead_spec {k : Nat} {anc : List Nat} : ∀ {l : List Edge} {s mask : Nat}, aheadOf k anc l s = some mask → ∀ j, Nat.testBit mask j = true → Nat.testBit s j = true ∨ ∃ e ∈ l, Region.binds .any e = true ∧ e.on < k ∧ (j = e.on ∨ ∃ q, anc[k - 1 - e.on]? = some q ∧ Nat.testBit q j = true)
  | [], s, mask, h, j, hj => by simp only [aheadOf, Option.some.injEq] at h; subst h; exact .inl hj
  | e :: l, s, mask, h, j, hj => by
    simp only [aheadOf] at h
    cases hb : Region.binds .any e with
    | false =>
      rw [hb] at h
      rcases ahead_spec h j hj with c | ⟨e', he, c⟩
      · exact .inl c
      · exact .inr ⟨e', List.mem_cons_of_mem _ he, c⟩
    | true =>
      rw [hb] at h
      simp only [cond_true] at h
      obtain ⟨hlt, h⟩ := bif_some h
      split at h
      · cases h
      · rename_i q hq
        rcases ahead_spec h j hj with c | ⟨e', he, c⟩
        · rw [Nat.testBit_or, Nat.testBit_or, Bool.or_eq_true, Bool.or_eq_true] at c
          rcases c with c | c | c
          · exact .inl c
          · exact .inr ⟨e, List.mem_cons_self, hb, blt_of hlt, .inr ⟨q, hq, c⟩⟩
          · rw [Nat.testBit_two_pow] at c
            exact .inr ⟨e, List.mem_cons_self, hb, blt_of hlt, .inl (by have := of_decide_eq_true c; omega)⟩
        · exact .inr ⟨e', List.mem_cons_of_mem _ he, c⟩
/-- Of each operation of S, all that stands ahead of it is in S. -/
noncomputable def Closed (rs : List Rc) (S : Nat → Bool) : Prop := ∀ k r, Stands rs k r → S k = true → ∀ j, Nat.testBit r.mask j = true → S j = true
theorem Tr.ahead {rs pre : List Rc} {a : T V} {st : St} {r : Rc} (h : Tr P call ops m a0 st0 rs a st) (ht : Tail rs r pre) {S : Nat → Bool} (hS : Closed rs S) (he : ∀ e ∈ r.o.after.toList, Region.binds .any e = true → S e.on = true) : ∀ j, Nat.testBit r.mask j = true → S j = true := by
  obtain ⟨a', tr, s⟩ := h.at_ ht
  intro j hj
  rcases ahead_spec s.ahead j hj with c | ⟨e, he', hb, hlt, c⟩
  · simp at c
  · have hon := he e he' hb
    rcases c with rfl | ⟨q, hq, hqj⟩
    · exact hon
    · have hq' : (pre.map (·.mask))[(pre.map (·.mask)).length - 1 - e.on]? = some q := by simpa using hq
      have hst := Stands.of_getElem (rs := pre.map (·.mask)) (by simpa using hlt) hq'
      obtain ⟨x, hx⟩ := Stands.ex (rs := pre) hlt
      have : q = x.mask := by
        have := hx.getElem
        rw [List.getElem?_map, List.length_map, this] at hq'
        simpa using hq'.symm
      exact hS e.on x (ht.sub hx) hon j (by rw [← this]; exact hqj)
theorem noClash_spec {mask : Nat} {y : Inf} : ∀ {l : List Inf}, noClash mask y l = true → ∀ x ∈ l, Nat.testBit mask x.at_ = true ∨ clash x y = false
  | [], _, x, hx => by cases hx
  | z :: l, h, x, hx => by
    simp only [noClash, Bool.and_eq_true, Bool.or_eq_true, Bool.not_eq_true'] at h
    rcases List.mem_cons.1 hx with rfl | hx
    · exact h.1
    · exact noClash_spec h.2 x hx
/-- Two operations of the text, the one ahead of the other: either it stands ahead in each order, or they may be exchanged. -/
theorem Tr.pair {rs pre : List Rc} {a : T V} {st : St} {r : Rc} (h : Tr P call ops m a0 st0 rs a st) (ht : Tail rs r pre) {j : Nat} {x : Rc} (hx : Stands pre j x) : Nat.testBit r.mask j = true ∨ Run.clash x.inf r.inf = false := by
  obtain ⟨a', tr, s⟩ := h.at_ ht
  obtain ⟨pre2, t2, e2⟩ := hx.tail
  obtain ⟨a2, tr2, s2⟩ := tr.at_ t2
  have hi := s2.lo.2.2.1
  have hmem : x.inf ∈ pre.map (·.inf) := by
    refine List.mem_map.2 ⟨x, ?_, rfl⟩
    have := hx.getElem
    exact List.mem_of_getElem? this
  rcases noClash_spec s.clash x.inf hmem with c | c
  · rw [hi, e2] at c; exact .inl c
  · exact .inr c
theorem memN_spec {t : Nat} : ∀ {l : List Nat}, t ∈ l → memN t l = true
  | x :: l, h => by
    rcases List.mem_cons.1 h with rfl | h
    · simp [memN, Nat.beq_refl]
    · simp [memN, memN_spec h]
theorem clash_spec {x y : Inf} (h : Run.clash x y = false) : (∀ t, x.dst = some t → t ∉ y.rt) ∧ (∀ t, x.dst = some t → y.dst ≠ some t) ∧ (∀ t, y.dst = some t → t ∉ x.rt) ∧ (x.wr = true → Foot.meets x.foot y.foot = false) ∧ (y.wr = true → Foot.meets x.foot y.foot = false) ∧ Foot.within x.lo x.hi y.foot = false := by
  simp only [Run.clash, Bool.or_eq_false_iff, Bool.and_eq_false_iff] at h
  obtain ⟨⟨⟨⟨⟨h1, h2⟩, h3⟩, h4⟩, h5⟩, h6⟩ := h
  refine ⟨fun t e c => ?_, fun t e c => ?_, fun t e c => ?_, fun e => ?_, fun e => ?_, h6⟩
  · rw [e] at h1; simp only [memO] at h1; rw [memN_spec c] at h1; cases h1
  · rw [e, c] at h2; simp only [sameO] at h2; rw [Nat.beq_refl] at h2; cases h2
  · rw [e] at h3; simp only [memO] at h3; rw [memN_spec c] at h3; cases h3
  · rcases h4 with h4 | h4
    · rw [e] at h4; cases h4
    · exact h4
  · rcases h5 with h5 | h5
    · rw [e] at h5; cases h5
    · exact h5
theorem anyIn_spec {b : Nat} : ∀ {l m : List Nat}, b ∈ l → b ∈ m → anyIn l m = true
  | x :: l, m, h, k => by
    rcases List.mem_cons.1 h with rfl | h
    · simp [anyIn, memN_spec k]
    · simp [anyIn, anyIn_spec h k]
theorem anyWithin_spec {lo hi b : Nat} (h1 : lo ≤ b) (h2 : b < hi) : ∀ {l : List Nat}, b ∈ l → anyWithin lo hi l = true
  | x :: l, h => by
    rcases List.mem_cons.1 h with rfl | h
    · simp [anyWithin, Nat.ble_eq_true_of_le h1, blt_true h2]
    · simp [anyWithin, anyWithin_spec h1 h2 h]
theorem meets_of {f f' : Foot} {mk mk' : Nat} {l l' : List Inf} {b : Nat} (h : Sees f mk l b) (h' : Sees f' mk' l' b) : Foot.meets f f' = true := by
  cases f <;> cases f' <;> first | exact h.elim | exact h'.elim | rfl | exact anyIn_spec h h'
/-- Where one that is told writes, none writes that may stand behind; and what it sees was written by those that stand ahead. -/
theorem Tr.apart (hc : CallOK P call) (hd : DomLt st0.heap st0.next) {rs pre : List Rc} {a : T V} {st : St} {r : Rc} (h : Tr P call ops m a0 st0 rs a st) (ht : Tail rs r pre) {x : Rc} {pre2 : List Rc} (ht2 : Tail pre x pre2) (hn : Nat.testBit r.mask pre2.length = false) (b : Nat) :
    (∀ t, x.o.dst = some t → t ∉ readsOf ops r.o) ∧ (∀ t, x.o.dst = some t → r.o.dst ≠ some t) ∧ (∀ t, r.o.dst = some t → t ∉ readsOf ops x.o) ∧
    (Writes x.inf.foot x.mask (pre2.map (·.inf)) x.inf.wr x.inf.lo x.inf.hi b → ¬ Sees r.inf.foot r.mask (pre.map (·.inf)) b) ∧
    (Writes x.inf.foot x.mask (pre2.map (·.inf)) x.inf.wr x.inf.lo x.inf.hi b → ¬ Writes r.inf.foot r.mask (pre.map (·.inf)) r.inf.wr r.inf.lo r.inf.hi b) ∧
    (Writes r.inf.foot r.mask (pre.map (·.inf)) r.inf.wr r.inf.lo r.inf.hi b → Sees x.inf.foot x.mask (pre2.map (·.inf)) b → x.inf.lo ≤ b) := by
  have cl := (h.pair ht ht2.stands).resolve_left (by rw [hn]; simp)
  obtain ⟨c1, c2, c3, c4, c5, c6⟩ := clash_spec cl
  obtain ⟨a1, tr1, s1⟩ := h.at_ ht
  obtain ⟨a2, tr2, s2⟩ := tr1.at_ ht2
  obtain ⟨_, _, i3, _, i5, i6⟩ := s1.lo
  obtain ⟨_, _, j3, _, j5, j6⟩ := s2.lo
  rw [i5, j6] at c1
  rw [i6, j6] at c2
  rw [i6, j5] at c3
  have hle : x.inf.hi ≤ r.inf.lo := by rw [s1.lo.1]; exact ((tr1.num hc hd).2 x _ ht2.stands).2.2
  have hlx := ((tr1.num hc hd).2 x _ ht2.stands).2.1
  have sees : Writes x.inf.foot x.mask (pre2.map (·.inf)) x.inf.wr x.inf.lo x.inf.hi b → ¬ Sees r.inf.foot r.mask (pre.map (·.inf)) b := by
    intro w se
    rcases w with ⟨w1, w2, _⟩ | w
    · have := c4 w1; rw [meets_of w2 se] at this; cases this
    · cases hf : r.inf.foot with
      | no => rw [hf] at se; exact se
      | few l =>
        rw [hf] at se c6
        simp only [Sees] at se
        simp only [Foot.within, anyWithin_spec w.1 w.2 se] at c6
        cases c6
      | all =>
        rw [hf] at se
        simp only [Sees] at se
        refine se ⟨x.inf, List.mem_map.2 ⟨x, ?_, rfl⟩, by rw [j3]; exact hn, w⟩
        exact List.mem_of_getElem? ht2.stands.getElem
  refine ⟨c1, c2, c3, sees, fun w w' => ?_, fun w se => ?_⟩
  · rcases w' with ⟨_, w2, _⟩ | w'
    · exact sees w w2
    · rcases w with ⟨_, _, w3⟩ | w
      · omega
      · omega
  · rcases w with ⟨w1, w2, _⟩ | w
    · have := c5 w1; rw [meets_of se w2] at this; cases this
    · omega
end
end Go.Proofs.Ythablamjbikllaa.Run
