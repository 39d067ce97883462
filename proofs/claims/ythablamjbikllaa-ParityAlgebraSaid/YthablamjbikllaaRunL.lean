/- A machine for closed calls: regions whose order is drawn. What the machine answers in the order of the text, Go answers in each order. -/
import Derived.Test.YthablamjbikllaaRunK
set_option linter.unusedVariables false
namespace Go.Proofs.Ythablamjbikllaa.Run
open Go.RowKit

theorem Keep.join {ρ ρ₁ ρ₂ : Ren} {h h₁ h₂ : Heap} {W W₁ W₂ : World} {n n' : Nat} (a : Keep ρ h W ρ₁ h₁ W₁ n n') (b : Keep ρ₁ h₁ W₁ ρ₂ h₂ W₂ n n') : Keep ρ h W ρ₂ h₂ W₂ n n' where
  le := Ren.le_trans a.le b.le
  new := fun x hx => by
    by_cases c : ρ₁ x = ρ x
    · exact b.new x (fun e => hx (e.trans c))
    · exact a.new x c
  frame := fun r hr hn => by
    rw [b.frame r (by have := a.size; omega) (fun c => by rcases a.owns r c with c | c; omega; exact hn c), a.frame r hr hn]
  size := Nat.le_trans a.size b.size
  owns := fun r hr => by
    rcases b.owns r hr with c | c
    · exact .inl (Nat.le_trans a.size c)
    · exact a.owns r c
  dom := fun x blk hx => by
    rcases b.dom x blk hx with ⟨y, hy⟩ | c
    · exact a.dom x y hy
    · exact .inr c
  os := b.os.trans a.os
  tape := b.tape.trans a.tape
  output := b.output.trans a.output
  num := a.num
theorem Keep.wide {ρ ρ' : Ren} {h h' : Heap} {W W' : World} {n n' m m' : Nat} (a : Keep ρ h W ρ' h' W' n n') (h1 : m ≤ n) (h2 : n' ≤ m') : Keep ρ h W ρ' h' W' m m' :=
  ⟨a.le, fun x hx => by have := a.new x hx; omega, a.frame, a.size, a.owns, fun x y hx => (a.dom x y hx).imp id (fun c => by omega), a.os, a.tape, a.output, by have := a.num; omega⟩
/-- What turns in a part of the memory turns in the whole: g is that part, g' what it becomes, and where nothing is told of it, all is as it was. -/
theorem Good.part {P : Program} {ρ ρ' : Ren} {s g g' s' : Heap} {W W' : World} {n n' : Nat} (hs : Good P ρ s W) (sub : ∀ b x, g b = some x → s b = some x) (k : Keep ρ g W ρ' g' W' n n') (hg : Good P ρ' g' W')
    (h' : ∀ b x, s' b = some x → g' b = some x ∨ (g b = none ∧ s b = some x)) : Good P ρ' s' W' ∧ Keep ρ s W ρ' s' W' n n' := by
  have lt : ∀ r, Owns ρ s r → r < W.heap.size := fun r c => c.lt hs
  -- what is not told of the part stands apart from it
  have far : ∀ b x r κ, g b = none → s b = some x → ρ b = some (r, κ) → ¬ Owns ρ g r := fun b x r κ h1 h2 h3 ⟨b2, y, κ2, q1, q2⟩ => by
    have e := hs.inj b b2 x y r κ κ2 h2 (sub b2 y q1) h3 q2
    rw [e, q1] at h1
    cases h1
  have far' : ∀ b x r κ, g b = none → s b = some x → ρ b = some (r, κ) → ¬ Owns ρ' g' r := fun b x r κ h1 h2 h3 c => by
    rcases k.owns r c with c | c
    · have := lt r ⟨b, x, κ, h2, h3⟩; omega
    · exact far b x r κ h1 h2 h3 c
  constructor
  · constructor
    · intro b x hx
      rcases h' b x hx with c | ⟨c1, c2⟩
      · exact hg.at_ b x c
      · obtain ⟨r, κ, hr, hB⟩ := hs.at_ b x c2
        refine ⟨r, κ, k.le _ _ hr, ?_⟩
        rw [k.frame r (lt r ⟨b, x, κ, c2, hr⟩) (far b x r κ c1 c2 hr)]
        exact hB.mono k.le
    · intro b b2 x y r κ κ2 h1 h2 r1 r2
      rcases h' b x h1 with c | ⟨c1, c2⟩ <;> rcases h' b2 y h2 with d | ⟨d1, d2⟩
      · exact hg.inj b b2 x y r κ κ2 c d r1 r2
      · obtain ⟨r', κ', hr', _⟩ := hs.at_ b2 y d2
        have e := k.le _ _ hr'
        rw [r2] at e
        cases e
        exact absurd ⟨b, x, κ, c, r1⟩ (far' b2 y _ _ d1 d2 hr')
      · obtain ⟨r', κ', hr', _⟩ := hs.at_ b x c2
        have e := k.le _ _ hr'
        rw [r1] at e
        cases e
        exact absurd ⟨b2, y, κ2, d, r2⟩ (far' b x _ _ c1 c2 hr')
      · obtain ⟨r', κ', hr', _⟩ := hs.at_ b x c2
        obtain ⟨r'', κ'', hr'', _⟩ := hs.at_ b2 y d2
        have e := k.le _ _ hr'
        rw [r1] at e
        cases e
        have e := k.le _ _ hr''
        rw [r2] at e
        cases e
        exact hs.inj b b2 x y _ _ _ c2 d2 hr' hr''
  · refine ⟨k.le, k.new, fun r hr hn => k.frame r hr (fun ⟨b, x, κ, q1, q2⟩ => hn ⟨b, x, κ, sub b x q1, q2⟩), k.size, fun r hr => ?_, fun b x hx => ?_, k.os, k.tape, k.output, k.num⟩
    · obtain ⟨b, x, κ, q1, q2⟩ := hr
      rcases h' b x q1 with c | ⟨c1, c2⟩
      · rcases k.owns r ⟨b, x, κ, c, q2⟩ with c | ⟨b2, y, κ2, e1, e2⟩
        · exact .inl c
        · exact .inr ⟨b2, y, κ2, sub b2 y e1, e2⟩
      · obtain ⟨r', κ', hr', _⟩ := hs.at_ b x c2
        have e := k.le _ _ hr'
        rw [q2] at e
        cases e
        exact .inr ⟨b, x, _, c2, hr'⟩
    · rcases h' b x hx with c | ⟨c1, c2⟩
      · rcases k.dom b x c with ⟨y, hy⟩ | c
        · exact .inl ⟨y, sub b y hy⟩
        · exact .inr c
      · exact .inl ⟨x, c2⟩

theorem AR.putF {ρ : Ren} {a f : Nat → Option V} {m : Nat} {A : Act} {d : Option Tmp} {v : V} {x : Value} (k : AR ρ a m A) (hm : ∀ t, d = some t → t < m) (hv : v.real ρ = some x) (hf : ∀ t, f t = if d = some t then some v else a t) : AR ρ f m (A.put d x) := by
  cases d with
  | none => exact ⟨k.defers, k.size, fun t u ht => by rw [hf t, if_neg (by simp)] at ht; exact k.at_ t u ht⟩
  | some s =>
    refine ⟨k.defers, by simp [Act.put, k.size], fun t u ht => ?_⟩
    rw [hf t] at ht
    by_cases c : s = t
    · subst c
      rw [if_pos rfl] at ht
      simp only [Option.some.injEq] at ht
      subst ht
      refine ⟨x, hv, ?_⟩
      have : s < A.tmps.size := by rw [k.size]; exact hm s rfl
      simp [Act.put, this]
    · rw [if_neg (fun e => c (Option.some.inj e))] at ht
      obtain ⟨y, h1, h2⟩ := k.at_ t u ht
      refine ⟨y, h1, ?_⟩
      simp only [Act.put]
      rw [Array.getElem?_setIfInBounds_ne c]
      exact h2
theorem putV_lt {m : Nat} {a a' : T V} {d : Option Tmp} {v : V} (h : putV m a d v = some a') {t : Nat} (e : d = some t) : t < m := by
  subst e
  unfold putV at h
  exact blt_of (bif_some h).1
theorem ahead_lt {k : Nat} {anc : List Nat} : ∀ {l : List Edge} {s mask : Nat}, aheadOf k anc l s = some mask → ∀ e ∈ l, Region.binds .any e = true → e.on < k
  | e :: l, s, mask, h, x, hx, hb => by
    simp only [aheadOf] at h
    cases hbe : Region.binds .any e with
    | false =>
      rw [hbe] at h
      rcases List.mem_cons.1 hx with rfl | hx
      · rw [hb] at hbe; cases hbe
      · exact ahead_lt h x hx hb
    | true =>
      rw [hbe] at h
      simp only [cond_true] at h
      obtain ⟨hlt, h⟩ := bif_some h
      split at h
      · cases h
      · rcases List.mem_cons.1 hx with rfl | hx
        · exact blt_of hlt
        · exact ahead_lt h x hx hb
theorem filter_less {n : Nat} {S : Nat → Bool} {k : Nat} (hk : k < n) (hs : S k = false) : ((List.range n).filter fun i => !(Nat.beq i k || S i)).length < ((List.range n).filter fun i => !S i).length := by
  have e : ((List.range n).filter fun i => !(Nat.beq i k || S i)) = ((List.range n).filter fun i => !S i).filter fun i => !Nat.beq i k := by
    rw [List.filter_filter]
    congr 1
    funext i
    cases Nat.beq i k <;> cases S i <;> rfl
  rw [e]
  refine List.length_filter_lt_length_iff_exists.2 ⟨k, ?_, by simp [Nat.beq_refl]⟩
  rw [List.mem_filter]
  exact ⟨List.mem_range.2 hk, by rw [hs]; rfl⟩
section
variable {P : Program} {call : Caller} {ops : Array Oper} {m : Nat} {a0 : T V} {st0 : St} {rs : List Rc} {aN : T V} {stN : St}
/-- The temporaries behind the operations of S. -/
noncomputable def tv (a0 : T V) (rs : List Rc) (S : Nat → Bool) : Nat → Option V := fun t => lw S (wT t) (a0.get t) rs
/-- The memory behind the operations of S. -/
noncomputable def hv (st0 : St) (rs : List Rc) (S : Nat → Bool) : Heap := fun b => lw S (wH b) (st0.heap.get b) (withPre rs)
theorem wT_dst {t : Nat} {r : Rc} (h : wT t r ≠ none) : r.o.dst = some t := by
  unfold wT at h
  split at h
  · assumption
  · exact absurd rfl h
theorem wH_writes {b : Nat} {x : Rc × List Inf} (h : wH b x ≠ none) : Writes x.1.inf.foot x.1.mask x.2 x.1.inf.wr x.1.inf.lo x.1.inf.hi b := by
  unfold wH at h
  split at h
  · assumption
  · exact absurd rfl h
/-- One more operation, behind those of S. -/
theorem draw_step (hc : CallOK P call) (hd : DomLt st0.heap st0.next) (tr : Tr P call ops m a0 st0 rs aN stN) {S : Nat → Bool} (hS : Closed rs S) {r : Rc} {pre : List Rc} (ht : Tail rs r pre) (hk : S pre.length = false) (ha : ∀ j, Nat.testBit r.mask j = true → S j = true)
    {ρ0 ρ : Ren} {W0 W : World} {A : Act} (hA : AR ρ (tv a0 rs S) m A) (hG : Good P ρ (hv st0 rs S) W) (hK : Keep ρ0 st0.heap.get W0 ρ (hv st0 rs S) W st0.next stN.next) (hF : ∀ k x, Stands rs k x → S k = false → Fresh ρ x.inf.lo x.inf.hi)
    {K : Act → World → Prop} {Q : Exit → Act → World → Prop}
    (next : ∀ ρ' A' W', AR ρ' (tv a0 rs fun i => Nat.beq i pre.length || S i) m A' → Good P ρ' (hv st0 rs fun i => Nat.beq i pre.length || S i) W' → Keep ρ0 st0.heap.get W0 ρ' (hv st0 rs fun i => Nat.beq i pre.length || S i) W' st0.next stN.next →
      (∀ k x, Stands rs k x → (Nat.beq k pre.length || S k) = false → Fresh ρ' x.inf.lo x.inf.hi) → K A' W') : wpOp P ops Q pre.length K A W := by
  obtain ⟨a', tr1, s1⟩ := tr.at_ ht
  obtain ⟨i1, i2, i3, i4, i5, i6⟩ := s1.lo
  -- those that stand behind it in the text, and have been carried out: it does not stand ahead of them
  have late : ∀ {j : Nat} {x : Rc} {pre2 : List Rc}, Tail rs x pre2 → pre2.length = j → pre.length < j → S j = true → Tail pre2 r pre ∧ Nat.testBit x.mask pre.length = false := by
    intro j x pre2 h2 e hlt hj
    constructor
    · have := h2.down (by omega) ht.stands
      obtain ⟨pre', t', e'⟩ := this.tail
      have : pre' = pre := by
        have u : ∀ {l : List Rc} {x y : Rc} {p q : List Rc}, Tail l x p → Tail l y q → p.length = q.length → p = q := by
          intro l x y p q h
          induction h with
          | here r rs => intro h' e; cases h' with
            | here => rfl
            | there t => have := t.stands.lt; omega
          | there t ih => intro h' e; cases h' with
            | here => have := t.stands.lt; omega
            | there t' => exact ih t' e
        have lift : ∀ {l p q : List Rc} {x y : Rc}, Tail l x p → Tail p y q → Tail l y q := by
          intro l p q x y h
          induction h with
          | here r rs => exact fun k => .there k
          | there t ih => exact fun k => .there (ih k)
        exact u (lift h2 t') ht e'
      rwa [this] at t'
    · cases q : Nat.testBit x.mask pre.length with
      | false => rfl
      | true =>
        have := hS j x (by rw [← e]; exact h2.stands) hj pre.length q
        rw [hk] at this
        cases this
  -- those that stand ahead of it in the text, and of which it hangs not
  have early : ∀ {j : Nat} {x : Rc}, Stands pre j x → S j = false → Nat.testBit r.mask j = false := fun {j x} h1 h2 => by
    cases q : Nat.testBit r.mask j with
    | false => rfl
    | true => rw [ha j q] at h2; cases h2
  -- what it reads of temporaries
  have ta : ∀ t ∈ readsOf ops r.o, tv a0 rs S t = r.a.get t := by
    intro t hrt
    rw [tr1.tmps t, ← lw_tail ht]
    refine lw_congr fun k x hx hw => ?_
    have hdst := wT_dst hw
    obtain ⟨pre2, t2, e2⟩ := hx.tail
    rcases Nat.lt_trichotomy k pre.length with c | c | c
    · rw [blt_true c]
      cases q : S k with
      | true => rfl
      | false =>
        have hx' := ht.down c hx
        obtain ⟨pre3, t3, e3⟩ := hx'.tail
        have hb := early hx' q
        rw [← e3] at hb
        exact absurd hrt ((tr.apart hc hd ht t3 hb 0).1 t hdst)
    · subst c
      rw [hk]
      cases q : Nat.blt pre.length pre.length with
      | false => rfl
      | true => have := blt_of q; omega
    · cases q : S k with
      | false =>
        cases q2 : Nat.blt k pre.length with
        | false => rfl
        | true => have := blt_of q2; omega
      | true =>
        obtain ⟨l1, l2⟩ := late t2 e2 c q
        exact absurd hrt ((tr.apart hc hd t2 l1 l2 0).2.2.1 t hdst)
  -- what it sees of the memory
  have low := s1.low hc (tr1.dom hc hd)
  have dom1 := tr1.dom hc hd
  let g : Heap := (r.seen (pre.map (·.inf))).heap.get
  have sub : ∀ b x, g b = some x → hv st0 rs S b = some x := by
    intro b x hx
    have hsees : Sees r.inf.foot r.mask (pre.map (·.inf)) b := by
      apply Classical.byContradiction
      intro c
      have : g b = none := (get_sight _ _ _ _ b).2 c
      rw [this] at hx
      cases hx
    have hgb : r.st.heap.get b = some x := by rw [← hx]; exact ((get_sight _ _ _ _ b).1 hsees).symm
    have hlt := dom1 b x hgb
    rw [← hgb, tr1.heap hc hd b, ← lw_tail (withPre_tail ht)]
    refine lw_congr fun k y hy hw => ?_
    have hwr := wH_writes hw
    obtain ⟨pre2, t2, e2, e3⟩ := withPre_stands hy
    rw [e3] at hwr
    rw [withPre_length]
    rcases Nat.lt_trichotomy k pre.length with c | c | c
    · rw [blt_true c]
      cases q : S k with
      | true => rfl
      | false =>
        have hx' := ht.down c (by rw [← e2]; exact t2.stands)
        obtain ⟨pre3, t3, e4⟩ := hx'.tail
        have hb := early hx' q
        rw [← e4] at hb
        have : pre3 = pre2 := by
          have u : ∀ {l : List Rc} {x y : Rc} {p q : List Rc}, Tail l x p → Tail l y q → p.length = q.length → p = q := by
            intro l x y p q h
            induction h with
            | here r rs => intro h' e; cases h' with
              | here => rfl
              | there t => have := t.stands.lt; omega
            | there t ih => intro h' e; cases h' with
              | here => have := t.stands.lt; omega
              | there t' => exact ih t' e
          have lift : ∀ {l p q : List Rc} {x y : Rc}, Tail l x p → Tail p y q → Tail l y q := by
            intro l p q x y h
            induction h with
            | here r rs => exact fun k => .there k
            | there t ih => exact fun k => .there (ih k)
          exact u (lift ht t3) t2 (by omega)
        subst this
        exact absurd hsees ((tr.apart hc hd ht t3 hb b).2.2.2.1 hwr)
    · subst c
      rw [hk]
      cases q : Nat.blt pre.length pre.length with
      | false => rfl
      | true => have := blt_of q; omega
    · cases q : S k with
      | false =>
        cases q2 : Nat.blt k pre.length with
        | false => rfl
        | true => have := blt_of q2; omega
      | true =>
        obtain ⟨l1, l2⟩ := late t2 e2 c q
        have := (tr.apart hc hd t2 l1 l2 b).2.2.2.2.2 hwr hsees
        rw [i1] at this
        omega
  have hsn : (r.seen (pre.map (·.inf))).next = r.inf.lo := i1.symm
  refine (oper_ok hc s1.eval (sight_dom (tr1.dom hc hd))).2 ρ A W (fun t hrt u hu => hA.at_ t u (by rw [ta t hrt]; exact hu)) (hG.sub sub) (by rw [hsn, ← i2]; exact hF pre.length r ht.stands hk) K Q pre.length s1.op ?_
  intro ρ' W' x k1 g1 v1
  -- the temporaries behind it
  have tv' : ∀ t, tv a0 rs (fun i => Nat.beq i pre.length || S i) t = if r.o.dst = some t then some r.v else tv a0 rs S t := by
    intro t
    have := lw_add (w := wT t) (x0 := a0.get t) hk ht.stands fun j y hy hlt hj => by
      apply Classical.byContradiction
      intro c
      have c1 : wT t y ≠ none := fun e => c (.inl e)
      have c2 : wT t r ≠ none := fun e => c (.inr e)
      obtain ⟨pre2, t2, e2⟩ := hy.tail
      obtain ⟨l1, l2⟩ := late t2 e2 hlt hj
      exact (tr.apart hc hd t2 l1 l2 0).2.1 t (wT_dst c2) (wT_dst c1)
    unfold tv
    rw [this]
    by_cases c : r.o.dst = some t
    · rw [show wT t r = some (some r.v) from if_pos c, if_pos c]
    · rw [show wT t r = none from if_neg c, if_neg c]
  -- the memory behind it
  have hv' : ∀ b, hv st0 rs (fun i => Nat.beq i pre.length || S i) b = match wH b (r, pre.map (·.inf)) with | some y => y | none => hv st0 rs S b := by
    intro b
    have e := withPre_length pre
    have hst := (withPre_tail ht).stands
    rw [e] at hst
    have q := lw_add (w := wH b) (x0 := st0.heap.get b) hk hst fun j y hy hlt hj => by
      apply Classical.byContradiction
      intro c
      have c1 : wH b y ≠ none := fun e => c (.inl e)
      have c2 : wH b (r, pre.map (·.inf)) ≠ none := fun e => c (.inr e)
      obtain ⟨pre2, t2, e2, e3⟩ := withPre_stands hy
      have w1 := wH_writes c1
      rw [e3] at w1
      obtain ⟨l1, l2⟩ := late t2 e2 hlt hj
      exact (tr.apart hc hd t2 l1 l2 b).2.2.2.2.1 (wH_writes c2) w1
    unfold hv
    rw [q]
    cases wH b (r, pre.map (·.inf)) <;> rfl
  have num := (tr.num hc hd).2 r _ ht.stands
  have key : ∀ b y, hv st0 rs (fun i => Nat.beq i pre.length || S i) b = some y → r.s'.heap.get b = some y ∨ (g b = none ∧ hv st0 rs S b = some y) := by
    intro b y hy
    rw [hv' b] at hy
    by_cases w : Writes r.inf.foot r.mask (pre.map (·.inf)) r.inf.wr r.inf.lo r.inf.hi b
    · rw [show wH b (r, pre.map (·.inf)) = some (r.s'.heap.get b) from if_pos w] at hy
      exact .inl hy
    · rw [show wH b (r, pre.map (·.inf)) = none from if_neg w] at hy
      cases hg : g b with
      | none => exact .inr ⟨rfl, hy⟩
      | some z =>
        left
        have hz := sub b z hg
        rw [hz] at hy
        cases hy
        -- seen, not written: as it was
        have hsees : Sees r.inf.foot r.mask (pre.map (·.inf)) b := by
          apply Classical.byContradiction
          intro c
          have : g b = none := (get_sight _ _ _ _ b).2 c
          rw [this] at hg
          cases hg
        have hgb : r.st.heap.get b = some y := by rw [← hg]; exact ((get_sight _ _ _ _ b).1 hsees).symm
        have hlt := dom1 b y hgb
        have hnw : ¬ r.s'.low < r.st.next := fun c => w (.inl ⟨by rw [i4]; exact blt_true c, hsees, by rw [i1]; exact hlt⟩)
        rw [low.same b (by omega) hlt]
        exact hg
  obtain ⟨p1, p2⟩ := hG.part sub k1 g1 key
  refine next ρ' _ W' ((hA.mono k1.le).putF (fun t e => putV_lt s1.put e) v1 tv') p1 (hK.join (p2.wide (by rw [hsn]; exact num.1) (by rw [← i2]; exact num.2.2))) ?_
  intro k y hy hn
  simp only [Bool.or_eq_false_iff] at hn
  have hne := beq_no hn.1
  have hfy := hF k y hy hn.2
  intro b h1 h2
  have dis : ¬ (r.inf.lo ≤ b ∧ b < r.inf.hi) := by
    intro c
    rcases Nat.lt_or_ge k pre.length with q | q
    · have := ((tr1.num hc hd).2 y k (ht.down q hy)).2.2
      rw [i1] at c
      omega
    · obtain ⟨pre2, t2, e2⟩ := hy.tail
      obtain ⟨a2, tr2, s2⟩ := tr.at_ t2
      have := ((tr2.num hc hd).2 r pre.length (t2.down (by omega) ht.stands)).2.2
      rw [s2.lo.1] at h1
      omega
  by_cases c : ρ' b = ρ b
  · rw [c]; exact hfy b h1 h2
  · have := k1.new b c
    rw [hsn, ← i2] at this
    exact absurd this dis
/-- The operations that are ready, one after the other. -/
theorem draw_any (hc : CallOK P call) (hd : DomLt st0.heap st0.next) (tr : Tr P call ops m a0 st0 rs aN stN) (hlen : rs.length = ops.size) {ρ0 : Ren} {W0 : World} {Q : Exit → Act → World → Prop}
    (fin : ∀ ρ' A' W', Keep ρ0 st0.heap.get W0 ρ' stN.heap.get W' st0.next stN.next → Good P ρ' stN.heap.get W' → AR ρ' aN.get m A' → Q .normal A' W') :
    ∀ (fuel : Nat) (listed : Array Bool) (S : Nat → Bool) (ρ : Ren) (A : Act) (W : World), listed.size = ops.size → (∀ i, i < ops.size → listed.getD i false = S i) → (∀ i, ops.size ≤ i → S i = false) → Closed rs S → ((List.range ops.size).filter fun i => !S i).length ≤ fuel →
      AR ρ (tv a0 rs S) m A → Good P ρ (hv st0 rs S) W → Keep ρ0 st0.heap.get W0 ρ (hv st0 rs S) W st0.next stN.next → (∀ k x, Stands rs k x → S k = false → Fresh ρ x.inf.lo x.inf.hi) → wpAny P .any ops Q fuel listed A W := by
  -- all of them: the end
  have done : ∀ (S : Nat → Bool) (ρ : Ren) (A : Act) (W : World), (∀ i, i < ops.size → S i = true) → AR ρ (tv a0 rs S) m A → Good P ρ (hv st0 rs S) W → Keep ρ0 st0.heap.get W0 ρ (hv st0 rs S) W st0.next stN.next → Q .normal A W := by
    intro S ρ A W hall hA hG hK
    have e1 : tv a0 rs S = aN.get := by
      funext t
      rw [tr.tmps t]
      exact lw_congr fun k r hr _ => hall k (by have := hr.lt; omega)
    have e2 : hv st0 rs S = stN.heap.get := by
      funext b
      rw [tr.heap hc hd b]
      exact lw_congr fun k r hr _ => hall k (by have := hr.lt; rw [withPre_length] at this; omega)
    rw [e1] at hA
    rw [e2] at hG hK
    exact fin ρ A W hK hG hA
  -- where something is left, something is ready
  have ready : ∀ (listed : Array Bool) (S : Nat → Bool), listed.size = ops.size → (∀ i, i < ops.size → listed.getD i false = S i) → Region.ready .any ops listed = [] → ∀ i, i < ops.size → S i = true := by
    intro listed S hsz hl he
    intro i
    induction i using Nat.strongRecOn with
    | _ i ih =>
      intro hi
      cases hs : S i with
      | true => rfl
      | false =>
        exfalso
        have hmem : i ∈ Region.ready .any ops listed := by
          unfold Region.ready
          rw [List.mem_filter]
          refine ⟨List.mem_range.2 hi, ?_⟩
          have h1 : listed.getD i true = false := by
            have := hl i hi
            rw [hs] at this
            simp only [Array.getD_eq_getD_getElem?] at this ⊢
            rw [Array.getElem?_eq_getElem (by omega)] at this ⊢
            exact this
          rw [h1]
          obtain ⟨r, hr⟩ := Stands.ex (rs := rs) (k := i) (by omega)
          obtain ⟨pre, t, e⟩ := hr.tail
          obtain ⟨a', tr1, s1⟩ := tr.at_ t
          have hop := s1.op
          rw [e] at hop
          rw [hop]
          simp only [Bool.not_false, Bool.true_and, Option.map_some, Option.getD_some]
          rw [Array.all_eq_true_iff_forall_mem]
          intro x hx
          cases hb : Region.binds .any x with
          | false => rfl
          | true =>
            have hlt : x.on < pre.length := by
              have := ahead_lt s1.ahead x (by simpa using hx) hb
              exact this
            have := ih x.on (by omega) (by omega)
            simp only [Bool.not_true, Bool.false_or]
            rw [hl x.on (by omega)]
            exact this
        rw [he] at hmem
        cases hmem
  intro fuel
  induction fuel with
  | zero =>
    intro listed S ρ A W hsz hl hout hS hf hA hG hK hF
    have hall : ∀ i, i < ops.size → S i = true := fun i hi => by
      have : ((List.range ops.size).filter fun i => !S i) = [] := List.length_eq_zero_iff.1 (by omega)
      have := List.filter_eq_nil_iff.1 this i (List.mem_range.2 hi)
      simpa using this
    refine ⟨?_, done S ρ A W hall hA hG hK⟩
    unfold Region.ready
    rw [List.filter_eq_nil_iff]
    intro i hi c
    have hi := List.mem_range.1 hi
    have : listed.getD i true = true := by
      have := hl i hi
      rw [hall i hi] at this
      simp only [Array.getD_eq_getD_getElem?] at this ⊢
      rw [Array.getElem?_eq_getElem (by omega)] at this ⊢
      exact this
    rw [this] at c
    simp at c
  | succ fuel ih =>
    intro listed S ρ A W hsz hl hout hS hf hA hG hK hF
    refine ⟨fun he => done S ρ A W (ready listed S hsz hl he) hA hG hK, fun i hi => ?_⟩
    unfold Region.ready at hi
    rw [List.mem_filter] at hi
    obtain ⟨hi, hr⟩ := hi
    have hi := List.mem_range.1 hi
    obtain ⟨r, hst⟩ := Stands.ex (rs := rs) (k := i) (by omega)
    obtain ⟨pre, t, e⟩ := hst.tail
    obtain ⟨a', tr1, s1⟩ := tr.at_ t
    have hop := s1.op
    rw [e] at hop
    rw [hop] at hr
    simp only [Option.map_some, Option.getD_some, Bool.and_eq_true, Bool.not_eq_true'] at hr
    obtain ⟨hr1, hr2⟩ := hr
    have hsi : S i = false := by
      rw [← hl i hi]
      simp only [Array.getD_eq_getD_getElem?] at hr1 ⊢
      rw [Array.getElem?_eq_getElem (by omega)] at hr1 ⊢
      exact hr1
    have hedge : ∀ x ∈ r.o.after.toList, Region.binds .any x = true → S x.on = true := fun x hx hb => by
      rw [Array.all_eq_true_iff_forall_mem] at hr2
      have := hr2 x (by simpa using hx)
      rw [hb] at this
      simp only [Bool.not_true, Bool.false_or] at this
      by_cases c : x.on < ops.size
      · rw [← hl x.on c]; exact this
      · simp only [Array.getD_eq_getD_getElem?] at this
        rw [Array.getElem?_eq_none (by omega)] at this
        cases this
    have hahead := tr.ahead t hS hedge
    rw [← e]
    refine draw_step hc hd tr hS t (by rw [e]; exact hsi) hahead hA hG hK hF fun ρ' A' W' hA' hG' hK' hF' => ?_
    refine ih _ (fun j => Nat.beq j pre.length || S j) ρ' A' W' (by simp [hsz]) (fun j hj => ?_) (fun j hj => ?_) (fun k x hx hk j hj => ?_) ?_ hA' hG' hK' hF'
    · simp only [Array.getD_eq_getD_getElem?, Array.getElem?_setIfInBounds, e]
      by_cases c : i = j
      · subst c
        rw [if_pos rfl, if_pos (by omega), Nat.beq_refl]
        rfl
      · rw [if_neg c]
        have : Nat.beq j i = false := by cases q : Nat.beq j i; rfl; have := beq_of q; omega
        rw [this, Bool.false_or, ← hl j hj, Array.getD_eq_getD_getElem?]
    · have : Nat.beq j pre.length = false := by cases q : Nat.beq j pre.length; rfl; have := beq_of q; omega
      simp only [this, Bool.false_or]
      exact hout j hj
    · simp only [Bool.or_eq_true] at hk ⊢
      rcases hk with hk | hk
      · have := beq_of hk
        have e2 := hx.uniq (by rw [this]; exact t.stands)
        rw [e2] at hj
        exact .inr (hahead j hj)
      · exact .inr (hS k x hx hk j hj)
    · have := filter_less (n := ops.size) (S := S) (k := pre.length) (by omega) (by rw [e]; exact hsi)
      omega
/-- A region whose order is drawn. -/
theorem region_draw (hc : CallOK P call) (hm : P.follows .mixedOrders = true) {id : Nat} {a a' : T V} {st st' : St} (h : runDraw P call ops m ops.toList 0 [] [] a st = some (a', st')) (hd : DomLt st.heap st.next) :
    Low st st' ∧ ∀ ρ (A : Act) W, AR ρ a.get m A → Good P ρ st.heap.get W → Fresh ρ st.next st'.next → ∀ Q : Exit → Act → World → Prop,
      (∀ ρ' A' W', Keep ρ st.heap.get W ρ' st'.heap.get W' st.next st'.next → Good P ρ' st'.heap.get W' → AR ρ' a'.get m A' → Q .normal A' W') → (Code.region id ops true).wp P Q A W := by
  obtain ⟨rs, tr, hlen⟩ := draw_tr (a0 := a) (st0 := st) ops.toList [] a st a' st' .nil rfl (by simp) h
  refine ⟨(tr.base hc hd).2.1, fun ρ A W hA hG hF Q hq => wp_region_any hm ?_⟩
  have e1 : tv a rs (fun _ => false) = a.get := funext fun t => lw_none rs
  have e2 : hv st rs (fun _ => false) = st.heap.get := funext fun b => lw_none _
  have hG' : Good P ρ (hv st rs fun _ => false) { W with drawn := W.drawn + 1 } := by rw [e2]; exact hG.of_heap rfl
  have hK' : Keep ρ st.heap.get W ρ (hv st rs fun _ => false) { W with drawn := W.drawn + 1 } st.next st'.next := by
    rw [e2]
    exact (Keep.of_heap (W := W) (W' := { W with drawn := W.drawn + 1 }) st.next rfl rfl rfl rfl).wide (Nat.le_refl _) (tr.num hc hd).1
  refine draw_any hc hd tr hlen (ρ0 := ρ) (W0 := W) (fun ρ' A' W' k g a => hq ρ' A' W' k g a) ops.size (Array.replicate ops.size false) (fun _ => false) ρ A _ (by simp) (fun i hi => by simp [Array.getD_eq_getD_getElem?, hi]) (fun _ _ => rfl) (fun k r _ c => by cases c) ?_ (by rw [e1]; exact hA) hG' hK' ?_
  · have := List.length_filter_le (fun i => !(fun _ : Nat => false) i) (List.range ops.size)
    simpa using this
  · intro k x hx _
    have := (tr.num hc hd).2 x k hx
    exact hF.sub this.1 this.2.2
end
end Go.Proofs.Ythablamjbikllaa.Run
