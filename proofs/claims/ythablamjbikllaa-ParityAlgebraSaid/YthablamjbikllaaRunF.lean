/- A machine for closed calls: each operation answers in Go what the machine says. -/
import Derived.Test.YthablamjbikllaaRunE
set_option linter.unusedVariables false
namespace Go.Proofs.Ythablamjbikllaa.Run
open Go.RowKit

theorem elemOf_spec {P : Program} {t e s : Nat} (h : elemOf? P t = some (e, s)) : P.underlying t = some (.slice e) ∧ sizeP P e = some s := by
  unfold elemOf? at h
  split at h
  · rename_i e' hu
    split at h
    · rename_i s' hs
      simp only [Option.some.injEq, Prod.mk.injEq] at h
      obtain ⟨rfl, rfl⟩ := h
      exact ⟨hu, hs⟩
    · cases h
  · cases h
theorem writeC_ok {P : Program} {ρ : Ren} {st st' : St} {W : World} {b off : Nat} {l : List C} {vs : List Value} (h : writeC st b off l = some st') (g : Good P ρ st.heap.get W) (hl : C.reals ρ l = some vs) :
    ∃ r κ W', ρ b = some (r, κ) ∧ (storeCells ⟨r, off, none⟩ vs).run P W = .ok () W' ∧ Good P ρ st'.heap.get W' ∧ Keep ρ st.heap.get W ρ st'.heap.get W' st.next st'.next := by
  unfold writeC at h
  split at h
  · rename_i elem n gr cs hb
    obtain ⟨c, h⟩ := bif_some h
    simp only [Bool.and_eq_true] at c
    simp only [Option.some.injEq] at h
    subst h
    obtain ⟨r, κ, W', h1, h2, h3, h4⟩ := g.store hb hl c.2 (ble_of c.1) st.next
    have := h2 0
    rw [if_pos (by omega)] at this
    refine ⟨r, κ, W', h1, this, ?_⟩
    simp only [St.wr, get_put_upd]
    exact ⟨h3, h4⟩
  · cases h
theorem writeC_low {st st' : St} {b off : Nat} {l : List C} (h : writeC st b off l = some st') : Low st st' := by
  unfold writeC at h
  split at h
  · obtain ⟨c, h⟩ := bif_some h
    simp only [Option.some.injEq] at h
    subst h
    exact Low.wr _ _ _ ‹_›
  · cases h
theorem storeV_ok {P : Program} {ρ : Ren} {st st' : St} {W : World} {t b off : Nat} {v : V} {x : Value} (h : storeV P t st b off v = some st') (g : Good P ρ st.heap.get W) (hx : v.real ρ = some x) :
    ∃ r κ W', ρ b = some (r, κ) ∧ (storeVar t ⟨r, off, none⟩ x).run P W = .ok () W' ∧ Good P ρ st'.heap.get W' ∧ Keep ρ st.heap.get W ρ st'.heap.get W' st.next st'.next := by
  unfold storeV at h
  split at h
  · cases h
  · rename_i l hl
    split at h
    · cases h
    · rename_i m hm
      obtain ⟨c, h⟩ := bif_some h
      have c := beq_of c
      have hf : l.all C.flat = true := by
        unfold writeC at h
        split at h
        · obtain ⟨c, h⟩ := bif_some h
          simp only [Bool.and_eq_true] at c
          exact c.2
        · cases h
      have hr := V.cells_real hx hl hf
      obtain ⟨r, κ, W', h1, h2, h3, h4⟩ := writeC_ok h g hr
      refine ⟨r, κ, W', h1, ?_, h3, h4⟩
      have : x.cells.size = m := by have := (C.reals_spec hr).1; simp at this; omega
      simp [storeVar, run_size hm, this, h2]
theorem storeV_low {P : Program} {st st' : St} {t b off : Nat} {v : V} (h : storeV P t st b off v = some st') : Low st st' := by
  unfold storeV at h
  split at h
  · cases h
  · split at h
    · cases h
    · obtain ⟨c, h⟩ := bif_some h
      exact writeC_low h
theorem evs_ok {ρ : Ren} {g : Env} {e : Operand → Value} : ∀ {l : List Operand} {vs : List V}, Tells ρ g e l → evs g l = some vs → V.reals ρ vs = some (l.map e)
  | [], vs, _, h => by simp only [evs, Option.some.injEq] at h; subst h; rfl
  | x :: l, vs, ht, h => by
    simp only [evs] at h
    split at h
    · cases h
    · rename_i v hv
      split at h
      · cases h
      · rename_i ws hw
        simp only [Option.some.injEq] at h
        subst h
        have := ht x (by simp) v hv
        have ih := evs_ok (fun y hy => ht y (by simp [hy])) hw
        simp only [V.reals, this, ih, Option.bind_some, Option.map_some, List.map_cons]
theorem cellsOf_ok {ρ : Ren} : ∀ {l : List V} {cs : List C} {vs : List Value}, cellsOf l = some cs → V.reals ρ l = some vs → C.reals ρ cs = some vs
  | [], cs, vs, h, k => by simp only [cellsOf, Option.some.injEq] at h; subst h; exact k
  | .c x :: l, cs, vs, h, k => by
    simp only [cellsOf] at h
    split at h
    · cases h
    · rename_i m hm
      simp only [Option.some.injEq] at h
      subst h
      simp only [V.reals, V.real, Option.bind_eq_some_iff, Option.map_eq_some_iff] at k
      obtain ⟨v, hv, ws, hw, rfl⟩ := k
      simp only [C.reals, hv, cellsOf_ok hm hw, Option.bind_some, Option.map_some]
  | .agg _ :: l, cs, vs, h, k => by simp [cellsOf] at h
  | .tup _ :: l, cs, vs, h, k => by simp [cellsOf] at h
theorem reals_caps {ρ : Ren} : ∀ {l : List C} {vs : List Value}, C.reals ρ l = some vs → V.reals ρ (l.map .c) = some vs
  | [], vs, h => h
  | x :: l, vs, h => by
    simp only [C.reals, Option.bind_eq_some_iff, Option.map_eq_some_iff] at h
    obtain ⟨v, hv, ws, hw, rfl⟩ := h
    simp only [List.map_cons, V.reals, V.real, hv, reals_caps hw, Option.bind_some, Option.map_some]
theorem V.reals_append {ρ : Ren} : ∀ {l m : List V} {vs ws : List Value}, V.reals ρ l = some vs → V.reals ρ m = some ws → V.reals ρ (l ++ m) = some (vs ++ ws)
  | [], m, vs, ws, h, k => by simp only [V.reals, Option.some.injEq] at h; subst h; simpa using k
  | y :: l, m, vs, ws, h, k => by
    simp only [V.reals, Option.bind_eq_some_iff, Option.map_eq_some_iff] at h
    obtain ⟨v, hv, vs', hvs, rfl⟩ := h
    simp only [List.cons_append, V.reals, hv, V.reals_append hvs k, Option.bind_some, Option.map_some]
theorem V.reals_spec {ρ : Ren} : ∀ {l : List V} {vs : List Value}, V.reals ρ l = some vs → vs.length = l.length ∧ ∀ (i : Nat) (x : V), l[i]? = some x → ∃ v, x.real ρ = some v ∧ vs[i]? = some v
  | [], vs, h => by simp only [V.reals, Option.some.injEq] at h; subst h; exact ⟨rfl, fun i x hx => by simp at hx⟩
  | y :: l, vs, h => by
    simp only [V.reals, Option.bind_eq_some_iff, Option.map_eq_some_iff] at h
    obtain ⟨v, hv, vs', hvs, rfl⟩ := h
    obtain ⟨h1, h2⟩ := V.reals_spec hvs
    refine ⟨by simp [h1], fun i x hx => ?_⟩
    match i with
    | 0 => simp only [List.getElem?_cons_zero, Option.some.injEq] at hx; subst hx; exact ⟨v, hv, rfl⟩
    | i + 1 => rw [List.getElem?_cons_succ] at hx ⊢; exact h2 i x hx
theorem indexAddr_ok {P : Program} {ρ : Ren} {t i : Nat} {x v : V} {X : Value} {k : IntKind} (hx : x.real ρ = some X) (h : indexAddrV P t x i = some v) (W : World) :
    ∃ y, v.real ρ = some y ∧ (Instr.indexAt t X (.int k i)).run P W = .ok y W := by
  unfold indexAddrV at h
  split at h
  · rename_i e b off len cap hu
    split at h
    · rename_i s hs
      obtain ⟨c, h⟩ := bif_some h
      have c := blt_of c
      simp only [Option.some.injEq] at h
      subst h
      simp only [V.real, C.real, Option.map_eq_some_iff] at hx
      obtain ⟨p, hp, rfl⟩ := hx
      refine ⟨_, by simp only [V.real, C.real, hp, Option.map_some]; rfl, ?_⟩
      simp [Instr.indexAt, asIntOf, run_under hu, c, run_size hs, add_off]
    · cases h
  · rename_i e b off lo len hu
    split at h
    · rename_i s hs
      obtain ⟨c, h⟩ := bif_some h
      have c := blt_of c
      simp only [Option.some.injEq] at h
      subst h
      simp only [V.real, C.real, Option.map_eq_some_iff] at hx
      obtain ⟨p, hp, rfl⟩ := hx
      refine ⟨_, by simp only [V.real, C.real, hp, Option.map_some]; rfl, ?_⟩
      simp [Instr.indexAt, asIntOf, run_under hu, c, run_size hs, add_off]
    · cases h
  · rename_i n e b off hu
    split at h
    · rename_i s hs
      obtain ⟨c, h⟩ := bif_some h
      have c := blt_of c
      simp only [Option.some.injEq] at h
      subst h
      simp only [V.real, C.real, Option.map_eq_some_iff] at hx
      obtain ⟨p, hp, rfl⟩ := hx
      refine ⟨_, by simp only [V.real, C.real, hp, Option.map_some]; rfl, ?_⟩
      simp [Instr.indexAt, Instr.sureAddr, asIntOf, run_under hu, c, run_size hs, add_off]
    · cases h
  · cases h
theorem fieldAddr_ok {P : Program} {ρ : Ren} {s f : Nat} {x v : V} {X : Value} (hx : x.real ρ = some X) (h : fieldAddrV P s x f = some v) (W : World) :
    ∃ y, v.real ρ = some y ∧ (Instr.fieldAt s X f).run P W = .ok y W := by
  unfold fieldAddrV at h
  split at h
  · rename_i fs b off hu
    split at h
    · rename_i fl hf
      split at h
      · rename_i m hm
        obtain ⟨c, h⟩ := bif_some h
        have c := blt_of c
        simp only [Option.some.injEq] at h
        subst h
        simp only [V.real, C.real, Option.map_eq_some_iff] at hx
        obtain ⟨p, hp, rfl⟩ := hx
        refine ⟨_, by simp only [V.real, C.real, hp, Option.map_some]; rfl, ?_⟩
        have : m ≠ 0 := by omega
        simp [Instr.fieldAt, Instr.sureAddr, run_under hu, hf, fieldPlace, run_size hm, this, add_off]
      · cases h
    · cases h
  · cases h
theorem field_ok {P : Program} {ρ : Ren} {s f : Nat} {x v : V} {X : Value} (hx : x.real ρ = some X) (h : fieldV P s x f = some v) (W : World) :
    ∃ y, v.real ρ = some y ∧ (Instr.field s X f).run P W = .ok y W := by
  unfold fieldV at h
  split at h
  · rename_i fs l hu
    split at h
    · rename_i fl hf
      simp only [V.real, Option.map_eq_some_iff] at hx
      obtain ⟨vs, hvs, rfl⟩ := hx
      obtain ⟨y, h1, h2⟩ := part_ok hvs h W
      refine ⟨y, h1, ?_⟩
      simp [Instr.field, run_under hu, hf, asAgg, h2]
    · cases h
  · cases h
theorem index_ok {P : Program} {ρ : Ren} {s i : Nat} {x v : V} {X : Value} {k : IntKind} (hx : x.real ρ = some X) (h : indexV P s x i = some v) (W : World) :
    ∃ y, v.real ρ = some y ∧ (Instr.index s X (.int k i)).run P W = .ok y W := by
  unfold indexV at h
  split at h
  · rename_i n e l hu
    split at h
    · rename_i m hm
      obtain ⟨c, h⟩ := bif_some h
      have c := blt_of c
      simp only [V.real, Option.map_eq_some_iff] at hx
      obtain ⟨vs, hvs, rfl⟩ := hx
      obtain ⟨y, h1, h2⟩ := part_ok hvs h W
      refine ⟨y, h1, ?_⟩
      simp [Instr.index, asIntOf, run_under hu, c, run_size hm, h2]
    · cases h
  · cases h
theorem len_ok {P : Program} {ρ : Ren} {h : T Blk} {W : World} (g : Good P ρ h.get W) {t : Nat} {x v : V} {X : Value} {ts : Array TypeId} {ty : TypeId} (ht : ts[0]? = some t) (hx : x.real ρ = some X) (hv : lenV P t x h = some v) :
    ∃ y, v.real ρ = some y ∧ (Builtin.len_ ts ty #[X]).run P W = .ok y W := by
  unfold lenV at hv
  split at hv
  · rename_i e b off len cap hu
    simp only [Option.some.injEq] at hv
    subst hv
    simp only [V.real, C.real, Option.map_eq_some_iff] at hx
    obtain ⟨p, hp, rfl⟩ := hx
    refine ⟨_, rfl, ?_⟩
    simp [Builtin.len_, ht, run_under hu, goInt]
  · rename_i e b off lo len hu
    simp only [Option.some.injEq] at hv
    subst hv
    simp only [V.real, C.real, Option.map_eq_some_iff] at hx
    obtain ⟨p, hp, rfl⟩ := hx
    refine ⟨_, rfl, ?_⟩
    simp [Builtin.len_, ht, run_under hu, goInt]
  · rename_i e b off lo l s hu
    simp only [Option.some.injEq] at hv
    subst hv
    simp only [V.real, C.real, Option.map_eq_some_iff] at hx
    obtain ⟨p, hp, rfl⟩ := hx
    refine ⟨_, rfl, ?_⟩
    simp [Builtin.len_, ht, run_under hu, goInt]
  · rename_i k e b hu
    split at hv
    · rename_i es clock hb
      simp only [Option.some.injEq] at hv
      subst hv
      simp only [V.real, C.real, Option.map_eq_some_iff] at hx
      obtain ⟨p, hp, rfl⟩ := hx
      obtain ⟨r, κ, hr, hk⟩ := g.at_ b _ hb
      rw [hp] at hr
      cases hr
      simp only [BlkR] at hk
      refine ⟨_, rfl, ?_⟩
      have ho : (getObj r).run P W = .ok (.map es.toArray clock) W := by simp only [getObj, Sem.run, hk]
      simp [Builtin.len_, ht, run_under hu, goInt, ho]
    · cases hv
  · cases hv

/-! ### appends, copies -/
theorem Keep.low {ρ ρ' : Ren} {h h1 h2 : Heap} {W W' : World} {n m : Nat} (a : Keep ρ h W ρ h1 W n n) (b : Keep ρ h1 W ρ' h2 W' n m) : Keep ρ h W ρ' h2 W' n m := a.trans b
theorem append_ok {P : Program} {ρ : Ren} {st st' : St} {W : World} {sT xT ty : Nat} {s x v : V} {S X : Value} (h : appendV P st sT xT s x = some (v, st')) (hs : s.real ρ = some S) (hx : x.real ρ = some X) (g : Good P ρ st.heap.get W) (f : Fresh ρ st.next st'.next) :
    ∃ ρ' W' y, (Builtin.append_ #[sT, xT] ty #[S, X]).run P W = .ok y W' ∧ v.real ρ' = some y ∧ Good P ρ' st'.heap.get W' ∧ Keep ρ st.heap.get W ρ' st'.heap.get W' st.next st'.next := by
  unfold appendV at h
  split at h
  · rename_i elem size d n he hd hn
    obtain ⟨hu, hsz⟩ := elemOf_spec he
    cases hil : isList d with
    | false => rw [hil] at h; cases h
    | true =>
    rw [hil] at h
    simp only [Bool.not_true, cond_false] at h
    split at h
    · cases h
    · rename_i new hnew
      obtain ⟨vs, v1, v2, v3, v4⟩ := firstC_ok g hx hnew
      have hlen := lenC_ok (P := P) hx hn W
      have vlen := (C.reals_spec v1).1
      split at h
      · -- onto nothing
        rename_i z w
        obtain ⟨c, h⟩ := bif_some h
        simp only [Bool.and_eq_true] at c
        have c1 := beq_of c.1; have c2 := beq_of c.2
        subst c1 c2
        simp only [V.real, C.real, Option.some.injEq] at hs
        subst hs
        cases hn0 : Nat.beq n 0 with
        | true =>
          rw [hn0] at h
          have := beq_of hn0
          subst this
          simp only [cond_true, Option.some.injEq, Prod.mk.injEq] at h
          obtain ⟨rfl, rfl⟩ := h
          refine ⟨ρ, W, _, run_append_in hu hsz hd hil hlen (v4 W rfl) (by omega) rfl, rfl, g, Keep.refl _ _ _ _⟩
        | false =>
          rw [hn0] at h
          have hne := beq_no hn0
          simp only [cond_false] at h
          obtain ⟨⟨i, zz, i1, i2, i3, i4, i5, i6⟩, _, i7⟩ := grow_ok h g f v1
          obtain ⟨newCap, j1, j2⟩ := run_append_grow (ty := ty) (base := none) (sLen := 0) (sCap := 0) (old := #[]) hu hsz hd hil i1 i2 (by simpa using i5) (by simpa using i6) hlen v4 (fun W' _ => by simp [Builtin.firstCells]) (by omega)
          obtain ⟨ρ', k1, k2, k3⟩ := i7 newCap (by omega) { W with drawn := W.drawn + 1, heap := W.heap.push (.cells (#[] ++ vs.toArray ++ Builtin.zeroCells zz.cells (newCap - (0 + n))) elem (0, 0)) } (by simp [zeroV, i1, i2]) rfl rfl rfl
          exact ⟨ρ', _, _, j2, by simpa using k3, k1, k2⟩
      · -- onto a slice of known bearing
        rename_i b off len cap
        simp only [V.real, C.real, Option.map_eq_some_iff] at hs
        obtain ⟨p, hp, rfl⟩ := hs
        cases hc : Nat.ble (len + n) cap with
        | true =>
          rw [hc] at h
          simp only [cond_true] at h
          have hc := ble_of hc
          cases hnl : Nat.beq new.length 0 with
          | true =>
            rw [hnl] at h
            simp only [cond_true, Option.some.injEq, Prod.mk.injEq] at h
            obtain ⟨rfl, rfl⟩ := h
            have h0 : vs = [] := List.length_eq_zero_iff.1 (by have := beq_of hnl; omega)
            subst h0
            exact ⟨ρ, W, _, run_append_in (W' := W) hu hsz hd hil hlen (v4 W rfl) hc (by simp [storeCells]), by simp [V.real, C.real, hp], g, Keep.refl _ _ _ _⟩
          | false =>
            rw [hnl] at h
            simp only [cond_false] at h
            split at h
            · cases h
            · rename_i st2 hw
              simp only [Option.some.injEq, Prod.mk.injEq] at h
              obtain ⟨rfl, rfl⟩ := h
              obtain ⟨r, κ, W', w1, w2, w3, w4⟩ := writeC_ok hw g v1
              rw [hp] at w1
              cases w1
              exact ⟨ρ, W', _, run_append_in hu hsz hd hil hlen (v4 W rfl) hc (by simpa [add_off] using w2), by simp [V.real, C.real, hp], w3, w4⟩
        | false =>
          rw [hc] at h
          simp only [cond_false] at h
          have hc : ¬ len + n ≤ cap := fun c => by rw [Nat.ble_eq_true_of_le c] at hc; cases hc
          split at h
          · cases h
          · rename_i old ho
            obtain ⟨_, h⟩ := bif_some h
            obtain ⟨r, κ, os, o1, o2, o3, o4, o5, o6⟩ := readC_ok g ho
            rw [hp] at o1
            cases o1
            obtain ⟨⟨i, zz, i1, i2, i3, i4, i5, i6⟩, _, i7⟩ := grow_ok h g f (C.reals_append o2 v1)
            have hold : ∀ W', W'.heap = W.heap → (Builtin.firstCells size len (.slice (some ⟨r, off, none⟩) len cap)).run P W' = .ok os.toArray W' := fun W' hW => by
              obtain ⟨r', κ', os', p1, p2, p3, _, _, p6⟩ := readC_ok (g.of_heap hW) ho
              rw [hp] at p1
              cases p1
              rw [o2] at p2
              cases p2
              exact p6
            obtain ⟨newCap, j1, j2⟩ := run_append_grow (ty := ty) (base := some ⟨r, off, none⟩) hu hsz hd hil i1 i2 i5 i6 hlen v4 hold hc
            obtain ⟨ρ', k1, k2, k3⟩ := i7 newCap (by omega) { W with drawn := W.drawn + 1, heap := W.heap.push (.cells (os.toArray ++ vs.toArray ++ Builtin.zeroCells zz.cells (newCap - (len + n))) elem (0, 0)) } (by simp [zeroV, i1, i2]) rfl rfl rfl
            exact ⟨ρ', _, _, j2, k3, k1, k2⟩
      · -- onto a slice of which it isn't known what it bears
        rename_i b off lo len
        simp only [V.real, C.real, Option.map_eq_some_iff] at hs
        obtain ⟨p, hp, rfl⟩ := hs
        cases hz : (Nat.beq n 0 && capOk P st.heap b lo len) with
        | true =>
          rw [hz] at h
          simp only [Bool.and_eq_true] at hz
          simp only [cond_true, Option.some.injEq, Prod.mk.injEq] at h
          obtain ⟨rfl, rfl⟩ := h
          have h0 := beq_of hz.1
          subst h0
          obtain ⟨r, κ, hr, hk⟩ := capOk_spec g hz.2
          rw [hp] at hr
          cases hr
          have h0 : vs = [] := List.length_eq_zero_iff.1 (by omega)
          subst h0
          exact ⟨ρ, W, _, run_append_in (W' := W) hu hsz hd hil hlen (v4 W rfl) (by omega) (by simp [storeCells]), by simp [V.real, C.real, hp], g, Keep.refl _ _ _ _⟩
        | false =>
          rw [hz] at h
          simp only [cond_false] at h
          obtain ⟨c, hq⟩ := bif_some h
          clear h
          simp only [Bool.and_eq_true] at c
          have c1 := beq_of c.1; have c2 := beq_of c.2
          clear c
          subst c1 c2
          split at hq
          · rename_i e k cs hb
            obtain ⟨c, h⟩ := bif_some hq
            clear hq
            simp only [Bool.and_eq_true] at c
            obtain ⟨⟨c1, c2⟩, c3⟩ := c
            replace c1 := beq_of c1; replace c2 := beq_of c2; replace c3 := ble_of c3
            subst c1 c2
            split at h
            · cases h
            · rename_i old ho
              obtain ⟨r, κ, hr, arr, fz, a1, a2, a3, a4⟩ := g.at_ b _ hb
              rw [hp] at hr
              cases hr
              simp only [if_true] at a3
              obtain ⟨a5, i', a6, a7⟩ := a3
              obtain ⟨os, o2, o3, o4, o5⟩ := blk_row a4 ho (by omega)
              simp only [Nat.zero_add] at o4
              have hol := (C.reals_spec o2).1
              have hsize : i'.size = size := by
                unfold sizeP at hsz
                rw [a6] at hsz
                simpa using hsz
              rw [hsize] at a7
              have holdrun : ∀ W', W'.heap = W.heap → (Builtin.firstCells size len (.slice (some ⟨r, 0, none⟩) len (κ - 0))).run P W' = .ok os.toArray W' := fun W' hW => by
                have := run_row (P := P) (W := W') (r := r) (o := 0) (by rw [hW]; exact a1) os (fun q hq => by rw [Nat.zero_add]; exact o4 q hq)
                rw [o3] at this
                exact this
              obtain ⟨d1, d2⟩ := g.drop b st.next
              have hmid : (⟨st.heap.del b, st.next, bif Nat.ble st.low b then st.low else b⟩ : St).heap.get = upd st.heap.get b none := get_del_upd _ _
              rw [← hmid] at d1 d2
              obtain ⟨⟨i, zz, i1, i2, i3, i4, i5, i6⟩, _, i7⟩ := grow_ok h d1 f (C.reals_append o2 v1)
              by_cases hfit : len + n ≤ κ - 0
              · -- in place
                have hst' : st' = (⟨st.heap.del b, st.next, bif Nat.ble st.low b then st.low else b⟩ : St).new (.cells e ((len + n) * size) true (T.lay (old ++ new) 0 .leaf)) ∧ v = .c (.slu st.next 0 0 (len + n)) ∧ (old ++ new).length = (len + n) * size ∧ (old ++ new).all C.flat = true := by
                  unfold growTo at h
                  rw [i1] at h
                  simp only [i2] at h
                  obtain ⟨cc, h⟩ := bif_some h
                  simp only [Bool.and_eq_true] at cc
                  obtain ⟨⟨⟨⟨⟨⟨_, q2⟩, _⟩, _⟩, q5⟩, _⟩, _⟩ := cc
                  simp only [Option.some.injEq, Prod.mk.injEq] at h
                  exact ⟨h.2.symm, h.1.symm, beq_of q2, q5⟩
                obtain ⟨rfl, rfl, q1, q2⟩ := hst'
                have hfr : ρ st.next = none := f _ (Nat.le_refl _) (by simp [St.new])
                obtain ⟨r1, r2⟩ := g.rename (b' := st.next) hb hp hfr
                have hsum : len * size + n * size = (len + n) * size := (Nat.add_mul _ _ _).symm
                have hroom : (len + n) * size ≤ arr.size := by rw [a7]; exact Nat.mul_le_mul_right _ (by omega)
                -- the store
                obtain ⟨arr', s1, s2, s3⟩ := setCells_at r vs (len * size) W arr e fz a1
                obtain ⟨t1, t2, t3⟩ := setCells_rest r vs (len * size) W
                have hrun : (storeCells ((⟨r, 0, none⟩ : Addr).add (len * size)) vs).run P W = .ok () (W.setCells r (len * size) vs) := by
                  have := run_storeCells_cells (P := P) r (0 + len * size) vs 0 W (fun j hj => by rw [cell_of a1, Array.getElem?_eq_getElem (by omega)]; rfl)
                    (fun j hj => by
                      simp only [World.frozen?, a1]
                      rcases a2 with a2 | a2
                      · subst a2; simp
                      · simp; omega) (C.flats_real v1 v2)
                  rw [add_off]
                  simpa using this
                have hB : BlkR P (upd ρ st.next (some (r, κ))) κ (.cells e ((len + n) * size) true (T.lay (old ++ new) 0 .leaf)) (some (.cells arr' e fz)) := by
                  refine BlkR.mono (Ren.le_upd hfr _) ⟨arr', fz, rfl, by rw [s2]; exact a2, ?_, fun q hq => ?_⟩
                  · simp only [if_true]
                    exact ⟨by rw [s2]; exact hroom, i', a6, by rw [s2, hsize]; exact a7⟩
                  · obtain ⟨w, w1, w2⟩ := (C.reals_spec (C.reals_append o2 v1)).2 q (old ++ new)[q] (List.getElem?_eq_getElem (by omega))
                    refine ⟨(old ++ new)[q]'(by omega), w, ?_, List.all_eq_true.1 q2 _ (List.getElem_mem _), w1, ?_⟩
                    · rw [T.get_lay, if_pos (by omega), Nat.sub_zero, List.getElem?_eq_getElem (by omega)]
                    · rw [s3 q]
                      rw [List.getElem?_append] at w2
                      by_cases cq : q < os.length
                      · rw [if_pos cq] at w2
                        rw [if_neg (by omega), o4 q cq]
                        exact w2
                      · rw [if_neg cq] at w2
                        rw [if_pos (by omega), show q - len * size = q - os.length by omega]
                        exact w2
                obtain ⟨u1, u2⟩ := r1.turn (blk := .cells e ((len + n) * size) true (T.lay (old ++ new) 0 .leaf)) (b := st.next) (upd_same _ _ _) (upd_same _ _ _) hB s1 (fun x hx => setCells_heap r vs (len * size) W x hx) (setCells_size r vs (len * size) W) t1 t2 t3 (st.next + 1)
                have hh : upd (upd (upd st.heap.get b none) st.next (some (.cells e (len * size) true cs))) st.next (some (.cells e ((len + n) * size) true (T.lay (old ++ new) 0 .leaf))) = ((⟨st.heap.del b, st.next, bif Nat.ble st.low b then st.low else b⟩ : St).new (.cells e ((len + n) * size) true (T.lay (old ++ new) 0 .leaf))).heap.get := by
                  simp only [St.new, get_put_upd, get_del_upd]
                  funext m
                  unfold upd
                  split <;> simp_all
                rw [hh] at u1 u2
                refine ⟨_, _, _, run_append_in hu hsz hd hil hlen (v4 W rfl) hfit (W' := W.setCells r (len * size) vs) (by simpa using hrun), ?_, u1, ?_⟩
                · simp [V.real, C.real, upd_same]
                · exact r2.trans u2
              · obtain ⟨newCap, j1, j2⟩ := run_append_grow (ty := ty) (base := some ⟨r, 0, none⟩) hu hsz hd hil i1 i2 i5 i6 hlen v4 holdrun hfit
                obtain ⟨ρ', k1, k2, k3⟩ := i7 newCap (by omega) { W with drawn := W.drawn + 1, heap := W.heap.push (.cells (os.toArray ++ vs.toArray ++ Builtin.zeroCells zz.cells (newCap - (len + n))) e (0, 0)) } (by simp [zeroV, i1, i2]) rfl rfl rfl
                exact ⟨ρ', _, _, j2, k3, k1, d2.trans k2⟩
          · cases hq
      · cases h
  · cases h
theorem growTo_low {P : Program} {st st' : St} {elem size need : Nat} {cells : List C} {v : V} (h : growTo P st elem size need cells = some (v, st')) : Low st st' := by
  unfold growTo at h
  split at h
  · split at h
    · obtain ⟨c, h⟩ := bif_some h
      simp only [Option.some.injEq, Prod.mk.injEq] at h
      rw [← h.2]
      exact Low.new _ _
    · cases h
  · cases h
theorem Low.del (st : St) (b : Nat) : Low st ⟨st.heap.del b, st.next, bif Nat.ble st.low b then st.low else b⟩ := ⟨Nat.le_refl _, (low_min _ _).1, fun x h1 _ => by
  simp only [T.get_del] at h1 ⊢
  have := (low_min st.low b).2
  rw [if_neg (by omega)], fun x y hx => by
  simp only [T.get_del] at hx
  split at hx
  · cases hx
  · exact .inl ⟨y, hx⟩⟩
theorem append_low {P : Program} {st st' : St} {sT xT : Nat} {s x v : V} (h : appendV P st sT xT s x = some (v, st')) : Low st st' := by
  unfold appendV at h
  split at h
  · rename_i d _ _ _ _
    rename_i d n _ _ _
    cases hil : isList d with
    | false => rw [hil] at h; cases h
    | true =>
    rw [hil] at h
    simp only [Bool.not_true, cond_false] at h
    split at h
    · cases h
    · split at h
      · obtain ⟨_, h⟩ := bif_some h
        cases hn0 : Nat.beq n 0 with
        | true => rw [hn0] at h; simp only [cond_true, Option.some.injEq, Prod.mk.injEq] at h; rw [← h.2]; exact Low.refl _
        | false => rw [hn0] at h; exact growTo_low h
      · rename_i new _ _ b off len cap
        cases hc : Nat.ble (len + n) cap with
        | true =>
          rw [hc] at h
          simp only [cond_true] at h
          cases hnl : Nat.beq new.length 0 with
          | true => rw [hnl] at h; simp only [cond_true, Option.some.injEq, Prod.mk.injEq] at h; rw [← h.2]; exact Low.refl _
          | false =>
            rw [hnl] at h
            simp only [cond_false] at h
            split at h
            · cases h
            · rename_i hw
              simp only [Option.some.injEq, Prod.mk.injEq] at h
              rw [← h.2]
              exact writeC_low hw
        | false =>
          rw [hc] at h
          simp only [cond_false] at h
          split at h
          · cases h
          · obtain ⟨_, h⟩ := bif_some h
            exact growTo_low h
      · rename_i b off lo len
        cases hz : (Nat.beq n 0 && capOk P st.heap b lo len) with
        | true => rw [hz] at h; simp only [cond_true, Option.some.injEq, Prod.mk.injEq] at h; rw [← h.2]; exact Low.refl _
        | false =>
          rw [hz] at h
          simp only [cond_false] at h
          obtain ⟨_, h⟩ := bif_some h
          split at h
          · obtain ⟨_, h⟩ := bif_some h
            split at h
            · cases h
            · exact (Low.del st b).trans (growTo_low h)
          · cases h
      · cases h
  · cases h
end Go.Proofs.Ythablamjbikllaa.Run
