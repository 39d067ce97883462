/- A machine for closed calls: where the machine says that a call without arguments answers true, it does, in each world, and leaves what was there as it was. -/
import Derived.Test.YthablamjbikllaaRunL
set_option linter.unusedVariables false
namespace Go.Proofs.Ythablamjbikllaa.Run
open Go.RowKit

/-- The body of a loop, and what follows. -/
noncomputable def LoopWp (P : Program) (c : Code) (Q : Exit → Act → World → Prop) (a : Act) (w : World) : Prop :=
  ∀ (b : Frame) (k : List Item) (cs : List Frame), ∃ e a' w', Q e a' w' ∧ Arrives P (lone (b.at a (.code c :: .inLoop c :: k)) cs w) b k cs e a' w'
theorem LoopWp.of {P : Program} {c : Code} {Q : Exit → Act → World → Prop} {a : Act} {w : World} (h : c.wp P (Exit.then (LoopWp P c Q) Q) a w) : LoopWp P c Q a w := by
  intro b k cs
  obtain ⟨e, a₁, w₁, hq, harr⟩ := h b (.inLoop c :: k) cs
  cases e with
  | normal =>
    obtain ⟨e₂, a₂, w₂, hq₂, harr₂⟩ := hq b k cs
    exact ⟨e₂, a₂, w₂, hq₂, .of_steps (Steps.trans harr (.one step_inLoop)) harr₂⟩
  | exit id => exact ⟨_, a₁, w₁, hq, .pass (x := .inLoop c) rfl (fun _ _ => .inl (by simp)) harr⟩
  | goto l => exact ⟨_, a₁, w₁, hq, .pass (x := .inLoop c) rfl (fun _ _ => .inl (by simp)) harr⟩
  | ret => exact ⟨_, a₁, w₁, hq, .pass (x := .inLoop c) rfl (fun _ _ => .inl (by simp)) harr⟩
  | panic ch => exact ⟨_, a₁, w₁, hq, .pass (x := .inLoop c) rfl (fun _ _ => .inl (by simp)) harr⟩
  | outgrown => exact ⟨_, a₁, w₁, hq, .pass (x := .inLoop c) rfl (fun _ _ => .inl (by simp)) harr⟩
theorem LoopWp.loop {P : Program} {c : Code} {Q : Exit → Act → World → Prop} {a : Act} {w : World} (h : LoopWp P c Q a w) : (Code.loop c).wp P Q a w := fun b k cs =>
  let ⟨e, a', w', hq, harr⟩ := h b k cs
  ⟨e, a', w', hq, .of_steps (.one step_loop) harr⟩
theorem LoopWp.mono {P : Program} {c : Code} {Q Q' : Exit → Act → World → Prop} {a : Act} {w : World} (h : LoopWp P c Q a w) (hq : ∀ e a w, Q e a w → Q' e a w) : LoopWp P c Q' a w := fun b k cs =>
  let ⟨e, a', w', q, r⟩ := h b k cs
  ⟨e, a', w', hq _ _ _ q, r⟩

/-! ### what is handed back -/
theorem resV_ok {P : Program} {ρ : Ren} {a : T V} {m : Nat} {A : Act} {h : T Blk} {W : World} (ha : AR ρ a.get m A) (g : Good P ρ h.get W) {f : ResultVar → Sem Value} (f1 : ∀ t, f (.tmp t) = pure (A.tmps.getD t undef)) (f2 : ∀ a t, f (.cell a t) = do loadVar t (← asAddr (A.tmps.getD a undef))) :
    ∀ {l : List ResultVar} {vs : List V}, resV P a h l = some vs → ∃ xs, V.reals ρ vs = some xs ∧ (l.mapM f).run P W = .ok xs W
  | [], vs, hv => by simp only [resV, Option.some.injEq] at hv; subst hv; exact ⟨[], rfl, rfl⟩
  | .tmp t :: l, vs, hv => by
    simp only [resV] at hv
    split at hv
    · cases hv
    · rename_i v hav
      split at hv
      · cases hv
      · rename_i ws hw
        simp only [Option.some.injEq] at hv
        subst hv
        obtain ⟨x, x1, x2⟩ := ha.at_ t v hav
        obtain ⟨xs, q1, q2⟩ := resV_ok ha g f1 f2 hw
        refine ⟨x :: xs, by simp only [V.reals, x1, q1, Option.bind_some, Option.map_some], ?_⟩
        have : A.tmps.getD t undef = x := by simp [Array.getD_eq_getD_getElem?, x2]
        simp only [List.mapM_cons, Sem.run_bind, Sem.run_pure, Result.andThen_ok, f1, this, q2]
  | .cell t ty :: l, vs, hv => by
    simp only [resV] at hv
    split at hv
    · rename_i b off hav
      split at hv
      · cases hv
      · rename_i v hl
        split at hv
        · cases hv
        · rename_i ws hw
          simp only [Option.some.injEq] at hv
          subst hv
          obtain ⟨x, x1, x2⟩ := ha.at_ t _ hav
          obtain ⟨r, κ, y, l1, l2, l3⟩ := load_ok g hl
          simp only [V.real, C.real, l1, Option.map_some, Option.some.injEq] at x1
          obtain ⟨xs, q1, q2⟩ := resV_ok ha g f1 f2 hw
          refine ⟨y :: xs, by simp only [V.reals, l2, q1, Option.bind_some, Option.map_some], ?_⟩
          have : A.tmps.getD t undef = .pointer (some ⟨r, off, none⟩) := by simp [Array.getD_eq_getD_getElem?, x2, ← x1]
          have ha : (asAddr (.pointer (some ⟨r, off, none⟩))).run P W = .ok ⟨r, off, none⟩ W := rfl
          simp only [List.mapM_cons, Sem.run_bind, Sem.run_pure, Result.andThen_ok, f2, this, ha, l3, q2]
    · cases hv
theorem results_ok {P : Program} {ρ : Ren} {a : T V} {m : Nat} {A : Act} {h : T Blk} {W : World} (ha : AR ρ a.get m A) (g : Good P ρ h.get W) {fn : Func} {vs : List V} (hv : resV P a h fn.results.toList = some vs) :
    ∃ x, (oneV vs).real ρ = some x ∧ (results fn A.tmps).run P W = .ok x W := by
  have key : ∀ f : ResultVar → Sem Value, (∀ t, f (.tmp t) = pure (A.tmps.getD t undef)) → (∀ a t, f (.cell a t) = do loadVar t (← asAddr (A.tmps.getD a undef))) → ∃ x, (oneV vs).real ρ = some x ∧
      (do let vs ← fn.results.mapM f
          pure (if h : vs.size = 1 then vs[0] else .tuple vs) : Sem Value).run P W = .ok x W := by
    intro f f1 f2
    obtain ⟨xs, q1, q2⟩ := resV_ok ha g f1 f2 hv
    have hrun : (do let vs ← fn.results.mapM f
                    pure (if h : vs.size = 1 then vs[0] else .tuple vs) : Sem Value).run P W = .ok (if h : xs.toArray.size = 1 then xs.toArray[0] else .tuple xs.toArray) W := by
      simp only [Array.mapM_eq_mapM_toList, Sem.run_bind, Sem.run_map, q2, Result.andThen_ok, Sem.run_pure]
    have hlen := (V.reals_spec q1).1
    match vs, xs, q1, hlen, hrun with
    | [], [], _, _, hrun => exact ⟨.tuple #[], rfl, hrun⟩
    | [v], [x], q1, _, hrun =>
      refine ⟨x, ?_, hrun⟩
      simp only [V.reals, Option.bind_eq_some_iff, Option.map_eq_some_iff, Option.some.injEq] at q1
      obtain ⟨y, hy, _, _, e⟩ := q1
      simp only [List.cons.injEq] at e
      rw [← e.1]
      exact hy
    | v :: w :: l, x :: y :: r, q1, _, hrun =>
      refine ⟨.tuple (x :: y :: r).toArray, ?_, ?_⟩
      · simp only [oneV, V.real, q1, Option.map_some]
      · rw [hrun, dif_neg (by simp)]
  exact key _ (fun _ => rfl) (fun _ _ => rfl)

/-! ### the machine -/
/-- What the machine says of a piece of code. -/
noncomputable def CodeOK (P : Program) (lp : Bool) (c : Code) (m : Nat) (a : T V) (st : St) (e : Exit) (a' : T V) (st' : St) : Prop :=
  Low st st' ∧ ∀ ρ (A : Act) W, AR ρ a.get m A → Good P ρ st.heap.get W → Fresh ρ st.next st'.next → ∀ Q : Exit → Act → World → Prop,
    (∀ ρ' A' W', Keep ρ st.heap.get W ρ' st'.heap.get W' st.next st'.next → Good P ρ' st'.heap.get W' → AR ρ' a'.get m A' → Q e A' W') → (bif lp then LoopWp P c Q A W else c.wp P Q A W)
noncomputable def GoOK (P : Program) (go : Code → Nat → T V → St → Option (Exit × T V × St)) : Prop :=
  ∀ c m a st e a' st', go c m a st = some (e, a', st') → DomLt st.heap st.next → CodeOK P false c m a st e a' st'
theorem T.lay_dom (l : List V) : ∀ t, (T.lay l 0 T.leaf).get t = l[t]? := fun t => by
  rw [T.get_lay]
  by_cases c : 0 ≤ t ∧ t < 0 + l.length
  · rw [if_pos c, Nat.sub_zero]
  · rw [if_neg c, List.getElem?_eq_none (by omega)]; rfl
theorem call_ok {P : Program} {go : Code → Nat → T V → St → Option (Exit × T V × St)} (hgo : GoOK P go) : CallOK P (callF P go) := by
  have main : ∀ {f : Nat} {args : List V} {st : St} {v : V} {st' : St}, callF P go f args st = some (v, st') → ∃ fn c a e, P.funcs[f]? = some fn ∧ (fn.name == "runtime.NumGoroutine") = false ∧ fn.body = some c ∧ (e = .normal ∨ e = .ret) ∧
      go c (args.length + (fn.ntmps - args.length)) (T.lay args 0 .leaf) st = some (e, a, st') ∧ ∃ vs, resV P a st'.heap fn.results.toList = some vs ∧ v = oneV vs := by
    intro f args st v st' h
    unfold callF at h
    split at h
    · cases h
    · rename_i fn hf
      cases hn : (fn.name == "runtime.NumGoroutine") with
      | true => rw [hn] at h; cases h
      | false =>
        rw [hn] at h
        simp only [cond_false] at h
        split at h
        · cases h
        · rename_i c hb
          split at h
          · rename_i a st1 hg
            split at h
            · cases h
            · rename_i vs hv
              simp only [Option.some.injEq, Prod.mk.injEq] at h
              obtain ⟨rfl, rfl⟩ := h
              exact ⟨fn, c, a, .normal, hf, hn, hb, .inl rfl, hg, vs, hv, rfl⟩
          · rename_i a st1 hg
            split at h
            · cases h
            · rename_i vs hv
              simp only [Option.some.injEq, Prod.mk.injEq] at h
              obtain ⟨rfl, rfl⟩ := h
              exact ⟨fn, c, a, .ret, hf, hn, hb, .inr rfl, hg, vs, hv, rfl⟩
          · cases h
  refine ⟨fun h hd => ?_, fun h => ?_, fun h hd ρ W xs hx hg hf => ?_⟩
  · obtain ⟨fn, c, a, e, _, _, _, _, h1, _⟩ := main h
    exact (hgo _ _ _ _ _ _ _ h1 hd).1
  · obtain ⟨fn, c, a, e, h1, h2, h3, _⟩ := main h
    exact ⟨fn, c, h1, h2, h3⟩
  · rename_i f args st v st'
    obtain ⟨fn, c, a, e, h1, h2, h3, he, h4, vs, h5, rfl⟩ := main h
    obtain ⟨x1, x2⟩ := V.reals_spec hx
    refine calls_of_wp h1 h3 ?_
    have hA : AR ρ (T.lay args 0 T.leaf).get (args.length + (fn.ntmps - args.length)) { tmps := xs.toArray ++ Array.replicate (fn.ntmps - xs.toArray.size) undef, defers := [] } := by
      refine ⟨rfl, by simp [x1], fun t u ht => ?_⟩
      rw [T.lay_dom] at ht
      obtain ⟨y, y1, y2⟩ := x2 t u ht
      refine ⟨y, y1, ?_⟩
      have : t < xs.length := by have := (List.getElem?_eq_some_iff.1 ht).1; omega
      rw [Array.getElem?_append, if_pos (by simpa using this)]
      simpa using y2
    have := (hgo _ _ _ _ _ _ _ h4 hd).2 ρ _ W hA hg hf (bodyPost P fn fun e W' => ∃ ρ' x, e = .returned x ∧ (oneV vs).real ρ' = some x ∧ Good P ρ' st'.heap.get W' ∧ Keep ρ st.heap.get W ρ' st'.heap.get W' st.next st'.next) ?_
    · exact this
    · intro ρ' A' W' k1 g1 a1
      obtain ⟨y, y1, y2⟩ := results_ok a1 g1 h5
      rcases he with rfl | rfl
      · exact ⟨a1.defers, y, y2, ρ', y, rfl, y1, g1, k1⟩
      · exact ⟨a1.defers, y, y2, ρ', y, rfl, y1, g1, k1⟩
theorem noBase_ok (P : Program) : CallOK P noBase := ⟨fun h => (by cases h), fun h => (by cases h), fun h => (by cases h)⟩
theorem withBase_ok {P : Program} {base c : Caller} (hb : CallOK P base) (hc : CallOK P c) : CallOK P (withBase base c) := by
  have main : ∀ {f args st v st'}, withBase base c f args st = some (v, st') → base f args st = some (v, st') ∨ c f args st = some (v, st') := by
    intro f args st v st' h
    unfold withBase at h
    split at h
    · rename_i r hr
      simp only [Option.some.injEq] at h
      subst h
      exact .inl hr
    · exact .inr h
  refine ⟨fun h hd => ?_, fun h => ?_, fun h hd => ?_⟩
  · rcases main h with h | h
    · exact hb.low h hd
    · exact hc.low h hd
  · rcases main h with h | h
    · exact hb.body h
    · exact hc.body h
  · rcases main h with h | h
    · exact hb.out h hd
    · exact hc.out h hd
section
variable (P : Program) (base : Caller) (n : Nat) (m : Nat) (a : T V) (st : St)
theorem run_loop (c : Code) : run P base (n + 1) true c m a st = match run P base n false c m a st with
    | some (.normal, a', st') => run P base n true c m a' st'
    | r => r := rfl
theorem run_region (id : Nat) (ops : Array Oper) (draw : Bool) : run P base (n + 1) false (.region id ops draw) m a st = match (bif draw then (bif P.follows .mixedOrders then runDraw P (withBase base (callF P (run P base n false))) ops m ops.toList 0 [] [] a st else none) else runSeq P (withBase base (callF P (run P base n false))) ops m ops.toList a st) with
      | none => none
      | some (a', st') => some (.normal, a', st') := rfl
theorem run_seq (x y : Code) : run P base (n + 1) false (.seq x y) m a st = match run P base n false x m a st with
      | some (.normal, a', st') => run P base n false y m a' st'
      | r => r := rfl
theorem run_cond (c : Operand) (x y : Code) : run P base (n + 1) false (.cond c x y) m a st = match ev a c with
      | some (.c (.sc (.bool t))) => match t with
        | true => run P base n false x m a st
        | false => run P base n false y m a st
      | _ => none := rfl
theorem run_block (id : Nat) (b : Code) : run P base (n + 1) false (.block id b) m a st = match run P base n false b m a st with
      | some (.exit i, a', st') => some (bif Nat.beq i id then .normal else .exit i, a', st')
      | r => r := rfl
theorem run_leaf : run P base (n + 1) false .skip m a st = some (.normal, a, st) ∧ run P base (n + 1) false .ret m a st = some (.ret, a, st) ∧ (∀ l, run P base (n + 1) false (.label l) m a st = some (.normal, a, st)) ∧ (∀ id, run P base (n + 1) false (.exit id) m a st = some (.exit id, a, st)) ∧
    (∀ b, run P base (n + 1) false (.loop b) m a st = run P base n true b m a st) ∧ (∀ f p as b, run P base (n + 1) false (.rangeFunc f p as b) m a st = none) ∧ (∀ b, run P base (n + 1) false (.scope b) m a st = none) ∧ (∀ l, run P base (n + 1) false (.goto l) m a st = none) ∧ (∀ w, run P base (n + 1) false (.refuse w) m a st = none) :=
  ⟨rfl, rfl, fun _ => rfl, fun _ => rfl, fun _ => rfl, fun _ _ _ _ => rfl, fun _ => rfl, fun _ => rfl, fun _ => rfl⟩
end
theorem run_ok (P : Program) {base : Caller} (hbase : CallOK P base) : ∀ (n : Nat) (lp : Bool) (c : Code) (m : Nat) (a : T V) (st : St) (e : Exit) (a' : T V) (st' : St), run P base n lp c m a st = some (e, a', st') → DomLt st.heap st.next → CodeOK P lp c m a st e a' st' := by
  intro n
  induction n with
  | zero => intro lp c m a st e a' st' h; exact absurd h (by intro h; cases h)
  | succ n ih =>
    intro lp c m a st e a' st' h hd
    obtain ⟨r1, r2, r3, r4, r5, r6, r7, r8, r9⟩ := run_leaf P base n m a st
    cases lp with
    | true =>
      rw [run_loop] at h
      split at h
      · rename_i a1 st1 h1
        obtain ⟨l1, o1⟩ := ih _ _ _ _ _ _ _ _ h1 hd
        obtain ⟨l2, o2⟩ := ih _ _ _ _ _ _ _ _ h (l1.domLt hd)
        refine ⟨l1.trans l2, fun ρ A W hA hg hf Q hq => ?_⟩
        show LoopWp P c Q A W
        refine LoopWp.of ?_
        refine o1 ρ A W hA hg (hf.sub (Nat.le_refl _) l2.num) _ fun ρ1 A1 W1 k1 g1 a1 => ?_
        exact o2 ρ1 A1 W1 a1 g1 (k1.fresh hf) Q fun ρ2 A2 W2 k2 g2 a2 => hq ρ2 A2 W2 (k1.trans k2) g2 a2
      · rename_i hne
        obtain ⟨l1, o1⟩ := ih _ _ _ _ _ _ _ _ h hd
        refine ⟨l1, fun ρ A W hA hg hf Q hq => ?_⟩
        show LoopWp P c Q A W
        refine LoopWp.of ?_
        refine o1 ρ A W hA hg hf _ fun ρ1 A1 W1 k1 g1 a1 => ?_
        have := hq ρ1 A1 W1 k1 g1 a1
        cases e with
        | normal => exact absurd h (hne a' st')
        | _ => exact this
    | false =>
      have hcall : CallOK P (withBase base (callF P (run P base n false))) := withBase_ok hbase (call_ok fun c m a st e a' st' h hd => ih false c m a st e a' st' h hd)
      cases c with
      | skip =>
        rw [r1] at h
        simp only [Option.some.injEq, Prod.mk.injEq] at h
        obtain ⟨rfl, rfl, rfl⟩ := h
        exact ⟨Low.refl _, fun ρ A W hA hg hf Q hq => wp_skip (hq ρ A W (Keep.refl _ _ _ _) hg hA)⟩
      | label l =>
        rw [r3] at h
        simp only [Option.some.injEq, Prod.mk.injEq] at h
        obtain ⟨rfl, rfl, rfl⟩ := h
        exact ⟨Low.refl _, fun ρ A W hA hg hf Q hq => wp_label (hq ρ A W (Keep.refl _ _ _ _) hg hA)⟩
      | ret =>
        rw [r2] at h
        simp only [Option.some.injEq, Prod.mk.injEq] at h
        obtain ⟨rfl, rfl, rfl⟩ := h
        exact ⟨Low.refl _, fun ρ A W hA hg hf Q hq => wp_ret (hq ρ A W (Keep.refl _ _ _ _) hg hA)⟩
      | exit id =>
        rw [r4] at h
        simp only [Option.some.injEq, Prod.mk.injEq] at h
        obtain ⟨rfl, rfl, rfl⟩ := h
        exact ⟨Low.refl _, fun ρ A W hA hg hf Q hq => wp_exit (hq ρ A W (Keep.refl _ _ _ _) hg hA)⟩
      | region id ops draw =>
        rw [run_region] at h
        split at h
        · cases h
        · rename_i a1 st1 h1
          simp only [Option.some.injEq, Prod.mk.injEq] at h
          obtain ⟨rfl, rfl, rfl⟩ := h
          cases draw with
          | false => exact region_seq hcall h1 hd
          | true =>
            simp only [cond_true] at h1
            obtain ⟨hm, h1⟩ := bif_some h1
            exact region_draw hcall hm h1 hd
      | seq x y =>
        rw [run_seq] at h
        split at h
        · rename_i a1 st1 h1
          obtain ⟨l1, o1⟩ := ih _ _ _ _ _ _ _ _ h1 hd
          obtain ⟨l2, o2⟩ := ih _ _ _ _ _ _ _ _ h (l1.domLt hd)
          refine ⟨l1.trans l2, fun ρ A W hA hg hf Q hq => wp_seq ?_⟩
          refine o1 ρ A W hA hg (hf.sub (Nat.le_refl _) l2.num) _ fun ρ1 A1 W1 k1 g1 a1 => ?_
          exact o2 ρ1 A1 W1 a1 g1 (k1.fresh hf) Q fun ρ2 A2 W2 k2 g2 a2 => hq ρ2 A2 W2 (k1.trans k2) g2 a2
        · rename_i hne
          obtain ⟨l1, o1⟩ := ih _ _ _ _ _ _ _ _ h hd
          refine ⟨l1, fun ρ A W hA hg hf Q hq => wp_seq ?_⟩
          refine o1 ρ A W hA hg hf _ fun ρ1 A1 W1 k1 g1 a1 => ?_
          have := hq ρ1 A1 W1 k1 g1 a1
          cases e with
          | normal => exact absurd h (hne a' st')
          | _ => exact this
      | cond c x y =>
        rw [run_cond] at h
        split at h
        · rename_i t ht
          have hc : ∀ ρ (A : Act), AR ρ a.get m A → A.eval c = .bool t := fun ρ A hA => by
            have := (hA.reads (tmpsOf [c]))
            have tl : Tells ρ (ev a) A.eval [c] := by
              intro x hx u hu
              cases x with
              | tmp t =>
                obtain ⟨y, h1, h2⟩ := hA.at_ t u hu
                rw [h1]
                simp [Act.eval, h2]
              | const v =>
                simp only [ev, Option.some.injEq] at hu
                subst hu
                exact V.of_real v ρ
              | global g => cases hu
              | func f =>
                simp only [ev, Option.some.injEq] at hu
                subst hu
                rfl
            have := tl c (by simp) _ ht
            simp only [V.real, C.real, Option.some.injEq] at this
            exact this.symm
          cases t with
          | true =>
            obtain ⟨l1, o1⟩ := ih _ _ _ _ _ _ _ _ h hd
            exact ⟨l1, fun ρ A W hA hg hf Q hq => wp_cond (hc ρ A hA) (o1 ρ A W hA hg hf Q hq)⟩
          | false =>
            obtain ⟨l1, o1⟩ := ih _ _ _ _ _ _ _ _ h hd
            exact ⟨l1, fun ρ A W hA hg hf Q hq => wp_cond (hc ρ A hA) (o1 ρ A W hA hg hf Q hq)⟩
        · cases h
      | block id b =>
        rw [run_block] at h
        split at h
        · rename_i i a1 st1 h1
          simp only [Option.some.injEq, Prod.mk.injEq] at h
          obtain ⟨rfl, rfl, rfl⟩ := h
          obtain ⟨l1, o1⟩ := ih _ _ _ _ _ _ _ _ h1 hd
          refine ⟨l1, fun ρ A W hA hg hf Q hq => wp_block ?_⟩
          refine o1 ρ A W hA hg hf _ fun ρ1 A1 W1 k1 g1 a1 => ?_
          have := hq ρ1 A1 W1 k1 g1 a1
          simp only [Exit.inBlock]
          cases q : Nat.beq i id with
          | true => rw [q] at this; rw [if_pos (beq_of q)]; exact this
          | false => rw [q] at this; rw [if_neg (beq_no q)]; exact this
        · rename_i hne
          obtain ⟨l1, o1⟩ := ih _ _ _ _ _ _ _ _ h hd
          refine ⟨l1, fun ρ A W hA hg hf Q hq => wp_block ?_⟩
          refine o1 ρ A W hA hg hf _ fun ρ1 A1 W1 k1 g1 a1 => ?_
          have := hq ρ1 A1 W1 k1 g1 a1
          cases e with
          | exit i => exact absurd h (hne i a' st')
          | _ => exact this
      | loop b =>
        rw [r5] at h
        obtain ⟨l1, o1⟩ := ih _ _ _ _ _ _ _ _ h hd
        exact ⟨l1, fun ρ A W hA hg hf Q hq => LoopWp.loop (o1 ρ A W hA hg hf Q hq)⟩
      | rangeFunc f p as b => rw [r6] at h; cases h
      | scope b => rw [r7] at h; cases h
      | goto l => rw [r8] at h; cases h
      | refuse w => rw [r9] at h; cases h
theorem empty_dom : DomLt (⟨.leaf, 0, 0⟩ : St).heap (⟨.leaf, 0, 0⟩ : St).next := fun b x hx => by cases hx
theorem empty_good (P : Program) (W : World) : Good P (fun _ => none) (⟨.leaf, 0, 0⟩ : St).heap.get W := ⟨fun b x hx => (by cases hx), fun b b' x y r κ κ' hx => (by cases hx)⟩
/-- WHERE THE MACHINE SAYS SO, a call without arguments answers true, and all that was there is as it was. -/
theorem says_trueB {P : Program} {base : Caller} (hb : CallOK P base) {f fuel : Nat} (h : saysTrueB P base f fuel = true) (W : World) : Calls P f #[] W fun e W' => e = .returned (.bool true) ∧ Below W.heap.size W W' := by
  have hgo : GoOK P (run P base fuel false) := fun c m a st e a' st' h hd => run_ok P hb fuel false c m a st e a' st' h hd
  have hc := call_ok hgo
  unfold saysTrueB at h
  split at h
  · rename_i t st' hr
    subst h
    refine (hc.out hr empty_dom (fun _ => none) W [] rfl (empty_good P W) (fun _ _ _ => rfl)).mono fun e W' => ?_
    rintro ⟨ρ', x, rfl, hx, g', k⟩
    simp only [V.real, C.real, Option.some.injEq] at hx
    subst hx
    refine ⟨rfl, k.os, k.tape, k.output, k.size, fun r hr => k.frame r hr fun ⟨b, y, κ, q, _⟩ => by cases q⟩
  · cases h
theorem says_true {P : Program} {f fuel : Nat} (h : saysTrue P f fuel = true) (W : World) : Calls P f #[] W fun e W' => e = .returned (.bool true) ∧ Below W.heap.size W W' := says_trueB (noBase_ok P) h W
/-- What is made once is made each time. -/
theorem made_ok {P : Program} {f fuel : Nat} {blk : Blk} (h : made P f fuel = some blk) : (∃ fn c, P.funcs[f]? = some fn ∧ (fn.name == "runtime.NumGoroutine") = false ∧ fn.body = some c) ∧
    ∀ W, Calls P f #[] W fun e W' => ∃ r, e = .returned (.pointer (some ⟨r, 0, none⟩)) ∧ W.heap.size ≤ r ∧ (∀ ρ, BlkR P ρ 0 blk W'.heap[r]?) ∧ Below W.heap.size W W' := by
  have hgo : GoOK P (run P noBase fuel false) := fun c m a st e a' st' h hd => run_ok P (noBase_ok P) fuel false c m a st e a' st' h hd
  have hc := call_ok hgo
  unfold made at h
  split at h
  · rename_i b st' hr
    split at h
    · rename_i e n cs hb
      split at h
      · rename_i l hl
        split at h
        · rename_i vs hv
          simp only [Option.some.injEq] at h
          subst h
          refine ⟨hc.body hr, fun W => ?_⟩
          refine (hc.out hr empty_dom (fun _ => none) W [] rfl (empty_good P W) (fun _ _ _ => rfl)).mono fun e W' => ?_
          rintro ⟨ρ', x, rfl, hx, g', k⟩
          obtain ⟨r, κ, hrr, hB⟩ := g'.at_ b _ hb
          simp only [V.real, C.real, hrr, Option.map_some, Option.some.injEq] at hx
          subst hx
          refine ⟨r, rfl, ?_, fun ρ => ?_, k.os, k.tape, k.output, k.size, fun r hr => k.frame r hr fun ⟨b, y, κ, q, _⟩ => by cases q⟩
          · rcases k.owns r ⟨b, _, κ, hb, hrr⟩ with c | ⟨b, y, κ, q, _⟩
            · exact c
            · cases q
          · obtain ⟨arr, fz, h1, h2, h3, h4⟩ := hB
            obtain ⟨ws, w1, w2, w3, w4⟩ := blk_row h4 hl (by omega)
            have e1 := C.vals_real hv ρ'
            rw [e1] at w1
            cases w1
            refine ⟨arr, fz, h1, h2, h3, fun i hi => ?_⟩
            simp only [Bool.false_eq_true, if_false] at h3
            have hiv : i < vs.length := by omega
            refine ⟨.sc vs[i], vs[i], ?_, ?_, rfl, ?_⟩
            · rw [T.get_lay]
              unfold scs
              rw [List.length_map, if_pos (by omega), Nat.sub_zero, List.getElem?_map, List.getElem?_eq_getElem hiv]
              rfl
            · have := w4 vs[i] (List.getElem_mem _)
              unfold C.flat
              generalize vs[i] = q at this
              cases q <;> first | rfl | cases this
            · have := w3 i hiv
              rw [Nat.zero_add] at this
              rw [this, List.getElem?_eq_getElem hiv]
        · cases h
      · cases h
    · cases h
  · cases h
theorem base_ok {P : Program} (f0 fuel : Nat) : CallOK P (baseOf P f0 fuel) := by
  have main : ∀ {f args st v st'}, baseOf P f0 fuel f args st = some (v, st') → f = f0 ∧ args = [] ∧ ∃ blk, made P f0 fuel = some blk ∧ v = .c (.ptr st.next 0) ∧ st' = st.new blk := by
    intro f args st v st' h
    unfold baseOf at h
    obtain ⟨c, h⟩ := bif_some h
    split at h
    · split at h
      · rename_i blk hm
        simp only [Option.some.injEq, Prod.mk.injEq] at h
        exact ⟨beq_of c, rfl, blk, hm, h.1.symm, h.2.symm⟩
      · cases h
    · cases h
  refine ⟨fun h hd => ?_, fun h => ?_, fun h hd ρ W xs hx hg hf => ?_⟩
  · obtain ⟨_, _, blk, _, _, rfl⟩ := main h
    exact Low.new _ _
  · obtain ⟨rfl, _, blk, hm, _, _⟩ := main h
    exact (made_ok hm).1
  · rename_i f args st v st'
    obtain ⟨rfl, rfl, blk, hm, rfl, rfl⟩ := main h
    simp only [V.reals, Option.some.injEq] at hx
    subst hx
    refine ((made_ok hm).2 W).mono fun e W' => ?_
    rintro ⟨r, rfl, hlt, hB, hbel⟩
    have hn : ρ st.next = none := hf _ (Nat.le_refl _) (by simp [St.new])
    have le := Ren.le_upd hn (r, 0)
    have hnb : st.heap.get st.next = none := by
      cases e : st.heap.get st.next with
      | none => rfl
      | some x => have := hd _ x e; omega
    have lt : ∀ q, Owns ρ st.heap.get q → q < W.heap.size := fun q k => k.lt hg
    refine ⟨upd ρ st.next (some (r, 0)), _, rfl, by simp [V.real, C.real, upd_same], ?_, ?_⟩
    · simp only [St.new, get_put_upd]
      constructor
      · intro x y hxy
        by_cases c : x = st.next
        · subst c
          rw [upd_same] at hxy ⊢
          cases hxy
          exact ⟨r, 0, rfl, hB _⟩
        · rw [upd_ne _ _ c] at hxy
          obtain ⟨q, κ, hq, hk⟩ := hg.at_ x y hxy
          refine ⟨q, κ, le _ _ hq, ?_⟩
          rw [hbel.block q (lt q ⟨x, y, κ, hxy, hq⟩)]
          exact hk.mono le
      · intro x y bx bY q κ1 κ2 h1 h2 k1 k2
        by_cases c : x = st.next <;> by_cases d : y = st.next
        · omega
        · subst c
          rw [upd_ne _ _ d] at h2 k2
          rw [upd_same] at k1
          cases k1
          have := lt _ ⟨y, bY, κ2, h2, k2⟩
          omega
        · subst d
          rw [upd_ne _ _ c] at h1 k1
          rw [upd_same] at k2
          cases k2
          have := lt _ ⟨x, bx, κ1, h1, k1⟩
          omega
        · rw [upd_ne _ _ c] at h1 k1
          rw [upd_ne _ _ d] at h2 k2
          exact hg.inj x y bx bY q κ1 κ2 h1 h2 k1 k2
    · simp only [St.new, get_put_upd]
      refine ⟨le, fun x hx => ?_, fun q hq _ => hbel.block q hq, hbel.size, fun q hq => ?_, fun x y hx => ?_, hbel.os, hbel.tape, hbel.output, by omega⟩
      · by_cases c : x = st.next
        · omega
        · exact absurd (upd_ne _ _ c) hx
      · obtain ⟨x, y, κ, h1, h2⟩ := hq
        by_cases c : x = st.next
        · subst c; rw [upd_same] at h2; cases h2; exact .inl hlt
        · rw [upd_ne _ _ c] at h1 h2; exact .inr ⟨x, y, κ, h1, h2⟩
      · by_cases c : x = st.next
        · exact .inr (by omega)
        · rw [upd_ne _ _ c] at hx; exact .inl ⟨y, hx⟩
end Go.Proofs.Ythablamjbikllaa.Run
