/- A machine for closed calls: where the machine says that a call without arguments answers true, it does, in each world, and leaves what was there as it was. -/
import Derived.Test.YtcfclmmmfigjgacRunL
set_option linter.unusedVariables false
namespace Go.Proofs.Ytcfclmmmfigjgac.Run
open Go.RowKit

/-- The body of a loop, and what follows. -/
def LoopWp (P : Program) (c : Code) (Q : Exit → Act → World → Prop) (a : Act) (w : World) : Prop :=
  ∀ (b : Frame) (k : List Item) (cs : List Frame), ∃ e a' w', Q e a' w' ∧ Arrives P (lone (b.at a (.code c :: .inLoop c :: k)) cs w) b k cs e a' w'
theorem LoopWp.of {P : Program} {c : Code} {Q : Exit → Act → World → Prop} {a : Act} {w : World} (h : c.wp P (Exit.then (LoopWp P c Q) Q) a w) : LoopWp P c Q a w := by
  intro b k cs
  obtain ⟨e, a₁, w₁, hq, harr⟩ := h b (.inLoop c :: k) cs
  cases e with
  | normal =>
    obtain ⟨e₂, a₂, w₂, hq₂, harr₂⟩ := hq b k cs
    exact ⟨e₂, a₂, w₂, hq₂, .of_steps (Steps.trans harr (.one step_inLoop)) harr₂⟩
  | exit id => exact ⟨_, a₁, w₁, hq, .pass (x := .inLoop c) rfl (fun _ _ => .inl (by simp)) harr⟩
  | goto l => exact ⟨_, a₁, w₁, hq, .pass (x := .inLoop c) rfl (fun _ _ => .inl (by simp)) harr⟩
  | ret => exact ⟨_, a₁, w₁, hq, .pass (x := .inLoop c) rfl (fun _ _ => .inl (by simp)) harr⟩
  | panic ch => exact ⟨_, a₁, w₁, hq, .pass (x := .inLoop c) rfl (fun _ _ => .inl (by simp)) harr⟩
  | outgrown => exact ⟨_, a₁, w₁, hq, .pass (x := .inLoop c) rfl (fun _ _ => .inl (by simp)) harr⟩
theorem LoopWp.loop {P : Program} {c : Code} {Q : Exit → Act → World → Prop} {a : Act} {w : World} (h : LoopWp P c Q a w) : (Code.loop c).wp P Q a w := fun b k cs =>
  let ⟨e, a', w', hq, harr⟩ := h b k cs
  ⟨e, a', w', hq, .of_steps (.one step_loop) harr⟩
theorem LoopWp.mono {P : Program} {c : Code} {Q Q' : Exit → Act → World → Prop} {a : Act} {w : World} (h : LoopWp P c Q a w) (hq : ∀ e a w, Q e a w → Q' e a w) : LoopWp P c Q' a w := fun b k cs =>
  let ⟨e, a', w', q, r⟩ := h b k cs
  ⟨e, a', w', hq _ _ _ q, r⟩

/-! ### what is handed back -/
theorem resV_ok {P : Program} {ρ : Ren} {a : T V} {m : Nat} {A : Act} {h : T Blk} {W : World} (ha : AR ρ a.get m A) (g : Good P ρ h.get W) {f : ResultVar → Sem Value} (f1 : ∀ t, f (.tmp t) = pure (A.tmps.getD t undef)) (f2 : ∀ a t, f (.cell a t) = do loadVar t (← asAddr (A.tmps.getD a undef))) :
    ∀ {l : List ResultVar} {vs : List V}, resV P a h l = some vs → ∃ xs, V.reals ρ vs = some xs ∧ (l.mapM f).run P W = .ok xs W
  | [], vs, hv => by simp only [resV, Option.some.injEq] at hv; subst hv; exact ⟨[], rfl, rfl⟩
  | .tmp t :: l, vs, hv => by
    simp only [resV] at hv
    split at hv
    · cases hv
    · rename_i v hav
      split at hv
      · cases hv
      · rename_i ws hw
        simp only [Option.some.injEq] at hv
        subst hv
        obtain ⟨x, x1, x2⟩ := ha.at_ t v hav
        obtain ⟨xs, q1, q2⟩ := resV_ok ha g f1 f2 hw
        refine ⟨x :: xs, by simp only [V.reals, x1, q1, Option.bind_some, Option.map_some], ?_⟩
        have : A.tmps.getD t undef = x := by simp [Array.getD_eq_getD_getElem?, x2]
        simp only [List.mapM_cons, Sem.run_bind, Sem.run_pure, Result.andThen_ok, f1, this, q2]
  | .cell t ty :: l, vs, hv => by
    simp only [resV] at hv
    split at hv
    · rename_i b off hav
      split at hv
      · cases hv
      · rename_i v hl
        split at hv
        · cases hv
        · rename_i ws hw
          simp only [Option.some.injEq] at hv
          subst hv
          obtain ⟨x, x1, x2⟩ := ha.at_ t _ hav
          obtain ⟨r, κ, y, l1, l2, l3⟩ := load_ok g hl
          simp only [V.real, C.real, l1, Option.map_some, Option.some.injEq] at x1
          obtain ⟨xs, q1, q2⟩ := resV_ok ha g f1 f2 hw
          refine ⟨y :: xs, by simp only [V.reals, l2, q1, Option.bind_some, Option.map_some], ?_⟩
          have : A.tmps.getD t undef = .pointer (some ⟨r, off, none⟩) := by simp [Array.getD_eq_getD_getElem?, x2, ← x1]
          have ha : (asAddr (.pointer (some ⟨r, off, none⟩))).run P W = .ok ⟨r, off, none⟩ W := rfl
          simp only [List.mapM_cons, Sem.run_bind, Sem.run_pure, Result.andThen_ok, f2, this, ha, l3, q2]
    · cases hv
theorem results_ok {P : Program} {ρ : Ren} {a : T V} {m : Nat} {A : Act} {h : T Blk} {W : World} (ha : AR ρ a.get m A) (g : Good P ρ h.get W) {fn : Func} {vs : List V} (hv : resV P a h fn.results.toList = some vs) :
    ∃ x, (oneV vs).real ρ = some x ∧ (results fn A.tmps).run P W = .ok x W := by
  have key : ∀ f : ResultVar → Sem Value, (∀ t, f (.tmp t) = pure (A.tmps.getD t undef)) → (∀ a t, f (.cell a t) = do loadVar t (← asAddr (A.tmps.getD a undef))) → ∃ x, (oneV vs).real ρ = some x ∧
      (do let vs ← fn.results.mapM f
          pure (if h : vs.size = 1 then vs[0] else .tuple vs) : Sem Value).run P W = .ok x W := by
    intro f f1 f2
    obtain ⟨xs, q1, q2⟩ := resV_ok ha g f1 f2 hv
    have hrun : (do let vs ← fn.results.mapM f
                    pure (if h : vs.size = 1 then vs[0] else .tuple vs) : Sem Value).run P W = .ok (if h : xs.toArray.size = 1 then xs.toArray[0] else .tuple xs.toArray) W := by
      simp only [Array.mapM_eq_mapM_toList, Sem.run_bind, Sem.run_map, q2, Result.andThen_ok, Sem.run_pure]
    have hlen := (V.reals_spec q1).1
    match vs, xs, q1, hlen, hrun with
    | [], [], _, _, hrun => exact ⟨.tuple #[], rfl, hrun⟩
    | [v], [x], q1, _, hrun =>
      refine ⟨x, ?_, hrun⟩
      simp only [V.reals, Option.bind_eq_some_iff, Option.map_eq_some_iff, Option.some.injEq] at q1
      obtain ⟨y, hy, _, _, e⟩ := q1
      simp only [List.cons.injEq] at e
      rw [← e.1]
      exact hy
    | v :: w :: l, x :: y :: r, q1, _, hrun =>
      refine ⟨.tuple (x :: y :: r).toArray, ?_, ?_⟩
      · simp only [oneV, V.real, q1, Option.map_some]
      · rw [hrun, dif_neg (by simp)]
  exact key _ (fun _ => rfl) (fun _ _ => rfl)

/-! ### the machine -/
/-- What the machine says of a piece of code. -/
def CodeOK (P : Program) (lp : Bool) (c : Code) (m : Nat) (a : T V) (st : St) (e : Exit) (a' : T V) (st' : St) : Prop :=
  Low st st' ∧ ∀ ρ (A : Act) W, AR ρ a.get m A → Good P ρ st.heap.get W → Fresh ρ st.next st'.next → ∀ Q : Exit → Act → World → Prop,
    (∀ ρ' A' W', Keep ρ st.heap.get W ρ' st'.heap.get W' st.next st'.next → Good P ρ' st'.heap.get W' → AR ρ' a'.get m A' → Q e A' W') → (bif lp then LoopWp P c Q A W else c.wp P Q A W)
def GoOK (P : Program) (go : Code → Nat → T V → St → Option (Exit × T V × St)) : Prop :=
  ∀ c m a st e a' st', go c m a st = some (e, a', st') → DomLt st.heap st.next → CodeOK P false c m a st e a' st'
theorem T.lay_dom (l : List V) : ∀ t, (T.lay l 0 T.leaf).get t = l[t]? := fun t => by
  rw [T.get_lay]
  by_cases c : 0 ≤ t ∧ t < 0 + l.length
  · rw [if_pos c, Nat.sub_zero]
  · rw [if_neg c, List.getElem?_eq_none (by omega)]; rfl
theorem call_ok {P : Program} {go : Code → Nat → T V → St → Option (Exit × T V × St)} (hgo : GoOK P go) : CallOK P (callF P go) := by
  have main : ∀ {f : Nat} {args : List V} {st : St} {v : V} {st' : St}, callF P go f args st = some (v, st') → ∃ fn c a e, P.funcs[f]? = some fn ∧ (fn.name == "runtime.NumGoroutine") = false ∧ fn.body = some c ∧ (e = .normal ∨ e = .ret) ∧
      go c (args.length + (fn.ntmps - args.length)) (T.lay args 0 .leaf) st = some (e, a, st') ∧ ∃ vs, resV P a st'.heap fn.results.toList = some vs ∧ v = oneV vs := by
    intro f args st v st' h
    unfold callF at h
    split at h
    · cases h
    · rename_i fn hf
      cases hn : (fn.name == "runtime.NumGoroutine") with
      | true => rw [hn] at h; cases h
      | false =>
        rw [hn] at h
        simp only [cond_false] at h
        split at h
        · cases h
        · rename_i c hb
          split at h
          · rename_i a st1 hg
            split at h
            · cases h
            · rename_i vs hv
              simp only [Option.some.injEq, Prod.mk.injEq] at h
              obtain ⟨rfl, rfl⟩ := h
              exact ⟨fn, c, a, .normal, hf, hn, hb, .inl rfl, hg, vs, hv, rfl⟩
          · rename_i a st1 hg
            split at h
            · cases h
            · rename_i vs hv
              simp only [Option.some.injEq, Prod.mk.injEq] at h
              obtain ⟨rfl, rfl⟩ := h
              exact ⟨fn, c, a, .ret, hf, hn, hb, .inr rfl, hg, vs, hv, rfl⟩
          · cases h
  refine ⟨fun h hd => ?_, fun h => ?_, fun h hd ρ W xs hx hg hf => ?_⟩
  · obtain ⟨fn, c, a, e, _, _, _, _, h1, _⟩ := main h
    exact (hgo _ _ _ _ _ _ _ h1 hd).1
  · obtain ⟨fn, c, a, e, h1, h2, h3, _⟩ := main h
    exact ⟨fn, c, h1, h2, h3⟩
  · rename_i f args st v st'
    obtain ⟨fn, c, a, e, h1, h2, h3, he, h4, vs, h5, rfl⟩ := main h
    obtain ⟨x1, x2⟩ := V.reals_spec hx
    refine calls_of_wp h1 h3 ?_
    have hA : AR ρ (T.lay args 0 T.leaf).get (args.length + (fn.ntmps - args.length)) { tmps := xs.toArray ++ Array.replicate (fn.ntmps - xs.toArray.size) undef, defers := [] } := by
      refine ⟨rfl, by simp [x1], fun t u ht => ?_⟩
      rw [T.lay_dom] at ht
      obtain ⟨y, y1, y2⟩ := x2 t u ht
      refine ⟨y, y1, ?_⟩
      have : t < xs.length := by have := (List.getElem?_eq_some_iff.1 ht).1; omega
      rw [Array.getElem?_append, if_pos (by simpa using this)]
      simpa using y2
    have := (hgo _ _ _ _ _ _ _ h4 hd).2 ρ _ W hA hg hf (bodyPost P fn fun e W' => ∃ ρ' x, e = .returned x ∧ (oneV vs).real ρ' = some x ∧ Good P ρ' st'.heap.get W' ∧ Keep ρ st.heap.get W ρ' st'.heap.get W' st.next st'.next) ?_
    · exact this
    · intro ρ' A' W' k1 g1 a1
      obtain ⟨y, y1, y2⟩ := results_ok a1 g1 h5
      rcases he with rfl | rfl
      · exact ⟨a1.defers, y, y2, ρ', y, rfl, y1, g1, k1⟩
      · exact ⟨a1.defers, y, y2, ρ', y, rfl, y1, g1, k1⟩
theorem run_ok (P : Program) : ∀ (n : Nat) (lp : Bool) (c : Code) (m : Nat) (a : T V) (st : St) (e : Exit) (a' : T V) (st' : St), run P n lp c m a st = some (e, a', st') → DomLt st.heap st.next → CodeOK P lp c m a st e a' st' := by
  intro n
  induction n with
  | zero => intro lp c m a st e a' st' h; cases lp <;> cases h
  | succ n ih =>
    intro lp c m a st e a' st' h hd
    cases lp with
    | true =>
      simp only [run] at h
      split at h
      · rename_i a1 st1 h1
        obtain ⟨l1, o1⟩ := ih _ _ _ _ _ _ _ _ h1 hd
        obtain ⟨l2, o2⟩ := ih _ _ _ _ _ _ _ _ h (l1.domLt hd)
        refine ⟨l1.trans l2, fun ρ A W hA hg hf Q hq => ?_⟩
        show LoopWp P c Q A W
        refine LoopWp.of ?_
        refine o1 ρ A W hA hg (hf.sub (Nat.le_refl _) l2.num) _ fun ρ1 A1 W1 k1 g1 a1 => ?_
        exact o2 ρ1 A1 W1 a1 g1 (k1.fresh hf) Q fun ρ2 A2 W2 k2 g2 a2 => hq ρ2 A2 W2 (k1.trans k2) g2 a2
      · rename_i hne
        obtain ⟨l1, o1⟩ := ih _ _ _ _ _ _ _ _ h hd
        refine ⟨l1, fun ρ A W hA hg hf Q hq => ?_⟩
        show LoopWp P c Q A W
        refine LoopWp.of ?_
        refine o1 ρ A W hA hg hf _ fun ρ1 A1 W1 k1 g1 a1 => ?_
        have := hq ρ1 A1 W1 k1 g1 a1
        cases e with
        | normal => exact absurd h (hne a' st')
        | _ => exact this
    | false =>
      have hcall : CallOK P (callF P (run P n false)) := call_ok fun c m a st e a' st' h hd => ih false c m a st e a' st' h hd
      cases c with
      | skip =>
        simp only [run, Option.some.injEq, Prod.mk.injEq] at h
        obtain ⟨rfl, rfl, rfl⟩ := h
        exact ⟨Low.refl _, fun ρ A W hA hg hf Q hq => wp_skip (hq ρ A W (Keep.refl _ _ _ _) hg hA)⟩
      | label l =>
        simp only [run, Option.some.injEq, Prod.mk.injEq] at h
        obtain ⟨rfl, rfl, rfl⟩ := h
        exact ⟨Low.refl _, fun ρ A W hA hg hf Q hq => wp_label (hq ρ A W (Keep.refl _ _ _ _) hg hA)⟩
      | ret =>
        simp only [run, Option.some.injEq, Prod.mk.injEq] at h
        obtain ⟨rfl, rfl, rfl⟩ := h
        exact ⟨Low.refl _, fun ρ A W hA hg hf Q hq => wp_ret (hq ρ A W (Keep.refl _ _ _ _) hg hA)⟩
      | exit id =>
        simp only [run, Option.some.injEq, Prod.mk.injEq] at h
        obtain ⟨rfl, rfl, rfl⟩ := h
        exact ⟨Low.refl _, fun ρ A W hA hg hf Q hq => wp_exit (hq ρ A W (Keep.refl _ _ _ _) hg hA)⟩
      | region id ops draw =>
        simp only [run] at h
        split at h
        · cases h
        · rename_i a1 st1 h1
          simp only [Option.some.injEq, Prod.mk.injEq] at h
          obtain ⟨rfl, rfl, rfl⟩ := h
          cases draw with
          | false => exact region_seq hcall h1 hd
          | true =>
            simp only [cond_true] at h1
            obtain ⟨hm, h1⟩ := bif_some h1
            exact region_draw hcall hm h1 hd
      | seq x y =>
        simp only [run] at h
        split at h
        · rename_i a1 st1 h1
          obtain ⟨l1, o1⟩ := ih _ _ _ _ _ _ _ _ h1 hd
          obtain ⟨l2, o2⟩ := ih _ _ _ _ _ _ _ _ h (l1.domLt hd)
          refine ⟨l1.trans l2, fun ρ A W hA hg hf Q hq => wp_seq ?_⟩
          refine o1 ρ A W hA hg (hf.sub (Nat.le_refl _) l2.num) _ fun ρ1 A1 W1 k1 g1 a1 => ?_
          exact o2 ρ1 A1 W1 a1 g1 (k1.fresh hf) Q fun ρ2 A2 W2 k2 g2 a2 => hq ρ2 A2 W2 (k1.trans k2) g2 a2
        · rename_i hne
          obtain ⟨l1, o1⟩ := ih _ _ _ _ _ _ _ _ h hd
          refine ⟨l1, fun ρ A W hA hg hf Q hq => wp_seq ?_⟩
          refine o1 ρ A W hA hg hf _ fun ρ1 A1 W1 k1 g1 a1 => ?_
          have := hq ρ1 A1 W1 k1 g1 a1
          cases e with
          | normal => exact absurd h (hne a' st')
          | _ => exact this
      | cond c x y =>
        simp only [run] at h
        split at h
        · rename_i t ht
          have hc : ∀ ρ (A : Act), AR ρ a.get m A → A.eval c = .bool t := fun ρ A hA => by
            have := (hA.reads (tmpsOf [c]))
            have tl : Tells ρ (ev a) A.eval [c] := by
              intro x hx u hu
              cases x with
              | tmp t =>
                obtain ⟨y, h1, h2⟩ := hA.at_ t u hu
                rw [h1]
                simp [Act.eval, h2]
              | const v =>
                simp only [ev, Option.some.injEq] at hu
                subst hu
                exact V.of_real v ρ
              | global g => cases hu
              | func f =>
                simp only [ev, Option.some.injEq] at hu
                subst hu
                rfl
            have := tl c (by simp) _ ht
            simp only [V.real, C.real, Option.some.injEq] at this
            exact this.symm
          cases t with
          | true =>
            obtain ⟨l1, o1⟩ := ih _ _ _ _ _ _ _ _ h hd
            exact ⟨l1, fun ρ A W hA hg hf Q hq => wp_cond (hc ρ A hA) (o1 ρ A W hA hg hf Q hq)⟩
          | false =>
            obtain ⟨l1, o1⟩ := ih _ _ _ _ _ _ _ _ h hd
            exact ⟨l1, fun ρ A W hA hg hf Q hq => wp_cond (hc ρ A hA) (o1 ρ A W hA hg hf Q hq)⟩
        · cases h
      | block id b =>
        simp only [run] at h
        split at h
        · rename_i i a1 st1 h1
          simp only [Option.some.injEq, Prod.mk.injEq] at h
          obtain ⟨rfl, rfl, rfl⟩ := h
          obtain ⟨l1, o1⟩ := ih _ _ _ _ _ _ _ _ h1 hd
          refine ⟨l1, fun ρ A W hA hg hf Q hq => wp_block ?_⟩
          refine o1 ρ A W hA hg hf _ fun ρ1 A1 W1 k1 g1 a1 => ?_
          have := hq ρ1 A1 W1 k1 g1 a1
          simp only [Exit.inBlock]
          cases q : Nat.beq i id with
          | true => rw [q] at this; rw [if_pos (beq_of q)]; exact this
          | false => rw [q] at this; rw [if_neg (beq_no q)]; exact this
        · rename_i hne
          obtain ⟨l1, o1⟩ := ih _ _ _ _ _ _ _ _ h hd
          refine ⟨l1, fun ρ A W hA hg hf Q hq => wp_block ?_⟩
          refine o1 ρ A W hA hg hf _ fun ρ1 A1 W1 k1 g1 a1 => ?_
          have := hq ρ1 A1 W1 k1 g1 a1
          cases e with
          | exit i => exact absurd h (hne i a' st')
          | _ => exact this
      | loop b =>
        simp only [run] at h
        obtain ⟨l1, o1⟩ := ih _ _ _ _ _ _ _ _ h hd
        exact ⟨l1, fun ρ A W hA hg hf Q hq => LoopWp.loop (o1 ρ A W hA hg hf Q hq)⟩
      | rangeFunc f p as b => simp only [run] at h; cases h
      | scope b => simp only [run] at h; cases h
      | goto l => simp only [run] at h; cases h
      | refuse w => simp only [run] at h; cases h
/-- WHERE THE MACHINE SAYS SO, a call without arguments answers true, and all that was there is as it was. -/
theorem says_true {P : Program} {f fuel : Nat} (h : saysTrue P f fuel = true) (W : World) : Calls P f #[] W fun e W' => e = .returned (.bool true) ∧ Below W.heap.size W W' := by
  have hgo : GoOK P (run P fuel false) := fun c m a st e a' st' h hd => run_ok P fuel false c m a st e a' st' h hd
  have hc := call_ok hgo
  unfold saysTrue at h
  split at h
  · rename_i t st' hr
    subst h
    have hd : DomLt (⟨.leaf, 0, 0⟩ : St).heap (⟨.leaf, 0, 0⟩ : St).next := fun b x hx => by cases hx
    have hg : Good P (fun _ => none) (⟨.leaf, 0, 0⟩ : St).heap.get W := ⟨fun b x hx => (by cases hx), fun b b' x y r κ κ' hx => (by cases hx)⟩
    refine (hc.out hr hd (fun _ => none) W [] rfl hg (fun _ _ _ => rfl)).mono fun e W' => ?_
    rintro ⟨ρ', x, rfl, hx, g', k⟩
    simp only [V.real, C.real, Option.some.injEq] at hx
    subst hx
    refine ⟨rfl, k.os, k.tape, k.output, k.size, fun r hr => k.frame r hr fun ⟨b, y, κ, q, _⟩ => by cases q⟩
  · cases h
end Go.Proofs.Ytcfclmmmfigjgac.Run
