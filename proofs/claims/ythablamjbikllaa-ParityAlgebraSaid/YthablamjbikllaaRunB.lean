/- A machine for closed calls: what its memory does, step by step (new blocks, stores, blocks that are handed on). -/
import Derived.Test.YthablamjbikllaaRunA
set_option linter.unusedVariables false
namespace Go.Proofs.Ythablamjbikllaa.Run
open Go.RowKit

def upd {α : Type} (f : Nat → Option α) (b : Nat) (x : Option α) : Nat → Option α := fun m => if m = b then x else f m
theorem upd_same {α : Type} (f : Nat → Option α) (b : Nat) (x : Option α) : upd f b x b = x := if_pos rfl
theorem upd_ne {α : Type} (f : Nat → Option α) {b m : Nat} (x : Option α) (h : m ≠ b) : upd f b x m = f m := if_neg h
theorem get_put_upd {α : Type} (t : T α) (n : Nat) (v : α) : (t.put n v).get = upd t.get n (some v) := funext fun m => T.get_put t n m v
theorem get_del_upd {α : Type} (t : T α) (n : Nat) : (t.del n).get = upd t.get n none := funext fun m => T.get_del t n m

theorem Ren.le_upd {ρ : Ren} {b : Nat} (h : ρ b = none) (p : Nat × Nat) : ρ.le (upd ρ b (some p)) := fun x q hx => by
  rw [upd_ne]; exact hx
  intro e; subst e; rw [h] at hx; cases hx

/-- A new block. -/
theorem Good.alloc {P : Program} {ρ : Ren} {h : Heap} {W W' : World} (g : Good P ρ h W) {b : Nat} (hb : ρ b = none) (κ : Nat) {blk : Blk} {o : Obj}
    (hB : BlkR P ρ κ blk (some o)) (hW : W'.heap = W.heap.push o) (e1 : W'.os = W.os) (e2 : W'.tape = W.tape) (e3 : W'.output = W.output) :
    Good P (upd ρ b (some (W.heap.size, κ))) (upd h b (some blk)) W' ∧ Keep ρ h W (upd ρ b (some (W.heap.size, κ))) (upd h b (some blk)) W' b (b + 1) := by
  have le := Ren.le_upd hb (W.heap.size, κ)
  have hn : h b = none := by
    cases e : h b with
    | none => rfl
    | some x => obtain ⟨r, κ', e2, _⟩ := g.at_ b x e; rw [hb] at e2; cases e2
  have old : ∀ x blk, h x = some blk → x ≠ b := fun x y hx e => by subst e; rw [hn] at hx; cases hx
  have lt : ∀ r, Owns ρ h r → r < W.heap.size := fun r k => k.lt g
  constructor
  · constructor
    · intro x y hx
      by_cases c : x = b
      · subst c
        rw [upd_same] at hx ⊢
        cases hx
        refine ⟨_, _, rfl, ?_⟩
        rw [hW, Array.getElem?_push_size]
        exact hB.mono le
      · rw [upd_ne _ _ c] at hx
        obtain ⟨r, κ', hr, hk⟩ := g.at_ x y hx
        refine ⟨r, κ', le _ _ hr, ?_⟩
        rw [hW, Array.getElem?_push, if_neg (by have := lt r ⟨x, y, κ', hx, hr⟩; omega)]
        exact hk.mono le
    · intro x y bx bY r κ1 κ2 hx hy rx ry
      by_cases c : x = b <;> by_cases d : y = b
      · omega
      · subst c
        rw [upd_ne _ _ d] at hy ry
        rw [upd_same] at rx
        cases rx
        have := lt _ ⟨y, bY, κ2, hy, ry⟩
        omega
      · subst d
        rw [upd_ne _ _ c] at hx rx
        rw [upd_same] at ry
        cases ry
        have := lt _ ⟨x, bx, κ1, hx, rx⟩
        omega
      · rw [upd_ne _ _ c] at hx rx
        rw [upd_ne _ _ d] at hy ry
        exact g.inj x y bx bY r κ1 κ2 hx hy rx ry
  · refine ⟨le, fun x hx => ?_, fun r hr _ => ?_, by rw [hW, Array.size_push]; omega, fun r hr => ?_, fun x y hx => ?_, e1, e2, e3, by omega⟩
    · by_cases c : x = b
      · omega
      · exact absurd (upd_ne _ _ c) hx
    · rw [hW, Array.getElem?_push, if_neg (by omega)]
    · obtain ⟨x, y, κ', hx, hr⟩ := hr
      by_cases c : x = b
      · subst c; rw [upd_same] at hr; cases hr; exact .inl (Nat.le_refl _)
      · rw [upd_ne _ _ c] at hx hr; exact .inr ⟨x, y, κ', hx, hr⟩
    · by_cases c : x = b
      · exact .inr (by omega)
      · rw [upd_ne _ _ c] at hx; exact .inl ⟨y, hx⟩

/-- What a block holds turns. -/
theorem Good.turn {P : Program} {ρ : Ren} {h : Heap} {W W' : World} (g : Good P ρ h W) {b r κ : Nat} {blk old : Blk} {o : Obj} (hb : h b = some old) (hr : ρ b = some (r, κ))
    (hB : BlkR P ρ κ blk (some o)) (ho : W'.heap[r]? = some o) (hx : ∀ x, x ≠ r → W'.heap[x]? = W.heap[x]?) (hs : W'.heap.size = W.heap.size) (e1 : W'.os = W.os) (e2 : W'.tape = W.tape) (e3 : W'.output = W.output) (n : Nat) :
    Good P ρ (upd h b (some blk)) W' ∧ Keep ρ h W ρ (upd h b (some blk)) W' n n := by
  constructor
  · constructor
    · intro x y k
      by_cases c : x = b
      · subst c
        rw [upd_same] at k
        cases k
        exact ⟨r, κ, hr, by rw [ho]; exact hB⟩
      · rw [upd_ne _ _ c] at k
        obtain ⟨r', κ', hr', hk⟩ := g.at_ x y k
        refine ⟨r', κ', hr', ?_⟩
        rw [hx r' (fun e => c (by subst e; exact g.inj x b y old r' κ' κ k hb hr' hr))]
        exact hk
    · intro x y bx bY r1 κ1 κ2 h1 h2 k1 k2
      have f : ∀ z blk', upd h b (some blk) z = some blk' → ∃ q, h z = some q := fun z blk' hz => by
        by_cases c : z = b
        · subst c; exact ⟨old, hb⟩
        · rw [upd_ne _ _ c] at hz; exact ⟨_, hz⟩
      obtain ⟨q1, h1⟩ := f x bx h1
      obtain ⟨q2, h2⟩ := f y bY h2
      exact g.inj x y q1 q2 r1 κ1 κ2 h1 h2 k1 k2
  · refine ⟨Ren.le_refl _, fun _ k => absurd rfl k, fun x hlt hn => hx x (fun e => hn ⟨b, old, κ, hb, by subst e; exact hr⟩), by omega, fun x hx => .inr ?_, fun x y hx => .inl ?_, e1, e2, e3, Nat.le_refl _⟩
    · obtain ⟨z, q, κ', h1, h2⟩ := hx
      by_cases c : z = b
      · subst c; exact ⟨z, old, κ', hb, h2⟩
      · rw [upd_ne _ _ c] at h1; exact ⟨z, q, κ', h1, h2⟩
    · by_cases c : x = b
      · subst c; exact ⟨old, hb⟩
      · rw [upd_ne _ _ c] at hx; exact ⟨y, hx⟩

/-- A block is given up. -/
theorem Good.drop {P : Program} {ρ : Ren} {h : Heap} {W : World} (g : Good P ρ h W) (b n : Nat) : Good P ρ (upd h b none) W ∧ Keep ρ h W ρ (upd h b none) W n n := by
  have f : ∀ z q, upd h b none z = some q → h z = some q := fun z q hz => by
    by_cases c : z = b
    · subst c; rw [upd_same] at hz; cases hz
    · rwa [upd_ne _ _ c] at hz
  refine ⟨⟨fun x y hx => g.at_ x y (f x y hx), fun x y bx bY r κ1 κ2 h1 h2 => g.inj x y bx bY r κ1 κ2 (f _ _ h1) (f _ _ h2)⟩, Ren.le_refl _, fun _ k => absurd rfl k, fun _ _ _ => rfl, Nat.le_refl _, fun r hr => .inr ?_, fun x y hx => .inl ⟨y, f x y hx⟩, rfl, rfl, rfl, Nat.le_refl _⟩
  obtain ⟨z, q, κ, h1, h2⟩ := hr
  exact ⟨z, q, κ, f z q h1, h2⟩
theorem Good.sub {P : Program} {ρ : Ren} {h h' : Heap} {W : World} (g : Good P ρ h W) (k : ∀ b x, h' b = some x → h b = some x) : Good P ρ h' W :=
  ⟨fun x y hx => g.at_ x y (k x y hx), fun x y bx bY r κ1 κ2 h1 h2 => g.inj x y bx bY r κ1 κ2 (k _ _ h1) (k _ _ h2)⟩

/-- A block goes on under a new name. -/
theorem Good.rename {P : Program} {ρ : Ren} {h : Heap} {W : World} (g : Good P ρ h W) {b b' : Nat} {blk : Blk} {p : Nat × Nat} (hb : h b = some blk) (hp : ρ b = some p) (hn : ρ b' = none) :
    Good P (upd ρ b' (some p)) (upd (upd h b none) b' (some blk)) W ∧ Keep ρ h W (upd ρ b' (some p)) (upd (upd h b none) b' (some blk)) W b' (b' + 1) := by
  have le := Ren.le_upd hn p
  have hnb : h b' = none := by
    cases e : h b' with
    | none => rfl
    | some x => obtain ⟨r, κ', e2, _⟩ := g.at_ b' x e; rw [hn] at e2; cases e2
  have hne : b' ≠ b := fun e => by subst e; rw [hn] at hp; cases hp
  -- what stands in the new one stood in the old one, under the name 'was'
  have f : ∀ z q, upd (upd h b none) b' (some blk) z = some q → (z = b' ∧ q = blk) ∨ (z ≠ b' ∧ z ≠ b ∧ h z = some q) := fun z q hz => by
    by_cases c : z = b'
    · subst c; rw [upd_same] at hz; cases hz; exact .inl ⟨rfl, rfl⟩
    · rw [upd_ne _ _ c] at hz
      by_cases d : z = b
      · subst d; rw [upd_same] at hz; cases hz
      · rw [upd_ne _ _ d] at hz; exact .inr ⟨c, d, hz⟩
  constructor
  · constructor
    · intro x y hx
      rcases f x y hx with ⟨rfl, rfl⟩ | ⟨c, d, hx⟩
      · obtain ⟨r, κ, hr, hk⟩ := g.at_ b y hb
        rw [hp] at hr
        cases hr
        exact ⟨_, _, upd_same _ _ _, hk.mono le⟩
      · obtain ⟨r, κ, hr, hk⟩ := g.at_ x y hx
        exact ⟨r, κ, le _ _ hr, hk.mono le⟩
    · intro x y bx bY r κ1 κ2 h1 h2 k1 k2
      rcases f x bx h1 with ⟨e1, e2⟩ | ⟨c, d, g1⟩ <;> rcases f y bY h2 with ⟨e3, e4⟩ | ⟨c', d', g2⟩
      · rw [e1, e3]
      · rw [e1, upd_same] at k1
        rw [upd_ne _ _ c'] at k2
        cases k1
        exact absurd (g.inj b y _ _ r κ1 κ2 hb g2 hp k2).symm d'
      · rw [e3, upd_same] at k2
        rw [upd_ne _ _ c] at k1
        cases k2
        exact absurd (g.inj x b _ _ r κ1 κ2 g1 hb k1 hp) d
      · rw [upd_ne _ _ c] at k1
        rw [upd_ne _ _ c'] at k2
        exact g.inj x y _ _ r κ1 κ2 g1 g2 k1 k2
  · refine ⟨le, fun x hx => ?_, fun _ _ _ => rfl, Nat.le_refl _, fun r hr => .inr ?_, fun x y hx => ?_, rfl, rfl, rfl, by omega⟩
    · by_cases c : x = b'
      · omega
      · exact absurd (upd_ne _ _ c) hx
    · obtain ⟨z, q, κ, h1, h2⟩ := hr
      rcases f z q h1 with ⟨rfl, rfl⟩ | ⟨c, d, h1⟩
      · rw [upd_same] at h2; cases h2; exact ⟨b, _, _, hb, hp⟩
      · rw [upd_ne _ _ c] at h2; exact ⟨z, q, κ, h1, h2⟩
    · rcases f x y hx with ⟨rfl, rfl⟩ | ⟨c, d, h1⟩
      · exact .inr (by omega)
      · exact .inl ⟨y, h1⟩

/-! ### cells that are read, and written -/
theorem add_off (r o k : Nat) : (⟨r, o, none⟩ : Addr).add k = ⟨r, o + k, none⟩ := by unfold Addr.add; split <;> simp_all
theorem cell_of {W : World} {r : Nat} {arr : Array Value} {elem : TypeId} {fz : Nat × Nat} (h : W.heap[r]? = some (.cells arr elem fz)) (o : Nat) : W.cell? ⟨r, o, none⟩ = arr[o]? := by simp [World.cell?, h]
theorem run_row {P : Program} {W : World} {r o : Nat} {arr : Array Value} {elem : TypeId} {fz : Nat × Nat} (h : W.heap[r]? = some (.cells arr elem fz)) (vs : List Value) (hv : ∀ k, k < vs.length → arr[o + k]? = vs[k]?) :
    (loadCells ⟨r, o, none⟩ vs.length).run P W = .ok vs.toArray W := by
  refine run_loadCells_list W _ vs fun j v hj => ?_
  rw [add_off, cell_of h, hv j (List.getElem?_eq_some_iff.1 hj).1, hj]
/-- A row of a block's cells, as it is told and as it is. -/
theorem blk_row {ρ : Ren} {n : Nat} {cs : T C} {arr : Array Value} {i m : Nat} {l : List C}
    (hc : ∀ i, i < n → ∃ c v, cs.get i = some c ∧ c.flat = true ∧ c.real ρ = some v ∧ arr[i]? = some v) (hl : T.row cs i m = some l) (hn : i + m ≤ n) :
    ∃ vs, C.reals ρ l = some vs ∧ vs.length = m ∧ (∀ k, k < vs.length → arr[i + k]? = vs[k]?) ∧ (∀ v ∈ vs, v.oneCell' = true) := by
  obtain ⟨h1, h2⟩ := T.row_spec cs m i l hl
  have h3 : ∀ k, k < m → ∃ v, arr[i + k]? = some v ∧ ∃ c, l[k]? = some c ∧ c.flat = true ∧ c.real ρ = some v := fun k hk => by
    obtain ⟨c, v, a, f, b, d⟩ := hc (i + k) (by omega)
    rw [h2 k hk] at a
    exact ⟨v, d, c, a, f, b⟩
  refine ⟨(List.range m).map fun k => arr.getD (i + k) undef, ?_, by simp, fun k hk => ?_, fun v hv => ?_⟩
  · refine C.reals_of (by simp [h1]) fun k x hx => ?_
    have hk : k < m := by have := (List.getElem?_eq_some_iff.1 hx).1; omega
    obtain ⟨v, e, c, a, f, b⟩ := h3 k hk
    rw [a] at hx
    cases hx
    refine ⟨v, b, ?_⟩
    simp [hk, e]
  · simp only [List.length_map, List.length_range] at hk
    obtain ⟨v, e, _⟩ := h3 k hk
    simp [hk, e]
  · obtain ⟨k, hk, rfl⟩ := List.mem_map.1 hv
    obtain ⟨v, e, c, a, f, b⟩ := h3 k (List.mem_range.1 hk)
    simp only [Array.getD_eq_getD_getElem?, e, Option.getD_some]
    exact C.flat_real b f

theorem setCells_heap (b : Nat) : ∀ (vs : List Value) (o : Nat) (W : World) (x : Nat), x ≠ b → (W.setCells b o vs).heap[x]? = W.heap[x]?
  | [], _, _, _, _ => rfl
  | v :: r, o, W, x, h => by
    rw [World.setCells, setCells_heap b r (o + 1) _ x h]
    simp only [World.setCell, Array.getElem?_modify]
    rw [if_neg (by omega)]
theorem setCells_at (b : Nat) : ∀ (vs : List Value) (o : Nat) (W : World) (arr : Array Value) (elem : TypeId) (fz : Nat × Nat), W.heap[b]? = some (.cells arr elem fz) →
    ∃ arr', (W.setCells b o vs).heap[b]? = some (.cells arr' elem fz) ∧ arr'.size = arr.size ∧ ∀ m, arr'[m]? = if o ≤ m ∧ m < o + vs.length ∧ m < arr.size then vs[m - o]? else arr[m]?
  | [], o, W, arr, elem, fz, h => ⟨arr, h, rfl, fun m => by rw [if_neg (by simp; omega)]⟩
  | v :: r, o, W, arr, elem, fz, h => by
    have h1 : (W.setCell ⟨b, o, none⟩ v).heap[b]? = some (.cells (arr.setIfInBounds o v) elem fz) := by
      simp only [World.setCell, Array.getElem?_modify, if_true, h, Option.map_some]
      rfl
    obtain ⟨arr', h2, h3, h4⟩ := setCells_at b r (o + 1) (W.setCell ⟨b, o, none⟩ v) _ elem fz h1
    refine ⟨arr', h2, by rw [h3, Array.size_setIfInBounds], fun m => ?_⟩
    rw [h4 m, Array.size_setIfInBounds, List.length_cons]
    by_cases c : m = o
    · subst c
      rw [if_neg (by omega)]
      by_cases d : m < arr.size
      · rw [if_pos (by omega), Nat.sub_self]; simp [d]
      · rw [if_neg (by omega)]; simp [d]
    · by_cases d : o + 1 ≤ m ∧ m < o + 1 + r.length ∧ m < arr.size
      · rw [if_pos d, if_pos (by omega), show m - o = (m - (o + 1)) + 1 by omega, List.getElem?_cons_succ]
      · rw [if_neg d, if_neg (by omega), Array.getElem?_setIfInBounds_ne (by omega)]
theorem setCells_size (b : Nat) : ∀ (vs : List Value) (o : Nat) (W : World), (W.setCells b o vs).heap.size = W.heap.size
  | [], _, _ => rfl
  | v :: r, o, W => by rw [World.setCells, setCells_size b r]; simp [World.setCell]
theorem setCells_rest (b : Nat) : ∀ (vs : List Value) (o : Nat) (W : World), (W.setCells b o vs).os = W.os ∧ (W.setCells b o vs).tape = W.tape ∧ (W.setCells b o vs).output = W.output
  | [], _, _ => ⟨rfl, rfl, rfl⟩
  | v :: r, o, W => by rw [World.setCells]; exact setCells_rest b r (o + 1) _
/-- A row of cells is stored into a block. -/
theorem Good.store {P : Program} {ρ : Ren} {h : Heap} {W : World} (g : Good P ρ h W) {b elem n : Nat} {grow : Bool} {cs : T C} (hb : h b = some (.cells elem n grow cs)) {o : Nat} {l : List C} {vs : List Value}
    (hl : C.reals ρ l = some vs) (hf : l.all C.flat = true) (ho : o + l.length ≤ n) (m : Nat) :
    ∃ r κ W', ρ b = some (r, κ) ∧ (∀ i, (storeCells ⟨r, o - i, none⟩ vs i).run P W = (if i ≤ o then .ok () W' else (storeCells ⟨r, o - i, none⟩ vs i).run P W)) ∧
      Good P ρ (upd h b (some (.cells elem n grow (T.lay l o cs)))) W' ∧ Keep ρ h W ρ (upd h b (some (.cells elem n grow (T.lay l o cs)))) W' m m := by
  obtain ⟨r, κ, hr, arr, fz, h1, h2, h3, h4⟩ := g.at_ b _ hb
  have hn : n ≤ arr.size := by cases grow <;> simp at h3 <;> omega
  have hlen := (C.reals_spec hl).1
  obtain ⟨arr', a1, a2, a3⟩ := setCells_at r vs o W arr elem fz h1
  obtain ⟨s1, s2, s3⟩ := setCells_rest r vs o W
  have hone := C.flats_real hl hf
  have hrun : ∀ i, i ≤ o → (storeCells ⟨r, o - i, none⟩ vs i).run P W = .ok () (W.setCells r o vs) := fun i hi => by
    have := run_storeCells_cells (P := P) r (o - i) vs i W (fun j hj => by rw [cell_of h1, Array.getElem?_eq_getElem (by omega)]; rfl)
      (fun j hj => by
        simp only [World.frozen?, h1]
        rcases h2 with h2 | h2
        · subst h2; simp
        · simp; omega) hone
    rw [show o - i + i = o by omega] at this
    exact this
  refine ⟨r, κ, W.setCells r o vs, hr, fun i => by split <;> first | exact hrun i ‹_› | rfl, ?_⟩
  refine g.turn (blk := .cells elem n grow (T.lay l o cs)) hb hr (o := .cells arr' elem fz) ⟨arr', fz, rfl, by rw [a2]; exact h2, by rw [a2]; exact h3, fun i hi => ?_⟩ a1 (fun x hx => setCells_heap r vs o W x hx) (setCells_size r vs o W) s1 s2 s3 m
  rw [a3 i, T.get_lay]
  by_cases c : o ≤ i ∧ i < o + l.length
  · rw [if_pos c, if_pos (by omega)]
    have hi2 : i - o < l.length := by omega
    obtain ⟨v, e1, e2⟩ := (C.reals_spec hl).2 (i - o) l[i - o] (List.getElem?_eq_getElem hi2)
    exact ⟨l[i - o], v, List.getElem?_eq_getElem hi2, List.all_eq_true.1 hf _ (List.getElem_mem _), e1, e2⟩
  · rw [if_neg c, if_neg (by omega)]
    exact h4 i hi
end Go.Proofs.Ythablamjbikllaa.Run
