/- An append onto a row of the call's own after which the elder slice is still read: the elder value owns its elements as before (in the row that is written behind them, or beside the new one). -/
import Derived.Test.YtnlaklkneaaakaaWWords
namespace Go.Proofs.YtnlaklkneaaakaaW.PrintWords
open Go.RowKit
section
variable {P : Program} (w : World)
theorem run_append_keeps (base : Nat) (t ty e : TypeId) (i : TypeInfo) (z : Value) (size bytes : Nat) (ht : P.underlying t = some (.slice e)) (hi : P.info? e = some i) (hz : i.zero = some z)
    (hsize : i.size = size) (hby : i.bytes = bytes) (hzs : z.cells.size = size) (hsz : 0 < size)
    (v : Value) (n : Nat) (xs : List Value) (hown : w.ownsRow base e size v n xs)
    (a : Addr) (m c : Nat) (news : List Value) (hl : news.length = m * size) (hnews : ∀ j u, news[j]? = some u → w.cell? (a.add j) = some u) (h1 : ∀ u ∈ news, u.oneCell' = true)
    (h63 : n + m ≤ maxLen) (hbytes : (n + m) * bytes ≤ 140737488355328) (hbase : base ≤ w.heap.size) :
    ∃ v' w', (Builtin.append_ #[t, t] ty #[v, .slice (some a) m c]).run P w = .ok v' w' ∧ w'.ownsRow base e size v' (n + m) (xs ++ news) ∧ w'.ownsRow base e size v n xs ∧ w.grownBy w' v.ownBlock ∧
      (v'.ownBlock = v.ownBlock ∨ v'.ownBlock = some w.heap.size) := by
  obtain ⟨v', w', hr, h2, h3, _, h5⟩ := run_append_own_at (P := P) w base t ty e i z size bytes ht hi hz hsize hby hzs hsz v n xs hown a m c news hl hnews h1 h63 hbytes hbase
  refine ⟨v', w', hr, h2, ?_, h3, h5⟩
  rcases hown.2 with ⟨rfl, rfl⟩ | ⟨g, cap, cur, rfl, hbg, hg, hnc, hcm, hcs, htake⟩
  · exact ⟨hown.1, .inl ⟨rfl, rfl⟩⟩
  · by_cases hroom : n + m ≤ cap
    · have hfit : n * i.size + news.length ≤ cur.size := by rw [hl, hcs, hsize, ← Nat.add_mul]; exact Nat.mul_le_mul_right _ hroom
      have hr' := run_append_room (P := P) w t ty e i ht hi g n cap cur hg a m c news (by rw [hl, hsize]) hnews h1 hroom hfit
      rw [hr] at hr'
      injection hr' with _ hw
      subst hw
      refine ⟨hown.1, .inr ⟨g, cap, _, rfl, hbg, setRow_heap w g cur _ e _ hg, hnc, hcm, ?_, ?_⟩⟩
      · simp only [List.size_toArray, List.length_append, List.length_take, List.length_drop, Array.length_toList]
        rw [hsize] at hfit ⊢
        omega
      · have h4 : (cur.toList.take (n * size)).length = n * size := by
          rw [List.length_take, Array.length_toList, hcs, Nat.min_eq_left]
          exact Nat.mul_le_mul_right _ hnc
        rw [hsize]
        show ((cur.toList.take (n * size) ++ news ++ cur.toList.drop (n * size + news.length))).take (n * size) = xs
        rw [List.append_assoc, List.take_left' h4, htake]
    · have holds : ∀ j u, xs[j]? = some u → w.cell? ((⟨g, 0, none⟩ : Addr).add j) = some u := hown.cells (g := g) rfl
      have hr' := run_append_grow (P := P) w t ty e i z ht hi hz ⟨g, 0, none⟩ n cap xs (by rw [hown.1, hsize]) holds a m c news (by rw [hl, hsize]) hnews (by omega) (by simp only [maxLen] at h63; omega) (growslice_fits (by omega) (by rw [hby]; exact hbytes))
      rw [hr] at hr'
      injection hr' with _ hw
      subst hw
      exact own_move hown (fun k hk => by
        have : g = k := by simpa [Value.ownBlock] using hk
        subst this
        exact Below.heap_alloc w.drew _ g (Array.getElem?_eq_some_iff.1 hg).1)
end
namespace Kd
section
variable {P : Program} {ops : Array Oper} {rest : List Oper} {o : Oper} {a : Act} {Q : Exit → Act → World → Prop} {α : Type}
/-- append(v, x), and v is read on. -/
theorem R_append_keeps (d : Kd α) {w0 W : World} (base : Nat) (hgd : o.guard = none) (s x : Operand) (t e : TypeId) (z : Value) (bytes : Nat)
    (ho : o.op = .call { callee := .builtin .append, args := #[s, x], argTypes := #[t, t] })
    (ht : P.underlying t = some (.slice e)) (hinfo : (P.info? e).map (fun i => (i.zero, i.size, i.bytes)) = some (some z, d.sz, bytes)) (hz : z.cells.size = d.sz) (hs0 : 0 < d.sz) (hb0 : 0 < bytes)
    (v : Value) (xs : List α) (p : α) (cs : List Value) (ok okp : Nat → Prop) (hs : a.eval s = v) (hx : a.eval x = .slice (some ⟨W.heap.size, 0, none⟩) 1 1) (hp : d.M W base okp p cs) (hokp : ∀ k, okp k → ok k ∧ some k ≠ v.ownBlock) (hfresh : ∀ k, W.heap.size ≤ k → ok k)
    (HO : d.R e W base ok v xs) (HB : Below base w0 W) (hbase : base ≤ W.heap.size) (hl : (xs.length + 1) * bytes ≤ 140737488355328)
    (h : ∀ v1 w1, d.R e w1 base ok v1 (xs ++ [p]) → d.R e w1 base ok v xs → Below base w0 w1 → W.grownBy w1 v.ownBlock → (v1.ownBlock = v.ownBlock ∨ ∃ b, v1.ownBlock = some b ∧ W.heap.size ≤ b) → wpList P ops Q rest (a.put o.dst v1) w1) :
    wpList P ops Q (o :: rest) a (W.alloc (.cells cs.toArray e)) := by
  obtain ⟨h0, inner, hown, hr⟩ := HO
  obtain ⟨i0, hi, hzz⟩ := Option.map_eq_some_iff.1 hinfo
  simp only [Prod.mk.injEq] at hzz
  obtain ⟨hz0, hz1, hz2⟩ := hzz
  have hlen : xs.length + 1 ≤ 140737488355328 := Nat.le_trans (Nat.le_mul_of_pos_right _ hb0) hl
  have hys : cs.length = d.sz := d.K_len (d.K_of_M hp)
  obtain ⟨v1, w1, hrun, hown1, hkeep, hg, hat⟩ := run_append_keeps (P := P) (W.alloc (.cells cs.toArray e)) base t o.type e i0 z d.sz bytes ht hi hz0 hz1 hz2 hz hs0 v xs.length inner (hown.alloc _) ⟨W.heap.size, 0, none⟩ 1 1 cs (by rw [hys]; simp)
    (by simpa using World.news_of_block (cs := cs.toArray) (t := e) (fr := (0, 0)) (heap_alloc_new W (.cells cs.toArray e))) (d.K_one (d.K_of_M hp)) (by simp only [maxLen]; omega) hl (by simp; omega)
  have hg' : W.grownBy w1 v.ownBlock := World.grownBy.trans (World.grownBy_alloc W _ _) hg
  have hat' : v1.ownBlock = v.ownBlock ∨ ∃ b, v1.ownBlock = some b ∧ W.heap.size ≤ b := by
    rcases hat with hat | hat
    · exact .inl hat
    · exact .inr ⟨_, hat, by simp⟩
  have hb1 : Below base w0 w1 := (HB.alloc hbase _).grown hg (by simp; omega) (own_base hown)
  refine wpList_plain hgd fun K hK => ?_
  unfold Oper.wp execOp
  simp only [ho, resolve, invoke, builtin, Sem.run_bind, Sem.run_pure, Result.andThen_ok, List.map_toArray, List.map_cons, List.map_nil, hs, hx, hrun]
  refine hK _ _ (h v1 w1 (R_appended h0 hr hp hokp hfresh hown1 hg' hat') ⟨h0, inner, hkeep, ?_⟩ hb1 hg' hat')
  exact hr.imp_ (fun _ _ hq => d.M_mono (fun k hk => ⟨hk.1, hk.2⟩) (d.M_mono (fun k hk => hk.1) (d.M_move (w1 := w1) (fun k hk => hg'.block k hk.2.2.1 hk.1.2) (d.M_bound hq))))
end
end Kd
namespace Kd
/-- A row that has just been laid. -/
theorem C_new {α : Type} (d : Kd α) (W : World) (e : Nat) (inner : List Value) (xs : List α) (hr : Reps (d.K (W.alloc (.cells inner.toArray e))) d.sz xs inner) (hl : xs.length ≤ 9223372036854775807) : d.C (W.alloc (.cells inner.toArray e)) (some ⟨W.heap.size, 0, none⟩) xs.length xs := by
  refine ⟨rfl, hl, fun _ => ⟨_, rfl, fun j p hj => ?_⟩⟩
  have hjl : j < xs.length := (List.getElem?_eq_some_iff.1 hj).1
  have h1 : j * d.sz + d.sz ≤ inner.length := by rw [hr.1, ← Nat.succ_mul]; exact Nat.mul_le_mul_right _ hjl
  refine ⟨(inner.drop (j * d.sz)).take d.sz, by rw [List.length_take, List.length_drop]; omega, hr.2 j p hj, fun i u hu => ?_⟩
  have hi : i < d.sz := by
    have := (List.getElem?_eq_some_iff.1 hu).1
    rw [List.length_take] at this
    omega
  have e1 : (⟨W.heap.size, 0, none⟩ : Addr).add (j * d.sz + i) = ⟨W.heap.size, j * d.sz + i, none⟩ := by unfold Addr.add; split <;> simp_all
  rw [e1, blk_cell (blk_new W (.cells inner.toArray e)), List.getElem?_toArray]
  rw [List.getElem?_take, if_pos hi, List.getElem?_drop] at hu
  exact hu
theorem C_new_ints (k : IntKind) (W : World) (e : Nat) (xs : List Int) (hl : xs.length ≤ 9223372036854775807) : (Kd.int k).C (W.alloc (.cells (nums k xs).toArray e)) (some ⟨W.heap.size, 0, none⟩) xs.length xs := by
  refine C_new (Kd.int k) W e (nums k xs) xs ⟨by rw [nums_length]; exact (Nat.mul_one _).symm, fun j p hj => ?_⟩ hl
  show (((nums k xs).drop (j * 1)).take 1) = [Value.int k p]
  rw [Nat.mul_one]
  have hjl : j < (nums k xs).length := by rw [nums_length]; exact (List.getElem?_eq_some_iff.1 hj).1
  rw [List.drop_eq_getElem_cons hjl, List.take_succ_cons, List.take_zero]
  simp only [nums, List.getElem_map]
  rw [(List.getElem?_eq_some_iff.1 hj).2]
end Kd
/-- A function without arguments that answers true answers nothing else. -/
theorem at_only {g : Nat → Option Bool} (hg : ∀ k, LeO (g k) (g (k + 1))) {K : Nat} (hK : g K = some true) {k : Nat} {r : Bool} (h : g k = some r) : r = true := by
  obtain ⟨K1, h1⟩ := Ev.of hg hK
  obtain ⟨K2, h2⟩ := Ev.of hg h
  have e := (h1 (max K1 K2) (Nat.le_max_left _ _)).symm.trans (h2 (max K1 K2) (Nat.le_max_right _ _))
  exact (Option.some.inj e).symm
end Go.Proofs.YtnlaklkneaaakaaW.PrintWords
