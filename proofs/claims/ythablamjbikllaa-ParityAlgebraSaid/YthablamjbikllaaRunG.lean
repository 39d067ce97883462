/- A machine for closed calls: every operation that it takes answers in Go what the machine says. -/
import Derived.Test.YthablamjbikllaaRunF
set_option linter.unusedVariables false
namespace Go.Proofs.Ythablamjbikllaa.Run
open Go.RowKit

theorem run_copy {P : Program} {W W' : World} {dT sT ty elem size m dLen dCap : Nat} {a : Addr} {x : Value} {cells : Array Value} (hu : P.underlying dT = some (.slice elem)) (hs : sizeP P elem = some size) (hl : (Builtin.lenOf x).run P W = .ok m W)
    (hf : (Builtin.firstCells size (Nat.min m dLen) x).run P W = .ok cells W) (hst : (storeCells a cells.toList).run P W = .ok () W') :
    (Builtin.copy_ #[dT, sT] ty #[.slice (some a) dLen dCap, x]).run P W = .ok (goInt (Nat.min m dLen : Nat)) W' := by
  simp [Builtin.copy_, run_under hu, hl, run_size hs, hf, hst]
theorem copy_ok {P : Program} {ρ : Ren} {st st' : St} {W : World} {dT sT ty : Nat} {d s v : V} {D X : Value} (h : copyV P st dT d s = some (v, st')) (hd : d.real ρ = some D) (hx : s.real ρ = some X) (g : Good P ρ st.heap.get W) :
    ∃ W' y, (Builtin.copy_ #[dT, sT] ty #[D, X]).run P W = .ok y W' ∧ v.real ρ = some y ∧ Good P ρ st'.heap.get W' ∧ Keep ρ st.heap.get W ρ st'.heap.get W' st.next st'.next := by
  unfold copyV at h
  split at h
  · rename_i elem size m he hn
    obtain ⟨hu, hsz⟩ := elemOf_spec he
    have hlen := lenC_ok (P := P) hx hn W
    split at h
    · rename_i b off len cap
      split at h
      · cases h
      · rename_i l hl
        split at h
        · cases h
        · rename_i st2 hw
          simp only [Option.some.injEq, Prod.mk.injEq] at h
          obtain ⟨rfl, rfl⟩ := h
          simp only [V.real, C.real, Option.map_eq_some_iff] at hd
          obtain ⟨p, hp, rfl⟩ := hd
          obtain ⟨vs, v1, v2, v3, v4⟩ := firstC_ok g hx hl
          obtain ⟨r, κ, W', w1, w2, w3, w4⟩ := writeC_ok hw g v1
          rw [hp] at w1
          cases w1
          exact ⟨W', _, run_copy hu hsz hlen (v4 W rfl) (by simpa using w2), rfl, w3, w4⟩
    · rename_i b off lo len
      split at h
      · cases h
      · rename_i l hl
        split at h
        · cases h
        · rename_i st2 hw
          simp only [Option.some.injEq, Prod.mk.injEq] at h
          obtain ⟨rfl, rfl⟩ := h
          simp only [V.real, C.real, Option.map_eq_some_iff] at hd
          obtain ⟨p, hp, rfl⟩ := hd
          obtain ⟨vs, v1, v2, v3, v4⟩ := firstC_ok g hx hl
          obtain ⟨r, κ, W', w1, w2, w3, w4⟩ := writeC_ok hw g v1
          rw [hp] at w1
          cases w1
          exact ⟨W', _, run_copy hu hsz hlen (v4 W rfl) (by simpa using w2), rfl, w3, w4⟩
    · cases h
  · cases h
theorem copy_low {P : Program} {st st' : St} {dT : Nat} {d s v : V} (h : copyV P st dT d s = some (v, st')) : Low st st' := by
  unfold copyV at h
  split at h
  · split at h
    · split at h
      · cases h
      · split at h
        · cases h
        · rename_i hw
          simp only [Option.some.injEq, Prod.mk.injEq] at h
          rw [← h.2]
          exact writeC_low hw
    · split at h
      · cases h
      · split at h
        · cases h
        · rename_i hw
          simp only [Option.some.injEq, Prod.mk.injEq] at h
          rw [← h.2]
          exact writeC_low hw
    · cases h
  · cases h
/-! ### texts -/
theorem bytesC_ok {ρ : Ren} : ∀ {l : List C} {r : List UInt8} {vs : List Value}, bytesC l = some r → C.reals ρ l = some vs → ∃ ns : List Int, vs = ns.map (Value.int .u8) ∧ r = ns.map fun n => UInt8.ofNat n.toNat
  | [], r, vs, h, k => by simp only [bytesC, Option.some.injEq] at h; simp only [C.reals, Option.some.injEq] at k; subst h k; exact ⟨[], rfl, rfl⟩
  | x :: l, r, vs, h, k => by
    simp only [C.reals, Option.bind_eq_some_iff, Option.map_eq_some_iff] at k
    obtain ⟨v, hv, ws, hw, rfl⟩ := k
    unfold bytesC at h
    split at h
    · rename_i e; cases e
    · rename_i n l' e
      cases e
      split at h
      · cases h
      · rename_i r' hr
        simp only [Option.some.injEq] at h
        subst h
        obtain ⟨ns, h1, h2⟩ := bytesC_ok hr hw
        simp only [C.real, Option.some.injEq] at hv
        subst hv
        exact ⟨n :: ns, by simp [h1], by simp [h2]⟩
    · cases h
theorem push_all : ∀ (ns : List Int) (s : ByteArray), ns.foldl (fun r n => r.push (UInt8.ofNat n.toNat)) s = ⟨s.data ++ (ns.map fun n => UInt8.ofNat n.toNat).toArray⟩
  | [], s => by simp
  | n :: ns, s => by
    rw [List.foldl_cons, push_all ns]
    simp only [ByteArray.push, List.map_cons]
    congr 1
    apply Array.ext'
    simp
theorem str_ok {P : Program} {ρ : Ren} {h : T Blk} {W : World} (g : Good P ρ h.get W) {src dst : Nat} {x v : V} {X : Value} (hx : x.real ρ = some X) (hv : strV P h src dst x = some v) :
    ∃ y, v.real ρ = some y ∧ (convert src dst X).run P W = .ok y W := by
  unfold strV at hv
  split at hv
  · rename_i e hs hd
    split at hv
    · rename_i he
      split at hv
      · rename_i n b off len cap hn
        split at hv
        · cases hv
        · rename_i l hl
          split at hv
          · cases hv
          · rename_i r hr
            simp only [Option.some.injEq] at hv
            subst hv
            simp only [lenC, Option.some.injEq] at hn
            subst hn
            simp only [V.real, C.real, Option.map_eq_some_iff] at hx
            obtain ⟨p, hp, rfl⟩ := hx
            obtain ⟨r', κ, vs, e1, e2, e3, e4, e5, e6⟩ := readC_ok g hl
            rw [hp] at e1
            cases e1
            obtain ⟨ns, n1, n2⟩ := bytesC_ok hr e2
            refine ⟨_, rfl, ?_⟩
            rw [run_convert_bytes_string W src dst e _ _ _ hs he hd, run_bytesToString W _ _ _ ns (by rw [n1] at e6; exact e6), push_all, n2]
            congr 4
            simp
      · rename_i n b off lo len hn
        split at hv
        · cases hv
        · rename_i l hl
          split at hv
          · cases hv
          · rename_i r hr
            simp only [Option.some.injEq] at hv
            subst hv
            simp only [lenC, Option.some.injEq] at hn
            subst hn
            simp only [V.real, C.real, Option.map_eq_some_iff] at hx
            obtain ⟨p, hp, rfl⟩ := hx
            obtain ⟨r', κ, vs, e1, e2, e3, e4, e5, e6⟩ := readC_ok g hl
            rw [hp] at e1
            cases e1
            obtain ⟨ns, n1, n2⟩ := bytesC_ok hr e2
            refine ⟨_, rfl, ?_⟩
            rw [run_convert_bytes_string W src dst e _ _ _ hs he hd, run_bytesToString W _ _ _ ns (by rw [n1] at e6; exact e6), push_all, n2]
            congr 4
            simp
      · cases hv
    · cases hv
  · cases hv
theorem freeze_push (W : World) (arr : Array Value) (e : TypeId) (n : Nat) : ({ W with heap := W.heap.push (.cells arr e (0, 0)) } : World).freeze ⟨W.heap.size, n, none⟩ 1 = { W with heap := W.heap.push (.cells arr e (n, n + 1)) } := by
  simp only [World.freeze]
  rw [if_neg (by omega)]
  congr 1
  apply Array.ext_getElem?
  intro i
  rw [Array.getElem?_modify, Array.getElem?_push, Array.getElem?_push]
  by_cases c : i = W.heap.size
  · subst c; simp
  · rw [if_neg (by omega), if_neg c, if_neg c]
theorem bytes_ok {P : Program} {ρ : Ren} {st st' : St} {W : World} {src dst : Nat} {x v : V} {X : Value} (h : bytesV P st src dst x = some (v, st')) (hx : x.real ρ = some X) (g : Good P ρ st.heap.get W) (f : Fresh ρ st.next st'.next) :
    ∃ ρ' W' y, (convert src dst X).run P W = .ok y W' ∧ v.real ρ' = some y ∧ Good P ρ' st'.heap.get W' ∧ Keep ρ st.heap.get W ρ' st'.heap.get W' st.next st'.next := by
  unfold bytesV at h
  split at h
  · rename_i e s hs hd
    split at h
    · rename_i he hz
      simp only [Option.some.injEq, Prod.mk.injEq] at h
      obtain ⟨rfl, rfl⟩ := h
      simp only [V.real, C.real, Option.some.injEq] at hx
      subst hx
      obtain ⟨s1, s2⟩ := strC_real ρ s s.size
      have hsl : s.data.toList.length = s.size := by rw [Array.length_toList]; rfl
      have htk : s.data.toList.take s.size = s.data.toList := List.take_of_length_le (by omega)
      rw [htk] at s1
      have hscl : (strC s s.size).length = s.size := by unfold strC; rw [List.length_map, htk, hsl]
      obtain ⟨i, hi, hsi⟩ : ∃ i, P.info? e = some i ∧ i.size = 1 := by
        unfold sizeP at hz
        split at hz
        · rename_i i hi; exact ⟨i, hi, by simpa using hz⟩
        · cases hz
      let cap := s.size + W.tape W.drawn (.appendCap s.size 0 e) % (2 ^ 63 - s.size)
      have hcap : s.size ≤ cap := Nat.le_add_right _ _
      let arr : Array Value := (s.data.map fun b => Value.int .u8 b.toNat) ++ Array.replicate (cap - s.size) (.int .u8 0)
      have harr : arr.size = cap := by
        show (s.data.map _ ++ Array.replicate _ _).size = _
        rw [Array.size_append, Array.size_map, Array.size_replicate]
        have : s.data.size = s.size := rfl
        omega
      have hrun : (convert src dst (.string s)).run P W = .ok (.slice (some ⟨W.heap.size, 0, none⟩) s.size cap) { W with drawn := W.drawn + 1, heap := W.heap.push (.cells arr e (arr.size, arr.size + 1)) } := by
        have hfz := freeze_push W.drew arr e arr.size
        simp only [convert, Sem.run_bind, run_under hs, run_under hd, run_under he, Result.andThen_ok, Conv.stringToBytes, run_choose, Question.forced, Bool.false_eq_true, if_false, Question.cut, newRow, run_newObj, Sem.run_pure, markStringish, run_shape]
        have hsh : ({ W with drawn := W.drawn + 1, heap := W.heap.push (.cells arr e (0, 0)) } : World).shape? W.heap.size = some (e, arr.size) := by simp [World.shape?]
        show ((match ({ W with drawn := W.drawn + 1, heap := W.heap.push (.cells arr e (0, 0)) } : World).shape? W.heap.size with | some (_, n) => freeze ⟨W.heap.size, n, none⟩ 1 | x => pure ()).run P { W with drawn := W.drawn + 1, heap := W.heap.push (.cells arr e (0, 0)) }).andThen _ = _
        rw [hsh]
        simp only [run_freeze, Result.andThen_ok]
        congr 1
      have hB : BlkR P ρ cap (.cells e s.size true (T.lay (strC s s.size) 0 .leaf)) (some (.cells arr e (arr.size, arr.size + 1))) := by
        refine ⟨arr, _, rfl, .inr (Nat.le_refl _), ?_, fun k hk => ?_⟩
        · simp only [if_true]
          exact ⟨by omega, i, hi, by rw [hsi, harr, Nat.mul_one]⟩
        · obtain ⟨w, w1, w2⟩ := (C.reals_spec s1).2 k (strC s s.size)[k] (List.getElem?_eq_getElem (by omega))
          refine ⟨(strC s s.size)[k]'(by omega), w, ?_, List.all_eq_true.1 s2 _ (List.getElem_mem _), w1, ?_⟩
          · rw [T.get_lay, if_pos (by omega), Nat.sub_zero, List.getElem?_eq_getElem (by omega)]
          · show (s.data.map _ ++ Array.replicate _ _)[k]? = _
            rw [Array.getElem?_append, if_pos (by rw [Array.size_map]; exact hk), ← w2]
            simp
      have := g.alloc (b := st.next) (f _ (Nat.le_refl _) (by simp [St.new])) cap hB (W' := { W with drawn := W.drawn + 1, heap := W.heap.push (.cells arr e (arr.size, arr.size + 1)) }) rfl rfl rfl rfl
      refine ⟨upd ρ st.next (some (W.heap.size, cap)), _, _, hrun, ?_, ?_⟩
      · simp [V.real, C.real, upd_same]
      · simp only [St.new, get_put_upd]
        exact this
    · cases h
  · cases h
theorem bytes_low {P : Program} {st st' : St} {src dst : Nat} {x v : V} (h : bytesV P st src dst x = some (v, st')) : Low st st' := by
  unfold bytesV at h
  split at h
  · split at h
    · simp only [Option.some.injEq, Prod.mk.injEq] at h
      rw [← h.2]
      exact Low.new _ _
    · cases h
  · cases h
/-! ### rows of zeros -/
theorem zeros_eq {zero : Array Value} {size : Nat} (hz : zero.size = size) (h1 : 1 ≤ size) : ∀ n : Nat, ((Array.range (n * size)).map (zero[· % zero.size]!)).toList = zerosV zero.toList n
  | 0 => by simp [zerosV]
  | n + 1 => by
    have ih := zeros_eq hz h1 n
    simp only [zerosV]
    rw [← ih]
    apply List.ext_getElem?
    intro i
    simp only [Array.toList_map, Array.toList_range, List.getElem?_map, List.getElem?_append, Array.length_toList, hz]
    have hm : (n + 1) * size = n * size + size := Nat.succ_mul _ _
    by_cases c : i < size
    · rw [if_pos c, List.getElem?_range (by omega)]
      simp only [Option.map_some, Nat.mod_eq_of_lt c]
      have : i < zero.size := by omega
      simp [this]
    · rw [if_neg c]
      by_cases d : i - size < n * size
      · rw [List.getElem?_range (by omega), List.getElem?_range d]
        simp only [Option.map_some]
        rw [Nat.mod_eq_sub_mod (by omega : size ≤ i)]
      · rw [List.getElem?_eq_none (by simp; omega), List.getElem?_eq_none (by simp; omega)]
theorem run_makeSlice {P : Program} {W : World} {t e : Nat} {i : TypeInfo} {z : Value} {l c : Nat} {kl kc : IntKind} (hu : P.underlying t = some (.slice e)) (hi : P.info? e = some i) (hz : i.zero = some z) (hzs : z.cells.size = i.size) (hs1 : 1 ≤ i.size) (hlc : l ≤ c) (hb : i.bytes * c ≤ 281474976710656) (hc : c ≤ 4611686018427387904) :
    (Instr.makeSlice t (.int kl l) (.int kc c)).run P W = .ok (.slice (some ⟨W.heap.size, 0, none⟩) l c) { W with heap := W.heap.push (.cells (zerosV z.cells.toList c).toArray e (0, 0)) } := by
  have w1 : IntKind.i64.wrap (l : Int) = l := by rw [IntKind.wrap_i64]; omega
  have w2 : IntKind.i64.wrap (c : Int) = c := by rw [IntKind.wrap_i64]; omega
  have hb' : ¬ ((281474976710656 : Int) < (i.bytes : Int) * (c : Int)) := by
    have : ((i.bytes * c : Nat) : Int) ≤ ((281474976710656 : Nat) : Int) := Int.ofNat_le.2 hb
    rw [Int.natCast_mul] at this
    omega
  have hti : ∀ W', (typeInfo e).run P W' = .ok i W' := fun W' => by simp [typeInfo, hi]
  have hzv : ∀ W', (zeroValue e).run P W' = .ok z W' := fun W' => by simp [zeroValue, typeInfo, hi, hz]
  have hso : ∀ W', (sizeOf e).run P W' = .ok i.size W' := fun W' => by simp [sizeOf, hti]
  have e1 : ¬ ((l : Int) < 0) := by omega
  have e2 : ¬ ((c : Int) < (l : Int)) := by omega
  have e3 : ¬ ((c : Int) < 0) := by omega
  have hzz : (Array.range (c * i.size)).map (z.cells[· % z.cells.size]!) = (zerosV z.cells.toList c).toArray := Array.ext' (by rw [zeros_eq hzs hs1 c])
  have hw : ∀ zs : Array Value, (c * i.size = 0 ∨ zs = z.cells) → (Array.range (c * i.size)).map (zs[· % zs.size]!) = (zerosV z.cells.toList c).toArray := by
    intro zs h
    rcases h with h | h
    · rw [← hzz, h]; simp [Array.range]
    · rw [h]; exact hzz
  unfold Instr.makeSlice
  simp only [Sem.run_bind, run_under hu, Result.andThen_ok, asInt, asIntOf, Sem.run_pure, hti, w1, w2, Int.toNat_natCast]
  have hcond : ((decide ((c : Int) < 0) || decide ((i.bytes : Int) * (c : Int) > 2 ^ 48)) || decide ((l : Int) < 0) || decide ((l : Int) > (c : Int))) = false := by
    simp
    omega
  rw [hcond]
  simp only [Bool.false_eq_true, if_false, Sem.run_bind, Result.andThen_ok, run_askRoom, hso]
  by_cases h0 : c * i.size = 0
  · simp only [if_pos h0, Sem.run_pure, Result.andThen_ok, newRow, Sem.run_bind, run_newObj, hw #[] (.inl h0)]
  · simp only [if_neg h0, Sem.run_pure, Sem.run_bind, hzv, Result.andThen_ok, newRow, run_newObj, hw z.cells (.inr rfl)]
end Go.Proofs.Ythablamjbikllaa.Run
