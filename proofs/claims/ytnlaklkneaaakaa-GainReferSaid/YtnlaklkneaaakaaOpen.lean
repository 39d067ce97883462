/- Readings of arguments, kind by kind: what is read as data at a type is of the kind that the words tell (no condition but the type's own rows). -/
import Derived.Test.YtnlaklkneaaakaaWWords
import Derived.SizedLaws
import Derived.ChangeSlices
import Derived.ChangeArms
import Derived.Deep.Slices
import Derived.Carry
namespace Go.Proofs.Ytnlaklkneaaakaa.Open
open Go.ChangeShapes Go.WideShapes Go.Proofs.YtnlaklkneaaakaaW.PrintWords

/-- What is read at type t is of kind d; G: what is known of it, where no string, slice or map in it is larger than the form's reach. -/
structure Opens (P : Program) (t : TypeId) {α : Type} (d : Kd α) (G : α → Prop) : Prop where
  out : ∀ {H : Type} {enc : TypeId × Value → H} {w : World} {base : Nat} {spare : Nat → Bool} {held : Bool} {fuel : Nat} {cs : List Value} {x : DataW H × List MemPlace},
    DataW.trod enc P w base spare held fuel t cs = some x → ∃ a, d.K w a cs ∧ ((∀ n ∈ x.1.weights P t, n ≤ reachBytes) → G a)

theorem Opens.int {P : Program} {t : TypeId} {k : IntKind} (ht : P.underlying t = some (.int k)) : Opens P t (Kd.int k) (fun a => (Lit.int k a).wf = true) := by
  constructor
  intro H enc w base spare held fuel cs x h
  obtain ⟨n, rfl, rfl, hw⟩ := DataW.trod_int ht h
  exact ⟨n, rfl, fun _ => hw⟩
theorem Opens.bool {P : Program} {t : TypeId} (ht : P.underlying t = some .bool) : Opens P t Kd.bool (fun _ => True) := by
  constructor
  intro H enc w base spare held fuel cs x h
  obtain ⟨n, rfl, rfl⟩ := DataW.trod_bool ht h
  exact ⟨n, rfl, fun _ => trivial⟩
theorem Opens.string {P : Program} {t : TypeId} (ht : P.underlying t = some .string) : Opens P t Kd.string (fun a => a.size ≤ 140737488351232) := by
  constructor
  intro H enc w base spare held fuel cs x h
  obtain ⟨n, rfl, rfl, _⟩ := DataW.trod_string ht h
  refine ⟨n, rfl, fun hs => ?_⟩
  have := hs n.data.toList.length (by simp [DataW.weights])
  rw [Array.length_toList] at this
  exact this

theorem weightsAll_mem {H : Type} {P : Program} {e : TypeId} {d : DataW H} {n : Nat} (hn : n ∈ d.weights P e) : ∀ {l : List (DataW H)}, d ∈ l → n ∈ DataW.weightsAll P e l
  | d0 :: r, h => by
    simp only [DataW.weightsAll, List.mem_append]
    rcases List.mem_cons.1 h with rfl | h
    · exact .inl hn
    · exact .inr (weightsAll_mem hn h)

theorem Opens.slice {P : Program} {t e : TypeId} {α : Type} {d : Kd α} {G : α → Prop} (ht : P.underlying t = some (.slice e)) (hc : P.cellsOf e = d.sz) (h : Opens P e d G) :
    Opens P t (Kd.slice e d) (fun l => l.length * P.bytesOf e ≤ 140737488351232 ∧ l.length ≤ 9223372036854775807 ∧ ∀ a ∈ l, G a) := by
  constructor
  intro H enc w base spare held fuel cs x hx
  rcases Go.Deep.open_slice ht hx with ⟨rfl, rfl⟩ | ⟨a, len, cap, m, n, D, Pl, rfl, hb, hl, hm, hmm, rfl, hi⟩
  · exact ⟨[], ⟨none, 0, rfl, Nat.zero_le _, rfl, by simp, fun h0 => absurd h0 (by simp)⟩, fun _ => ⟨by simp, by simp, fun a ha => by simp at ha⟩⟩
  · have hlm : len ≤ m := by rw [hmm]; split <;> omega
    have each : ∀ i, i < len → ∃ q : α × List Value, d.K w q.1 q.2 ∧ ((∀ n ∈ (D i).weights P e, n ≤ reachBytes) → G q.1) ∧ w.cells? base (a.add (i * P.cellsOf e)) (P.cellsOf e) = some q.2 := fun i hil => by
      obtain ⟨cs', h1, h2⟩ := hi i (by omega)
      obtain ⟨y, hK, hG⟩ := h.out h2
      exact ⟨⟨y, cs'⟩, hK, hG, h1⟩
    rcases Nat.eq_zero_or_pos len with h0 | h0
    · subst h0
      exact ⟨[], ⟨some a, cap, rfl, Nat.zero_le _, rfl, by simp, fun h0 => absurd h0 (by simp)⟩, fun _ => ⟨by simp, by simp, fun a ha => by simp at ha⟩⟩
    · obtain ⟨q0, _⟩ := each 0 h0
      haveI : Inhabited (α × List Value) := ⟨q0⟩
      obtain ⟨q, hq⟩ := Go.Deep.choose_lt each
      have hlen : ((List.range len).map fun i => (q i).1).length = len := by simp
      refine ⟨(List.range len).map fun i => (q i).1, ⟨some a, cap, by rw [hlen], by rw [hlen]; exact hl, ?_⟩, fun hs => ⟨?_, ?_, ?_⟩⟩
      · rw [hlen]
        refine ⟨hlen, by have : maxLen = 9223372036854775807 := rfl; omega, fun _ => ⟨a, rfl, fun j p hj => ?_⟩⟩
        have hjl : j < len := by have := (List.getElem?_eq_some_iff.1 hj).1; rwa [hlen] at this
        rw [List.getElem?_map, List.getElem?_range hjl] at hj
        obtain rfl : (q j).1 = p := by simpa using hj
        obtain ⟨hK, _, hcell⟩ := hq j hjl
        obtain ⟨_, hl2, hc2⟩ := World.cells?_some hcell
        refine ⟨(q j).2, by rw [hl2, hc], hK, fun i u hu => ?_⟩
        have hi2 : i < P.cellsOf e := by have := (List.getElem?_eq_some_iff.1 hu).1; omega
        have := hc2 i hi2
        rw [Go.Deep.add_add, hc] at this
        rw [this, hu]
      · rw [hlen]
        have := hs ((((List.range len).map D).length + ((List.range (m - len)).map fun j => D (len + j)).length) * P.bytesOf e) (by simp [DataW.weights, ht])
        simp only [List.length_map, List.length_range] at this
        have h3 : len * P.bytesOf e ≤ (len + (m - len)) * P.bytesOf e := Nat.mul_le_mul_right _ (by omega)
        exact Nat.le_trans h3 this
      · rw [hlen]; have : maxLen = 9223372036854775807 := rfl; omega
      · intro y hy
        obtain ⟨i, hi2, rfl⟩ := List.mem_map.1 hy
        have hil := List.mem_range.1 hi2
        refine (hq i hil).2.1 fun n hn => hs n ?_
        simp only [DataW.weights, ht, List.mem_cons, List.mem_append]
        exact .inr (.inl (weightsAll_mem hn (List.mem_map.2 ⟨i, hi2, rfl⟩)))

/-- The fields fs, the first of which begins at cell off, are of kind d. -/
structure OpensF (P : Program) (fs : List Field) (off : Nat) {α : Type} (d : Kd α) (G : α → Prop) : Prop where
  out : ∀ {H : Type} {enc : TypeId × Value → H} {w : World} {base : Nat} {spare : Nat → Bool} {held : Bool} {n : Nat} {cs : List Value} {xs : List (DataW H × List MemPlace)},
    cs.length = d.sz → xs.length = fs.length → (∀ (i : Nat) (f : Field), fs[i]? = some f → DataW.trod enc P w base spare held n f.type ((cs.drop (f.offset - off)).take (P.cellsOf f.type)) = xs[i]?) →
    ∃ a, d.K w a cs ∧ ((∀ n ∈ DataW.weightsEach P (fs.map (·.type)) (xs.map (·.1)), n ≤ reachBytes) → G a)

theorem OpensF.one {P : Program} {f : Field} {off : Nat} {α : Type} {d : Kd α} {G : α → Prop} (ho : f.offset = off) (hc : P.cellsOf f.type = d.sz) (h : Opens P f.type d G) : OpensF P [f] off d G := by
  constructor
  intro H enc w base spare held n cs xs hl hx hi
  match xs, hx with
  | [x], _ =>
    have h0 := hi 0 f rfl
    rw [ho, Nat.sub_self, List.drop_zero, hc, List.take_of_length_le (by omega)] at h0
    obtain ⟨a, hK, hG⟩ := h.out h0
    refine ⟨a, hK, fun hs => hG fun n hn => hs n ?_⟩
    simp only [List.map_cons, List.map_nil, DataW.weightsEach, List.append_nil]
    exact hn

theorem OpensF.cons {P : Program} {f : Field} {fs : List Field} {off off' : Nat} {α β : Type} {d : Kd α} {d' : Kd β} {G : α → Prop} {G' : β → Prop} (ho : f.offset = off) (hc : P.cellsOf f.type = d.sz) (ho' : off' = off + d.sz) (hge : ∀ g ∈ fs, off' ≤ g.offset)
    (h : Opens P f.type d G) (h' : OpensF P fs off' d' G') : OpensF P (f :: fs) off (Kd.pair d d') (fun a => G a.1 ∧ G' a.2) := by
  constructor
  intro H enc w base spare held n cs xs hl hx hi
  have hl2 : cs.length = d.sz + d'.sz := hl
  match xs, hx with
  | x :: xs, hx =>
    have h0 := hi 0 f rfl
    rw [ho, Nat.sub_self, List.drop_zero, hc] at h0
    obtain ⟨a, hK, hG⟩ := h.out h0
    obtain ⟨b, hK', hG'⟩ := h'.out (cs := cs.drop d.sz) (xs := xs) (by rw [List.length_drop]; omega) (by simpa using hx) (fun i g hg => by
      have h1 := hi (i + 1) g hg
      rw [List.getElem?_cons_succ] at h1
      rw [← h1, List.drop_drop]
      have := hge g (List.mem_of_getElem? hg)
      rw [show d.sz + (g.offset - off') = g.offset - off by omega])
    refine ⟨(a, b), ⟨cs.take d.sz, cs.drop d.sz, (List.take_append_drop _ _).symm, hK, hK'⟩, fun hs => ⟨hG fun n hn => hs n ?_, hG' fun n hn => hs n ?_⟩⟩
    · simp only [List.map_cons, DataW.weightsEach, List.mem_append]
      exact .inl hn
    · simp only [List.map_cons, DataW.weightsEach, List.mem_append]
      exact .inr hn

theorem Opens.struct {P : Program} {t : TypeId} {fs : Array Field} {α β : Type} {d : Kd α} {G : α → Prop} {f : β → α} {g : α → β} (hfg : ∀ a, f (g a) = a) (ht : P.underlying t = some (.struct fs)) (hc : P.cellsOf t = d.sz) (h : OpensF P fs.toList 0 d G) :
    Opens P t (Kd.iso d f) (fun b => G (f b)) := by
  constructor
  intro H enc w base spare held fuel cs x hx
  obtain ⟨xs, n, rfl, rfl, hl, hxl, hi⟩ := DataW.trod_struct ht hx
  obtain ⟨a, hK, hG⟩ := h.out (cs := cs) (xs := xs) (by rw [hl, hc]) (by simpa using hxl) (fun i g hg => by
    rw [Nat.sub_zero]
    exact hi i g (by simpa using hg))
  refine ⟨g a, by show d.K w (f (g a)) cs; rw [hfg]; exact hK, fun hs => by
    show G (f (g a))
    rw [hfg]
    refine hG fun n hn => hs n ?_
    simp only [DataW.weights, ht]
    exact hn⟩
end Go.Proofs.Ytnlaklkneaaakaa.Open
