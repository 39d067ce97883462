/- A machine for closed calls: every operation that it takes answers in Go what the machine says. -/
import Derived.Test.YthablamjbikllaaRunG
set_option linter.unusedVariables false
namespace Go.Proofs.Ythablamjbikllaa.Run
open Go.RowKit

theorem run_buildSlice {P : Program} {ρ : Ren} {g : Env} {e : Operand → Value} {t el size n : Nat} {z : List Value} {parts : Array (Nat × Operand)} {ps : List (Nat × List C)} {l : List C} {W : World}
    (hu : P.underlying t = some (.slice el)) (hs : sizeP P el = some size) (hz : zeroV P el = some z) (ht : Tells ρ g e (parts.toList.map (·.2))) (hp : partsOf g parts.toList = some ps) (h1 : 1 ≤ size) (hzl : z.length = size) (hn : n * size ≤ 16777216)
    (hf : fillC (fun i => some (i * size, size)) (scs (zerosV z n)) ps = some l) :
    ∃ vs, C.reals ρ l = some vs ∧ (Instr.buildSlice t n (parts.map fun (i, x) => (i, e x))).run P W = .ok (.slice (some ⟨W.heap.size, 0, none⟩) n n) { W with heap := W.heap.push (.cells vs.toArray el (0, 0)) } := by
  obtain ⟨zv, z1, z2, _⟩ := run_zero hz W
  have hpr := parts_ok ht hp
  have hzs : zv.cells.size = size := by rw [← hzl, ← z2]; simp
  have hzz := zeros_eq hzs h1 n
  rw [z2] at hzz
  have hw : ∀ zs : Array Value, (n * size = 0 ∨ zs = zv.cells) → ((Array.range (n * size)).map (zs[· % zs.size]!)).toList = zerosV z n := by
    intro zs h
    rcases h with h | h
    · rw [← hzz, h]; simp [Array.range]
    · rw [h]; exact hzz
  have he : (parts.map fun (i, x) => (i, e x)).toList = parts.toList.map fun p => (p.1, e p.2) := by simp
  have key : ∀ zs : Array Value, (n * size = 0 ∨ zs = zv.cells) → ∃ out, Instr.fill (fun i => some (i * size, size)) ((Array.range (n * size)).map (zs[· % zs.size]!)) (parts.toList.map fun p => (p.1, e p.2)) = some out ∧ C.reals ρ l = some out.toList := fun zs h =>
    fill_ok hpr (by rw [hw zs h]; exact C.reals_sc ρ _) hf
  have hbig : ¬ (n * size > 2 ^ 24) := by have : (2 : Nat) ^ 24 = 16777216 := by decide
                                          omega
  unfold Instr.buildSlice
  simp only [Sem.run_bind, run_under hu, Result.andThen_ok, run_size hs, if_neg hbig, he]
  by_cases h0 : n * size = 0
  · obtain ⟨out, o1, o2⟩ := key #[] (.inl h0)
    refine ⟨out.toList, o2, ?_⟩
    simp only [if_pos h0, Sem.run_pure, Result.andThen_ok, o1, newRow, Sem.run_bind, run_newObj]
  · obtain ⟨out, o1, o2⟩ := key zv.cells (.inr rfl)
    refine ⟨out.toList, o2, ?_⟩
    simp only [if_neg h0, Sem.run_pure, Sem.run_bind, z1, Result.andThen_ok, o1, newRow, run_newObj]

/-- What a caller answers is what Go's function returns. -/
structure CallOK (P : Program) (call : Caller) : Prop where
  low : ∀ {f args st v st'}, call f args st = some (v, st') → DomLt st.heap st.next → Low st st'
  body : ∀ {f args st v st'}, call f args st = some (v, st') → ∃ fn c, P.funcs[f]? = some fn ∧ (fn.name == "runtime.NumGoroutine") = false ∧ fn.body = some c
  out : ∀ {f args st v st'}, call f args st = some (v, st') → DomLt st.heap st.next → ∀ ρ W xs, V.reals ρ args = some xs → Good P ρ st.heap.get W → Fresh ρ st.next st'.next →
    Calls P f xs.toArray W fun e W' => ∃ ρ' x, e = .returned x ∧ v.real ρ' = some x ∧ Good P ρ' st'.heap.get W' ∧ Keep ρ st.heap.get W ρ' st'.heap.get W' st.next st'.next
theorem run_callFunc {P : Program} {f : FuncId} {fn : Func} {c : Code} (h1 : P.funcs[f]? = some fn) (h2 : (fn.name == "runtime.NumGoroutine") = false) (h3 : fn.body = some c) (args : Array Value) (W : World) : (callFunc f args).run P W = .ok (.enter f args) W := by
  have h2' : ¬ fn.name = "runtime.NumGoroutine" := fun e => by rw [e] at h2; simp at h2
  simp [callFunc, h1, h2', h3]


section
variable {P : Program} {g : Env} {st st' : St} {o : Oper} {v : V}
theorem tells_mem {ρ : Ren} {e : Operand → Value} {xs : List Operand} (h : Tells ρ g e xs) {x : Operand} (hx : x ∈ xs) {u : V} (hu : g x = some u) : u.real ρ = some (e x) := h x hx u hu
theorem op_move {x : Operand} (ho : o.op = .move x ∨ o.op = .assign x) (h : withSt st (g x) = some (v, st')) : OpOK P g st st' v o ∧ Low st st' := by
  obtain ⟨h', he'⟩ := withSt_spec h
  clear h
  subst he'
  have h := h'
  clear h'
  refine ⟨.still fun ρ A W ht _ => ⟨A.eval x, ?_, tells_mem ht ?_ h⟩, Low.refl _⟩
  · rcases ho with ho | ho <;> simp [execOp, ho]
  · rcases ho with ho | ho <;> simp [ho, Op.operands]
theorem op_closed (h : withSt st (closedV P g o) = some (v, st')) : OpOK P g st st' v o ∧ Low st st' := by
  obtain ⟨h', he'⟩ := withSt_spec h
  clear h
  subst he'
  have h := h'
  clear h'
  exact ⟨closed_OpOK h _, Low.refl _⟩
theorem op_pick {c a b : Operand} (ho : o.op = .pick c a b) {t : Bool} (hc : g c = some (.c (.sc (.bool t)))) (h : withSt st (g (bif t then a else b)) = some (v, st')) : OpOK P g st st' v o ∧ Low st st' := by
  obtain ⟨h', he'⟩ := withSt_spec h
  clear h
  subst he'
  have h := h'
  clear h'
  refine ⟨.still fun ρ A W ht _ => ⟨A.eval (bif t then a else b), ?_, tells_mem ht ?_ h⟩, Low.refl _⟩
  · have := tells_mem ht (by simp [ho, Op.operands]) hc
    simp only [V.real, C.real, Option.some.injEq] at this
    cases t <;> simp [execOp, ho, ← this, asBool]
  · cases t <;> simp [ho, Op.operands]
theorem op_alloc {e : TypeId} (ho : o.op = .alloc e) {z : List Value} (hz : zeroV P e = some z) (hn : newBlk st e (scs z) = some st') : OpOK P g st st' (.c (.ptr st.next 0)) o ∧ Low st st' := by
  refine ⟨.of_run fun ρ A W ht hg hf => ?_, Low.newBlk hn⟩
  obtain ⟨zv, z1, z2, _⟩ := run_zero hz W
  obtain ⟨ρ', W', κ, h1, h2, h3, h4⟩ := newRow_ok hn hg hf (C.reals_sc ρ z)
  refine ⟨ρ', W', .pointer (some ⟨W.heap.size, 0, none⟩), ?_, by simp [V.real, C.real, h1], h3, h4⟩
  have hv : zv.cells = z.toArray := by rw [← z2]
  subst h2
  simp only [execOp, ho]
  refine run_val ?_
  simp [Instr.alloc, z1, newVar, newRow, hv]
theorem op_box {e : TypeId} {x : Operand} (ho : o.op = .box e x) {u : V} (hx : g x = some u) {l : List C} (hl : u.cells = some l) (hn : newBlk st e l = some st') : OpOK P g st st' (.c (.ptr st.next 0)) o ∧ Low st st' := by
  refine ⟨.of_run fun ρ A W ht hg hf => ?_, Low.newBlk hn⟩
  have hr := V.cells_real (tells_mem ht (by simp [ho, Op.operands]) hx) hl (newBlk_spec hn).1
  obtain ⟨ρ', W', κ, h1, h2, h3, h4⟩ := newRow_ok hn hg hf hr
  refine ⟨ρ', W', .pointer (some ⟨W.heap.size, 0, none⟩), ?_, by simp [V.real, C.real, h1], h3, h4⟩
  subst h2
  simp only [execOp, ho]
  refine run_val ?_
  simp [Instr.box, newVar, newRow]
theorem op_build {t : TypeId} {parts : Array (Nat × Operand)} (ho : o.op = .build t parts) {l : List C} (hl : buildV P g t parts = some l) : OpOK P g st st (.agg l) o ∧ Low st st := by
  refine ⟨.still fun ρ A W ht _ => ?_, Low.refl _⟩
  obtain ⟨vs, h1, h2⟩ := build_ok (e := A.eval) hl (by simpa [ho, Op.operands] using ht) W
  refine ⟨_, ?_, by simp [V.real, h1]; rfl⟩
  simp only [execOp, ho]
  exact run_val h2
theorem op_buildSlice {t el size n : Nat} {parts : Array (Nat × Operand)} (ho : o.op = .buildSlice t n parts) (he : elemOf? P t = some (el, size)) {z : List Value} (hz : zeroV P el = some z) {ps : List (Nat × List C)} (hp : partsOf g parts.toList = some ps)
    (hc : (Nat.ble 1 size && Nat.beq z.length size && Nat.ble (n * size) 16777216) = true) {l : List C} (hf : fillC (fun i => some (i * size, size)) (scs (zerosV z n)) ps = some l) (hn : newBlk st el l = some st') : OpOK P g st st' (.c (.slc st.next 0 n n)) o ∧ Low st st' := by
  simp only [Bool.and_eq_true] at hc
  obtain ⟨hu, hs⟩ := elemOf_spec he
  refine ⟨.of_run fun ρ A W ht hg hf' => ?_, Low.newBlk hn⟩
  obtain ⟨vs, v1, v2⟩ := run_buildSlice (e := A.eval) (W := W) hu hs hz (by simpa [ho, Op.operands] using ht) hp (ble_of hc.1.1) (beq_of hc.1.2) (ble_of hc.2) hf
  obtain ⟨ρ', W', κ, h1, h2, h3, h4⟩ := newRow_ok hn hg hf' v1
  refine ⟨ρ', W', _, ?_, by simp [V.real, C.real, h1]; rfl, h3, h4⟩
  subst h2
  simp only [execOp, ho]
  exact run_val v2
theorem op_load {t : TypeId} {x : Operand} (ho : o.op = .load t x) {b off : Nat} (hx : g x = some (.c (.ptr b off))) (h : withSt st (loadV P t st.heap b off) = some (v, st')) : OpOK P g st st' v o ∧ Low st st' := by
  obtain ⟨h', he'⟩ := withSt_spec h
  clear h
  subst he'
  have h := h'
  clear h'
  refine ⟨.still fun ρ A W ht hg => ?_, Low.refl _⟩
  obtain ⟨r, κ, y, h1, h2, h3⟩ := load_ok hg h
  have := tells_mem ht (by simp [ho, Op.operands]) hx
  simp only [V.real, C.real, h1, Option.map_some, Option.some.injEq] at this
  refine ⟨y, ?_, h2⟩
  simp only [execOp, ho]
  refine run_val ?_
  rw [← this]
  simp [Instr.loadAt, Instr.sureAddr, h3]
theorem op_store {t : TypeId} {x y : Operand} (ho : o.op = .store t x y) {b off : Nat} (hx : g x = some (.c (.ptr b off))) {u : V} (hy : g y = some u) (h : storeV P t st b off u = some st') : OpOK P g st st' (.tup []) o ∧ Low st st' := by
  refine ⟨.of_skip fun ρ A W ht hg _ => ?_, storeV_low h⟩
  have hn : st'.next = st.next := by
    unfold storeV at h
    split at h
    · cases h
    · split at h
      · cases h
      · obtain ⟨_, h⟩ := bif_some h
        unfold writeC at h
        split at h
        · obtain ⟨_, h⟩ := bif_some h
          simp only [Option.some.injEq] at h
          rw [← h]; rfl
        · cases h
  obtain ⟨r, κ, W', h1, h2, h3, h4⟩ := storeV_ok h hg (tells_mem ht (by simp [ho, Op.operands]) hy)
  have := tells_mem ht (by simp [ho, Op.operands]) hx
  simp only [V.real, C.real, h1, Option.map_some, Option.some.injEq] at this
  refine ⟨ρ, W', ?_, h3, h4⟩
  simp only [execOp, ho]
  refine run_unit ?_
  rw [← this]
  simp [Instr.storeAt, Instr.sureAddr, h2]
theorem op_nil {x : Operand} (ho : o.op = .nilCheck x) {b off : Nat} (hx : g x = some (.c (.ptr b off))) : OpOK P g st st (.c (.ptr b off)) o ∧ Low st st := by
  refine ⟨.still fun ρ A W ht hg => ?_, Low.refl _⟩
  have := tells_mem ht (by simp [ho, Op.operands]) hx
  refine ⟨A.eval x, ?_, this⟩
  simp only [V.real, C.real, Option.map_eq_some_iff] at this
  obtain ⟨p, hp, e⟩ := this
  simp only [execOp, ho, ← e]
  rfl
theorem op_makeFunc {f : Nat} {first caps : Array Operand} (ho : o.op = .makeFunc (.func f) first caps) (hf : first.isEmpty = true) {vs : List V} (hv : evs g caps.toList = some vs) {cs : List C} (hc : cellsOf vs = some cs) : OpOK P g st st (.c (.fn f cs)) o ∧ Low st st := by
  refine ⟨.still fun ρ A W ht hg => ?_, Low.refl _⟩
  have h0 : first = #[] := by simpa using hf
  subst h0
  have h1 := evs_ok (e := A.eval) (by simpa [ho, Op.operands] using ht) hv
  have h2 := cellsOf_ok hc h1
  refine ⟨_, ?_, by simp [V.real, C.real, h2]; rfl⟩
  simp only [execOp, ho]
  refine run_val ?_
  simp [Instr.makeFunc]
  exact Array.ext' (by simp)
theorem op_makeSlice {t el size l c : Nat} {xl xc : Operand} (ho : o.op = .makeSlice t xl xc) (he : elemOf? P t = some (el, size)) (hl : nat? g xl = some l) (hc : nat? g xc = some c) {i : TypeInfo} (hi : P.info? el = some i) {z : List Value} (hz : zeroV P el = some z)
    (hh : (Nat.ble 1 size && Nat.ble l c && Nat.ble (i.bytes * c) 281474976710656 && Nat.beq z.length size && Nat.ble c 4611686018427387904) = true) (hn : newBlk st el (scs (zerosV z c)) = some st') : OpOK P g st st' (.c (.slc st.next 0 l c)) o ∧ Low st st' := by
  simp only [Bool.and_eq_true] at hh
  obtain ⟨⟨⟨⟨h1, h2⟩, h3⟩, h4⟩, h5⟩ := hh
  obtain ⟨hu, hs⟩ := elemOf_spec he
  refine ⟨.of_run fun ρ A W ht hg hf => ?_, Low.newBlk hn⟩
  obtain ⟨zv, z1, z2, i', z3, z4⟩ := run_zero hz W
  rw [hi] at z3
  cases z3
  have hsz : i.size = size := by
    unfold sizeP at hs
    rw [hi] at hs
    simpa using hs
  obtain ⟨kl, hkl⟩ := ht.nat (by simp [ho, Op.operands]) hl
  obtain ⟨kc, hkc⟩ := ht.nat (by simp [ho, Op.operands]) hc
  obtain ⟨ρ', W', κ, q1, q2, q3, q4⟩ := newRow_ok hn hg hf (C.reals_sc ρ _)
  have hzl : zv.cells.size = i.size := by rw [hsz, ← beq_of h4, ← z2]; simp
  have := run_makeSlice (W := W) (kl := kl) (kc := kc) hu hi z4 hzl (by rw [hsz]; exact ble_of h1) (ble_of h2) (ble_of h3) (ble_of h5)
  rw [z2] at this
  refine ⟨ρ', W', _, ?_, by simp [V.real, C.real, q1]; rfl, q3, q4⟩
  subst q2
  simp only [execOp, ho, hkl, hkc]
  exact run_val this
theorem op_slice {t : TypeId} {x : Operand} {lo hi mx : Option Operand} (ho : o.op = .slice t x lo hi mx) {u : V} (hx : g x = some u) (h : withSt st (orV (sliceV P g st.heap t u lo hi mx) (closedV P g o)) = some (v, st')) : OpOK P g st st' v o ∧ Low st st' := by
  obtain ⟨h', he'⟩ := withSt_spec h
  clear h
  subst he'
  have h := h'
  clear h'
  rcases orV_spec h with h | h
  · refine ⟨.still fun ρ A W ht hg => ?_, Low.refl _⟩
    obtain ⟨y, h1, h2⟩ := run_slice_cases (e := A.eval) (W := W) hg ht (fun y hy => by subst hy; simp [ho, Op.operands]) (fun y hy => by subst hy; simp [ho, Op.operands]) (fun y hy => by subst hy; simp [ho, Op.operands]) (tells_mem ht (by simp [ho, Op.operands]) hx) h
    refine ⟨y, ?_, h1⟩
    simp only [execOp, ho]
    exact run_val h2
  · exact ⟨closed_OpOK h _, Low.refl _⟩
theorem op_fieldAddr {s f : Nat} {x : Operand} (ho : o.op = .fieldAddr s x f) {u : V} (hx : g x = some u) (h : withSt st (fieldAddrV P s u f) = some (v, st')) : OpOK P g st st' v o ∧ Low st st' := by
  obtain ⟨h', he'⟩ := withSt_spec h
  clear h
  subst he'
  have h := h'
  clear h'
  refine ⟨.still fun ρ A W ht hg => ?_, Low.refl _⟩
  obtain ⟨y, h1, h2⟩ := fieldAddr_ok (tells_mem ht (by simp [ho, Op.operands]) hx) h W
  refine ⟨y, ?_, h1⟩
  simp only [execOp, ho]
  exact run_val h2
theorem op_field {s f : Nat} {x : Operand} (ho : o.op = .field s x f) {u : V} (hx : g x = some u) (h : withSt st (fieldV P s u f) = some (v, st')) : OpOK P g st st' v o ∧ Low st st' := by
  obtain ⟨h', he'⟩ := withSt_spec h
  clear h
  subst he'
  have h := h'
  clear h'
  refine ⟨.still fun ρ A W ht hg => ?_, Low.refl _⟩
  obtain ⟨y, h1, h2⟩ := field_ok (tells_mem ht (by simp [ho, Op.operands]) hx) h W
  refine ⟨y, ?_, h1⟩
  simp only [execOp, ho]
  exact run_val h2
theorem op_indexAddr {t i : Nat} {x ix : Operand} (ho : o.op = .indexAddr t x ix) {u : V} (hx : g x = some u) (hi : nat? g ix = some i) (h : withSt st (indexAddrV P t u i) = some (v, st')) : OpOK P g st st' v o ∧ Low st st' := by
  obtain ⟨h', he'⟩ := withSt_spec h
  clear h
  subst he'
  have h := h'
  clear h'
  refine ⟨.still fun ρ A W ht hg => ?_, Low.refl _⟩
  obtain ⟨k, hk⟩ := ht.nat (by simp [ho, Op.operands]) hi
  obtain ⟨y, h1, h2⟩ := indexAddr_ok (k := k) (tells_mem ht (by simp [ho, Op.operands]) hx) h W
  refine ⟨y, ?_, h1⟩
  simp only [execOp, ho, hk]
  exact run_val h2
theorem op_index {t i : Nat} {x ix : Operand} (ho : o.op = .index t x ix) {u : V} (hx : g x = some u) (hi : nat? g ix = some i) (h : withSt st (orV (indexV P t u i) (closedV P g o)) = some (v, st')) : OpOK P g st st' v o ∧ Low st st' := by
  obtain ⟨h', he'⟩ := withSt_spec h
  clear h
  subst he'
  have h := h'
  clear h'
  rcases orV_spec h with h | h
  · refine ⟨.still fun ρ A W ht hg => ?_, Low.refl _⟩
    obtain ⟨k, hk⟩ := ht.nat (by simp [ho, Op.operands]) hi
    obtain ⟨y, h1, h2⟩ := index_ok (k := k) (tells_mem ht (by simp [ho, Op.operands]) hx) h W
    refine ⟨y, ?_, h1⟩
    simp only [execOp, ho, hk]
    exact run_val h2
  · exact ⟨closed_OpOK h _, Low.refl _⟩
theorem op_extract {x : Operand} {i : Nat} (ho : o.op = .extract x i) {l : List V} (hx : g x = some (.tup l)) (h : withSt st l[i]? = some (v, st')) : OpOK P g st st' v o ∧ Low st st' := by
  obtain ⟨h', he'⟩ := withSt_spec h
  clear h
  subst he'
  have h := h'
  clear h'
  refine ⟨.still fun ρ A W ht hg => ?_, Low.refl _⟩
  have := tells_mem ht (by simp [ho, Op.operands]) hx
  simp only [V.real, Option.map_eq_some_iff] at this
  obtain ⟨vs, hvs, e⟩ := this
  obtain ⟨y, h1, h2⟩ := (V.reals_spec hvs).2 i v h
  refine ⟨y, ?_, h1⟩
  simp only [execOp, ho, ← e]
  refine run_val ?_
  simp [Instr.extract, h2]
theorem op_bytes {src dst : Nat} {x : Operand} (ho : o.op = .convert src dst x) {u : V} (hx : g x = some u) (h : bytesV P st src dst u = some (v, st')) : OpOK P g st st' v o ∧ Low st st' := by
  refine ⟨.of_run fun ρ A W ht hg hf => ?_, bytes_low h⟩
  obtain ⟨ρ', W', y, h1, h2, h3, h4⟩ := bytes_ok h (tells_mem ht (by simp [ho, Op.operands]) hx) hg hf
  refine ⟨ρ', W', y, ?_, h2, h3, h4⟩
  simp only [execOp, ho]
  exact run_val h1
theorem op_convert {src dst : Nat} {x : Operand} (ho : o.op = .convert src dst x) {u : V} (hx : g x = some u) (h : withSt st (orV (strV P st.heap src dst u) (closedV P g o)) = some (v, st')) : OpOK P g st st' v o ∧ Low st st' := by
  obtain ⟨h', he'⟩ := withSt_spec h
  clear h
  subst he'
  have h := h'
  clear h'
  rcases orV_spec h with h | h
  · refine ⟨.still fun ρ A W ht hg => ?_, Low.refl _⟩
    obtain ⟨y, h1, h2⟩ := str_ok hg (tells_mem ht (by simp [ho, Op.operands]) hx) h
    refine ⟨y, ?_, h1⟩
    simp only [execOp, ho]
    exact run_val h2
  · exact ⟨closed_OpOK h _, Low.refl _⟩
theorem op_call {call : Caller} (hc : CallOK P call) (hd : DomLt st.heap st.next) {f : Operand} {args : Array Operand} {ts : Array TypeId} (ho : o.op = .call ⟨.value f, args, ts⟩) {k : Nat} {caps : List C} (hf : g f = some (.c (.fn k caps))) {vs : List V} (hv : evs g args.toList = some vs) (h : call k (vs ++ caps.map .c) st = some (v, st')) :
    OpOK P g st st' v o ∧ Low st st' := by
  refine ⟨fun ρ A W ht hg hfr K Q hk => ?_, hc.low h hd⟩
  have h1 := tells_mem ht (by simp [ho, Op.operands, Call.operands]) hf
  have h2 := evs_ok (e := A.eval) (l := args.toList) (fun x hx => ht x (by simp [ho, Op.operands, Call.operands] at hx ⊢; exact .inr hx)) hv
  simp only [V.real, C.real, Option.map_eq_some_iff] at h1
  obtain ⟨cs, hcs, e⟩ := h1
  obtain ⟨fn, c, b1, b2, b3⟩ := hc.body h
  have hrun : (execOp A.eval o).run P W = .ok (.enter k (args.toList.map A.eval ++ cs).toArray) W := by
    simp only [execOp, ho, resolve, ← e, Deferred.ofValue, Sem.run_bind, Sem.run_pure, Result.andThen_ok, invoke]
    rw [run_callFunc b1 b2 b3]
    simp
  simp only [Oper.wp, hrun, Oper.upon_enter]
  refine (hc.out h hd ρ W _ (V.reals_append h2 (reals_caps hcs)) hg hfr).mono fun e W' => ?_
  rintro ⟨ρ', x, rfl, q1, q2, q3⟩
  exact hk ρ' W' x q3 q2 q1
theorem op_len {args : Array Operand} {ts : Array TypeId} (ho : o.op = .call ⟨.builtin .len, args, ts⟩) {t : TypeId} {x : Operand} (ht0 : ts[0]? = some t) (ha : args.toList = [x]) {u : V} (hx : g x = some u) (h : withSt st (orV (lenV P t u st.heap) (closedV P g o)) = some (v, st')) : OpOK P g st st' v o ∧ Low st st' := by
  obtain ⟨h', he'⟩ := withSt_spec h
  clear h
  subst he'
  have h := h'
  clear h'
  rcases orV_spec h with h | h
  · refine ⟨.still fun ρ A W ht hg => ?_, Low.refl _⟩
    have ha' : args = #[x] := by rw [← Array.toList_inj]; simpa using ha
    subst ha'
    obtain ⟨y, h1, h2⟩ := len_ok (ty := o.type) hg ht0 (tells_mem ht (by simp [ho, Op.operands, Call.operands]) hx) h
    refine ⟨y, ?_, h1⟩
    simp only [execOp, ho, resolve, Sem.run_bind, Sem.run_pure, Result.andThen_ok, invoke, builtin, List.map_toArray, List.map_cons, List.map_nil, h2]
  · exact ⟨closed_OpOK h _, Low.refl _⟩
theorem op_append {args : Array Operand} {ts : Array TypeId} (ho : o.op = .call ⟨.builtin .append, args, ts⟩) {sT xT : TypeId} {s x : Operand} (ht0 : ts.toList = [sT, xT]) (ha : args.toList = [s, x]) {us ux : V} (hs : g s = some us) (hx : g x = some ux) (h : appendV P st sT xT us ux = some (v, st')) : OpOK P g st st' v o ∧ Low st st' := by
  refine ⟨.of_run fun ρ A W ht hg hf => ?_, append_low h⟩
  have ha' : args = #[s, x] := by rw [← Array.toList_inj]; simpa using ha
  have ht' : ts = #[sT, xT] := by rw [← Array.toList_inj]; simpa using ht0
  subst ha' ht'
  obtain ⟨ρ', W', y, h1, h2, h3, h4⟩ := append_ok (ty := o.type) h (tells_mem ht (by simp [ho, Op.operands, Call.operands]) hs) (tells_mem ht (by simp [ho, Op.operands, Call.operands]) hx) hg hf
  refine ⟨ρ', W', y, ?_, h2, h3, h4⟩
  simp only [execOp, ho, resolve, Sem.run_bind, Sem.run_pure, Result.andThen_ok, invoke, builtin, List.map_toArray, List.map_cons, List.map_nil, h1]
theorem op_copy {args : Array Operand} {ts : Array TypeId} (ho : o.op = .call ⟨.builtin .copy, args, ts⟩) {dT sT : TypeId} {d s : Operand} (ht0 : ts.toList = [dT, sT]) (ha : args.toList = [d, s]) {ud us : V} (hd : g d = some ud) (hs : g s = some us) (h : copyV P st dT ud us = some (v, st')) : OpOK P g st st' v o ∧ Low st st' := by
  refine ⟨.of_run fun ρ A W ht hg hf => ?_, copy_low h⟩
  have ha' : args = #[d, s] := by rw [← Array.toList_inj]; simpa using ha
  have ht' : ts = #[dT, sT] := by rw [← Array.toList_inj]; simpa using ht0
  subst ha' ht'
  obtain ⟨W', y, h1, h2, h3, h4⟩ := copy_ok (sT := sT) (ty := o.type) h (tells_mem ht (by simp [ho, Op.operands, Call.operands]) hd) (tells_mem ht (by simp [ho, Op.operands, Call.operands]) hs) hg
  refine ⟨ρ, W', y, ?_, h2, h3, h4⟩
  simp only [execOp, ho, resolve, Sem.run_bind, Sem.run_pure, Result.andThen_ok, invoke, builtin, List.map_toArray, List.map_cons, List.map_nil, h1]

/-! ### numbers -/
theorem wrap_in {k : IntKind} {m : Nat} (h : fitN k m = true) : k.wrap (m : Int) = m := by
  cases k <;> simp only [fitN] at h <;> first | (cases h; done) | skip
  · have := ble_of h; rw [IntKind.wrap_i64]; omega
  · have := ble_of h
    have hs : IntKind.signed .u8 = false := rfl
    have hb : IntKind.bits .u8 = 8 := rfl
    simp only [IntKind.wrap, hs, hb, Bool.false_and, Bool.false_eq_true, if_false]
    omega
theorem wrap_neg {m : Nat} (h : m ≤ 9223372036854775807) : IntKind.wrap .i64 (Int.negSucc m) = Int.negSucc m := by
  rw [IntKind.wrap_i64, Int.negSucc_eq]
  omega
theorem wrapF_neg (m N : Nat) (hN : N = 9223372036854775807) (b : Bool) (hb : Nat.ble m N = b) : (bif b then Int.negSucc m else IntKind.wrap .i64 (Int.negSucc m)) = IntKind.wrap .i64 (Int.negSucc m) := by
  cases b with
  | false => rw [cond_false]
  | true =>
    have h1 : m ≤ N := Nat.le_of_ble_eq_true hb
    have h2 : m ≤ 9223372036854775807 := Nat.le_trans h1 (Nat.le_of_eq hN)
    have h3 := wrap_neg h2
    rw [cond_true]
    exact h3.symm
theorem wrapF_eq (k : IntKind) (n : Int) : wrapF k n = k.wrap n := by
  unfold wrapF
  split
  · rename_i m
    cases h : fitN k m with
    | true =>
      simp only [cond_true, Int.ofNat_eq_natCast]
      exact (wrap_in h).symm
    | false => simp only [cond_false]
  · rename_i m
    split
    · exact wrapF_neg m _ rfl _ rfl
    · rfl
theorem ltF_eq (a b : Int) : ltF a b = decide (a < b) := by
  have nb : ∀ m n : Nat, Nat.blt m n = decide (m < n) := fun m n => by
    cases h : Nat.blt m n with
    | true => have := blt_of h; simp [this]
    | false =>
      have : ¬ m < n := fun c => by rw [show Nat.blt m n = true from Nat.ble_eq_true_of_le c] at h; cases h
      simp [this]
  unfold ltF
  split <;> simp only [nb, Int.ofNat_eq_natCast, Int.negSucc_eq] <;> first
    | (rw [decide_eq_decide]; omega)
    | (symm; rw [decide_eq_true_eq]; omega)
    | (symm; rw [decide_eq_false_iff_not]; omega)
theorem eqF_eq (a b : Int) : eqF a b = (a == b) := by
  have nb : ∀ m n : Nat, Nat.beq m n = decide (m = n) := fun m n => by
    cases h : Nat.beq m n with
    | true => have := beq_of h; simp [this]
    | false => have := beq_no h; simp [this]
  have e : (a == b) = decide (a = b) := rfl
  rw [e]
  unfold eqF
  split
  · simp only [nb, Int.ofNat_eq_natCast]; rw [decide_eq_decide]; omega
  · simp only [nb, Int.negSucc_eq]; rw [decide_eq_decide]; omega
  · rename_i h1 h2
    symm
    rw [decide_eq_false_iff_not]
    rintro rfl
    cases a with
    | ofNat m => exact h1 m m rfl rfl
    | negSucc m => exact h2 m m rfl rfl
theorem xor_ok {k : IntKind} {m n : Nat} (hm : fitN k m = true) (hn : fitN k n = true) (P : Program) (W : World) : (Op.intBits .xor k (.ofNat m) (.ofNat n)).run P W = .ok (.int k (.ofNat (Nat.xor m n))) W := by
  have key : ∀ w : Nat, m < 2 ^ w → n < 2 ^ w → (BitVec.ofInt w (.ofNat m) ^^^ BitVec.ofInt w (.ofNat n)).toNat = Nat.xor m n := by
    intro w h1 h2
    rw [BitVec.toNat_xor]
    have e : ∀ q : Nat, q < 2 ^ w → (BitVec.ofInt w (.ofNat q)).toNat = q := fun q hq => by
      show (BitVec.ofInt w ((q : Nat) : Int)).toNat = q
      rw [BitVec.ofInt_natCast, BitVec.toNat_ofNat, Nat.mod_eq_of_lt hq]
    rw [e m h1, e n h2]
    rfl
  cases k <;> simp only [fitN] at hm hn <;> first | (cases hm; done) | skip
  · have h1 := ble_of hm; have h2 := ble_of hn
    have hx : Nat.xor m n < 2 ^ 63 := Nat.xor_lt_two_pow (by omega) (by omega)
    have := key 64 (by omega) (by omega)
    show Result.ok (Value.int .i64 (IntKind.i64.wrap ((BitVec.ofInt 64 (.ofNat m) ^^^ BitVec.ofInt 64 (.ofNat n)).toNat))) W = _
    rw [this]
    congr 2
    rw [IntKind.wrap_i64]
    show _ = ((Nat.xor m n : Nat) : Int)
    omega
  · have h1 := ble_of hm; have h2 := ble_of hn
    have hx : Nat.xor m n < 2 ^ 8 := Nat.xor_lt_two_pow (by omega) (by omega)
    have := key 8 (by omega) (by omega)
    show Result.ok (Value.int .u8 (IntKind.u8.wrap ((BitVec.ofInt 8 (.ofNat m) ^^^ BitVec.ofInt 8 (.ofNat n)).toNat))) W = _
    rw [this]
    congr 2
    exact wrap_in (k := .u8) (by
      show Nat.ble _ 255 = true
      exact Nat.ble_eq_true_of_le (by omega))
theorem sameK_eq {j k : IntKind} (h : sameK j k = true) : j = k := by cases j <;> cases k <;> first | rfl | cases h
theorem intBin_ok {op : BinOp} {k : IntKind} {a b : Int} {w : Value} (h : intBin op k a b = some w) (P : Program) (W : World) (t : TypeId) : (binOp op t (.int k a) (.int k b)).run P W = .ok w W := by
  unfold intBin at h
  split at h
  all_goals try simp only [intRes_eq, boolRes_eq] at h
  all_goals first
    | (simp only [Option.some.injEq] at h; subst h; simp [binOp, Op.intArith, Op.intCmp, wrapF_eq, ltF_eq, eqF_eq]; done)
    | (simp only [Option.some.injEq] at h; subst h; simp [binOp, Op.intArith, wrapF_eq]; rfl)
    | skip
  all_goals first
    | (simp only [Option.some.injEq] at h; subst h; simp [binOp, Op.intCmp, ltF_eq, eqF_eq, bne]; done)
    | (simp only [Option.some.injEq] at h; subst h; simp only [binOp, Op.intCmp, ltF_eq, Sem.run_pure, ne_eq, not_true_eq_false, if_false]; congr 2; rw [← decide_not, decide_eq_decide]; omega)
    | skip
  · unfold xorRes at h
    split at h
    · obtain ⟨c, h⟩ := bif_some h
      simp only [Bool.and_eq_true] at c
      rw [intRes_eq] at h
      simp only [Option.some.injEq] at h
      subst h
      have := xor_ok c.1 c.2 P W
      simp only [binOp, ne_eq, not_true_eq_false, if_false]
      exact this
    · cases h
  · cases h
theorem eqGuard_int {op : BinOp} {t : TypeId} {x y : Operand} {j k : IntKind} {a b : Int} (P : Program) (W : World) : (eqGuard op t x y (.int j a) (.int k b)).run P W = .ok () W := by
  unfold eqGuard
  cases op <;> simp
theorem equal_nil {P : Program} {t e : TypeId} (hu : P.underlying t = some (.slice e)) (p : Addr) (l c l' c' : Nat) (W : World) : (Op.equal t (.slice (some p) l c) (.slice none l' c')).run P W = .ok false W := by
  unfold Op.equal
  rw [show Op.maxDepth = 9999 + 1 from rfl, Op.equalIn]
  simp only [Sem.run_bind, run_under hu, Result.andThen_ok]
  rfl
theorem nilCmp_ok {P : Program} {ρ : Ren} {op : BinOp} {t : TypeId} {u v w : V} {X Y : Value} (h : nilCmp P op t u v = some w) (hx : u.real ρ = some X) (hy : v.real ρ = some Y) (x y : Operand) (W : World) :
    ∃ r, w.real ρ = some r ∧ (do eqGuard op t x y X Y; binOp op t X Y : Sem Value).run P W = .ok r W := by
  have main : ∀ (e : TypeId) (p : Addr) (l c l' c' : Nat), P.underlying t = some (.slice e) → X = .slice (some p) l c → Y = .slice none l' c' → (∀ b, (op = .eql ∧ b = false ∨ op = .neq ∧ b = true) → (do eqGuard op t x y X Y; binOp op t X Y : Sem Value).run P W = .ok (.bool b) W) := by
    intro e p l c l' c' hu hX hY b hb
    subst hX hY
    have hg : (eqGuard op t x y (.slice (some p) l c) (.slice none l' c')).run P W = .ok () W := by
      unfold eqGuard
      rcases hb with ⟨rfl, _⟩ | ⟨rfl, _⟩ <;> simp
    simp only [Sem.run_bind, hg, Result.andThen_ok]
    rcases hb with ⟨rfl, rfl⟩ | ⟨rfl, rfl⟩
    · simp [binOp, equal_nil hu]
    · simp [binOp, equal_nil hu]
  unfold nilCmp at h
  split at h
  · rename_i e b off len cap l' c' hu
    simp only [V.real, C.real, Option.map_eq_some_iff, Option.some.injEq] at hx hy
    obtain ⟨p, _, rfl⟩ := hx
    subst hy
    split at h
    · simp only [Option.some.injEq] at h; subst h
      exact ⟨_, rfl, main e _ _ _ _ _ hu rfl rfl false (.inl ⟨rfl, rfl⟩)⟩
    · simp only [Option.some.injEq] at h; subst h
      exact ⟨_, rfl, main e _ _ _ _ _ hu rfl rfl true (.inr ⟨rfl, rfl⟩)⟩
    · cases h
  · rename_i e b off lo len l' c' hu
    simp only [V.real, C.real, Option.map_eq_some_iff, Option.some.injEq] at hx hy
    obtain ⟨p, _, rfl⟩ := hx
    subst hy
    split at h
    · simp only [Option.some.injEq] at h; subst h
      exact ⟨_, rfl, main e _ _ _ _ _ hu rfl rfl false (.inl ⟨rfl, rfl⟩)⟩
    · simp only [Option.some.injEq] at h; subst h
      exact ⟨_, rfl, main e _ _ _ _ _ hu rfl rfl true (.inr ⟨rfl, rfl⟩)⟩
    · cases h
  · cases h
theorem op_bin {op : BinOp} {t ty : TypeId} {x y : Operand} (ho : o.op = .binOp op t x y ty) {u w : V} (hx : g x = some u) (hy : g y = some w) (h : withSt st (orV (binF op u w) (orV (closedV P g o) (nilCmp P op t u w))) = some (v, st')) : OpOK P g st st' v o ∧ Low st st' := by
  obtain ⟨h', he'⟩ := withSt_spec h
  clear h
  subst he'
  rcases orV_spec h' with h | h
  · refine ⟨.still fun ρ A W ht _ => ?_, Low.refl _⟩
    have tx := tells_mem ht (by simp [ho, Op.operands]) hx
    have ty := tells_mem ht (by simp [ho, Op.operands]) hy
    unfold binF at h
    split at h
    · cases h
    · rename_i j a hu
      split at h
      · cases h
      · rename_i k b hv
        obtain ⟨c, h2⟩ := bif_some h
        clear h
        have e := sameK_eq c
        clear c
        subst e
        have e1 := vInt_spec hu
        have e2 := vInt_spec hv
        subst e1 e2
        unfold scO at h2
        split at h2
        · rename_i r hr
          simp only [Option.some.injEq] at h2
          subst h2
          simp only [V.real, C.real, Option.some.injEq] at tx ty
          refine ⟨r, ?_, rfl⟩
          simp only [execOp, ho, ← tx, ← ty]
          exact run_val (by simp only [Sem.run_bind, eqGuard_int, Result.andThen_ok, intBin_ok hr P W t])
        · cases h2
  · rcases orV_spec h with h | h
    · exact ⟨closed_OpOK h _, Low.refl _⟩
    · refine ⟨.still fun ρ A W ht _ => ?_, Low.refl _⟩
      obtain ⟨r, r1, r2⟩ := nilCmp_ok h (tells_mem ht (by simp [ho, Op.operands]) hx) (tells_mem ht (by simp [ho, Op.operands]) hy) x y W
      refine ⟨r, ?_, r1⟩
      simp only [execOp, ho]
      exact run_val r2
theorem op_convF {src dst : Nat} {x : Operand} (ho : o.op = .convert src dst x) {u w : V} (hx : g x = some u) (h : convF P src dst u = some w) : OpOK P g st st w o ∧ Low st st := by
  refine ⟨.still fun ρ A W ht _ => ?_, Low.refl _⟩
  have tx := tells_mem ht (by simp [ho, Op.operands]) hx
  unfold convF at h
  split at h
  · rename_i k n
    split at h
    · rename_i d k' hs hd
      rw [intRes_eq] at h
      simp only [scO, Option.some.injEq] at h
      subst h
      simp only [V.real, C.real, Option.some.injEq] at tx
      refine ⟨_, ?_, rfl⟩
      simp only [execOp, ho, ← tx]
      refine run_val ?_
      simp only [convert, Sem.run_bind, run_under hs, run_under hd, Result.andThen_ok, Conv.intToInt, Sem.run_pure, wrapF_eq]
    · cases h
  · cases h
/-! ### maps -/
theorem Good.map {ρ : Ren} {h : Heap} {W : World} (gd : Good P ρ h W) {b : Nat} {es : List MapEntry} {clock : Nat} (hb : h b = some (.map es clock)) : ∃ r κ, ρ b = some (r, κ) ∧ (getObj r).run P W = .ok (.map es.toArray clock) W ∧ W.heap[r]? = some (.map es.toArray clock) := by
  obtain ⟨r, κ, hr, hk⟩ := gd.at_ b _ hb
  simp only [BlkR] at hk
  exact ⟨r, κ, hr, by simp only [getObj, Sem.run, hk], hk⟩
theorem Good.setMap {ρ : Ren} {h : Heap} {W : World} (gd : Good P ρ h W) {b : Nat} {es : List MapEntry} {clock : Nat} (hb : h b = some (.map es clock)) (es' : List MapEntry) (clock' n : Nat) :
    ∃ r κ W', ρ b = some (r, κ) ∧ (setObj r (.map es'.toArray clock')).run P W = .ok () W' ∧ Good P ρ (upd h b (some (.map es' clock'))) W' ∧ Keep ρ h W ρ (upd h b (some (.map es' clock'))) W' n n := by
  obtain ⟨r, κ, hr, _, hk⟩ := gd.map hb
  have hlt : r < W.heap.size := (Array.getElem?_eq_some_iff.1 hk).1
  refine ⟨r, κ, { W with heap := W.heap.setIfInBounds r (.map es'.toArray clock') }, hr, by simp only [setObj, Sem.run, hk], ?_⟩
  exact gd.turn (W' := { W with heap := W.heap.setIfInBounds r (.map es'.toArray clock') }) (blk := .map es' clock') (o := .map es'.toArray clock') hb hr rfl (by simp [hlt]) (fun x hx => by simp only; rw [Array.getElem?_setIfInBounds_ne (by omega)]) (by simp) rfl rfl rfl n
theorem op_makeMap {t : TypeId} (ho : o.op = .makeMap t none) : OpOK P g st (st.new (.map [] 0)) (.c (.mp st.next)) o ∧ Low st (st.new (.map [] 0)) := by
  refine ⟨.of_run fun ρ A W ht hg hf => ?_, Low.new _ _⟩
  have := hg.alloc (b := st.next) (f_ hf) 0 (blk := .map [] 0) (o := .map #[] 0) rfl (W' := { W with heap := W.heap.push (.map #[] 0) }) rfl rfl rfl rfl
  refine ⟨upd ρ st.next (some (W.heap.size, 0)), { W with heap := W.heap.push (.map #[] 0) }, .map (some W.heap.size), ?_, by simp [V.real, C.real, upd_same], ?_⟩
  · simp only [execOp, ho]
    refine run_val ?_
    simp [Instr.makeMap]
  · simp only [St.new, get_put_upd]
    exact this
where f_ {ρ : Ren} (hf : Fresh ρ st.next (st.new (.map [] 0)).next) : ρ st.next = none := hf _ (Nat.le_refl _) (by simp [St.new])
theorem op_mapEntry {t : TypeId} {m k : Operand} (ho : o.op = .mapEntry t m k) {u w : V} (hm : g m = some u) (hk : g k = some w) (h : mapEntryV P st t u w = some (v, st')) : OpOK P g st st' v o ∧ Low st st' := by
  unfold mapEntryV at h
  split at h
  · rename_i b kv hkv
    split at h
    · rename_i kt el es clock hu hb
      split at h
      · rename_i i vv hc hf
        split at h
        · rename_i e he
          split at h
          · rename_i key hkey
            simp only [Option.some.injEq, Prod.mk.injEq] at h
            obtain ⟨rfl, rfl⟩ := h
            refine ⟨.of_run fun ρ A W ht hg hfr => ?_, Low.wr _ _ _ hb⟩
            have t1 := tells_mem ht (by simp [ho, Op.operands]) hm
            have t2 := tells_mem ht (by simp [ho, Op.operands]) hk
            rw [V.val_real hkv ρ] at t2
            simp only [Option.some.injEq] at t2
            obtain ⟨r, κ, hr, h1, _⟩ := hg.map hb
            simp only [V.real, C.real, hr, Option.map_some, Option.some.injEq] at t1
            obtain ⟨r', κ', W', hr', s1, s2, s3⟩ := hg.setMap hb (es.modify i fun e => { e with key }) clock st.next
            rw [hr] at hr'
            cases hr'
            refine ⟨ρ, W', _, ?_, rfl, by simp only [St.wr, get_put_upd]; exact s2, by simp only [St.wr, get_put_upd]; exact s3⟩
            simp only [execOp, ho, ← t1, ← t2]
            refine run_val ?_
            have he' : es.toArray[i]? = some e := by simpa using he
            simp only [Instr.mapEntry, Sem.run_bind, run_under hu, Result.andThen_ok, h1, pureRun_run hc, pureRun_run hf, he', Option.map_some, Option.getD_some, pureRun_run hkey, List.modify_toArray, s1, Sem.run_pure]
          · cases h
        · cases h
      · rename_i hc hf
        split at h
        · rename_i i hi
          split at h
          · rename_i z hz
            simp only [Option.some.injEq, Prod.mk.injEq] at h
            obtain ⟨rfl, rfl⟩ := h
            refine ⟨.of_run fun ρ A W ht hg hfr => ?_, Low.wr _ _ _ hb⟩
            have t1 := tells_mem ht (by simp [ho, Op.operands]) hm
            have t2 := tells_mem ht (by simp [ho, Op.operands]) hk
            rw [V.val_real hkv ρ] at t2
            simp only [Option.some.injEq] at t2
            obtain ⟨r, κ, hr, h1, _⟩ := hg.map hb
            simp only [V.real, C.real, hr, Option.map_some, Option.some.injEq] at t1
            obtain ⟨r', κ', W', hr', s1, s2, s3⟩ := hg.setMap hb (es ++ [{ key := kv, val := z, born := clock }]) (clock + 1) st.next
            rw [hr] at hr'
            cases hr'
            refine ⟨ρ, W', _, ?_, rfl, by simp only [St.wr, get_put_upd]; exact s2, by simp only [St.wr, get_put_upd]; exact s3⟩
            simp only [execOp, ho, ← t1, ← t2]
            refine run_val ?_
            have hzv : (zeroValue el).run P W = .ok z W := by simp [zeroValue, typeInfo, hi, hz]
            simp only [Instr.mapEntry, Sem.run_bind, run_under hu, Result.andThen_ok, h1, pureRun_run hc, pureRun_run hf, hzv, List.push_toArray, s1, Sem.run_pure]
          · cases h
        · cases h
      · cases h
    · cases h
  · cases h
theorem op_entryStore {t : TypeId} {m s x : Operand} (ho : o.op = .entryStore t m s x) {u us w : V} (hm : g m = some u) (hs : g s = some us) (hx : g x = some w) (h : entryStoreV st u us w = some st') : OpOK P g st st' (.tup []) o ∧ Low st st' := by
  unfold entryStoreV at h
  split at h
  · rename_i b k n vv hsv hxv
    split at h
    · rename_i es clock hb
      split at h
      · rename_i i hi
        simp only [Option.some.injEq] at h
        subst h
        refine ⟨.of_skip fun ρ A W ht hg hfr => ?_, Low.wr _ _ _ hb⟩
        have t1 := tells_mem ht (by simp [ho, Op.operands]) hm
        have t2 := tells_mem ht (by simp [ho, Op.operands]) hs
        have t3 := tells_mem ht (by simp [ho, Op.operands]) hx
        rw [V.val_real hsv ρ] at t2
        rw [V.val_real hxv ρ] at t3
        simp only [Option.some.injEq] at t2 t3
        obtain ⟨r, κ, hr, h1, _⟩ := hg.map hb
        simp only [V.real, C.real, hr, Option.map_some, Option.some.injEq] at t1
        obtain ⟨r', κ', W', hr', s1, s2, s3⟩ := hg.setMap hb (es.modify i fun e => { e with val := vv }) clock st.next
        rw [hr] at hr'
        cases hr'
        refine ⟨ρ, W', ?_, by simp only [St.wr, get_put_upd]; exact s2, by simp only [St.wr, get_put_upd]; exact s3⟩
        simp only [execOp, ho, ← t1, ← t2, ← t3]
        refine run_unit ?_
        simp only [Instr.entryStore, Sem.run_bind, h1, Result.andThen_ok, asInt, asIntOf, Sem.run_pure, List.findIdx?_toArray, hi, List.modify_toArray, s1]
      · cases h
    · cases h
  · cases h
theorem op_lookup {t : TypeId} {m k : Operand} {ok : Bool} (ho : o.op = .lookup t m k ok) {u w : V} (hm : g m = some u) (hk : g k = some w) (h : withSt st (lookupV P st t u w ok) = some (v, st')) : OpOK P g st st' v o ∧ Low st st' := by
  obtain ⟨h', he'⟩ := withSt_spec h
  clear h
  subst he'
  unfold lookupV at h'
  split at h'
  · rename_i b kv hkv
    split at h'
    · rename_i kt el es clock hu hb
      split at h'
      · rename_i i vv hc hf
        simp only [Option.some.injEq] at h'
        subst h'
        refine ⟨.still fun ρ A W ht hg => ?_, Low.refl _⟩
        have t1 := tells_mem ht (by simp [ho, Op.operands]) hm
        have t2 := tells_mem ht (by simp [ho, Op.operands]) hk
        rw [V.val_real hkv ρ] at t2
        simp only [Option.some.injEq] at t2
        obtain ⟨r, κ, hr, h1, _⟩ := hg.map hb
        simp only [V.real, C.real, hr, Option.map_some, Option.some.injEq] at t1
        refine ⟨_, ?_, V.of_real _ ρ⟩
        simp only [execOp, ho, ← t1, ← t2]
        refine run_val ?_
        simp only [Instr.lookup, Sem.run_bind, run_under hu, Result.andThen_ok, h1, Sem.run_pure, pureRun_run hc, pureRun_run hf]
        cases ok <;> rfl
      · rename_i hc hf
        split at h'
        · rename_i i hi
          split at h'
          · rename_i z hz
            simp only [Option.some.injEq] at h'
            subst h'
            refine ⟨.still fun ρ A W ht hg => ?_, Low.refl _⟩
            have t1 := tells_mem ht (by simp [ho, Op.operands]) hm
            have t2 := tells_mem ht (by simp [ho, Op.operands]) hk
            rw [V.val_real hkv ρ] at t2
            simp only [Option.some.injEq] at t2
            obtain ⟨r, κ, hr, h1, _⟩ := hg.map hb
            simp only [V.real, C.real, hr, Option.map_some, Option.some.injEq] at t1
            refine ⟨_, ?_, V.of_real _ ρ⟩
            simp only [execOp, ho, ← t1, ← t2]
            refine run_val ?_
            have hzv : (zeroValue el).run P W = .ok z W := by simp [zeroValue, typeInfo, hi, hz]
            simp only [Instr.lookup, Sem.run_bind, run_under hu, Result.andThen_ok, h1, Sem.run_pure, pureRun_run hc, pureRun_run hf, hzv]
            cases ok <;> rfl
          · cases h'
        · cases h'
      · cases h'
    · cases h'
  · cases h'
theorem op_mapUpdate {t : TypeId} {m k x : Operand} (ho : o.op = .mapUpdate t m k x) {u w y : V} (hm : g m = some u) (hk : g k = some w) (hx : g x = some y) (h : mapUpdateV P st t u w y = some st') : OpOK P g st st' (.tup []) o ∧ Low st st' := by
  unfold mapUpdateV at h
  split at h
  · rename_i b kv vv hkv hxv
    split at h
    · rename_i kt el es clock hu hb
      split at h
      · rename_i i ww hc hf
        split at h
        · rename_i e he
          split at h
          · rename_i key hkey
            simp only [Option.some.injEq] at h
            subst h
            refine ⟨.of_skip fun ρ A W ht hg hfr => ?_, Low.wr _ _ _ hb⟩
            have t1 := tells_mem ht (by simp [ho, Op.operands]) hm
            have t2 := tells_mem ht (by simp [ho, Op.operands]) hk
            have t3 := tells_mem ht (by simp [ho, Op.operands]) hx
            rw [V.val_real hkv ρ] at t2
            rw [V.val_real hxv ρ] at t3
            simp only [Option.some.injEq] at t2 t3
            obtain ⟨r, κ, hr, h1, _⟩ := hg.map hb
            simp only [V.real, C.real, hr, Option.map_some, Option.some.injEq] at t1
            obtain ⟨r', κ', W', hr', s1, s2, s3⟩ := hg.setMap hb (es.modify i fun e => { e with key, val := vv }) clock st.next
            rw [hr] at hr'
            cases hr'
            refine ⟨ρ, W', ?_, by simp only [St.wr, get_put_upd]; exact s2, by simp only [St.wr, get_put_upd]; exact s3⟩
            simp only [execOp, ho, ← t1, ← t2, ← t3]
            refine run_unit ?_
            have he' : es.toArray[i]? = some e := by simpa using he
            simp only [Instr.mapUpdate, Sem.run_bind, run_under hu, Result.andThen_ok, h1, pureRun_run hc, pureRun_run hf, he', Option.map_some, Option.getD_some, pureRun_run hkey, List.modify_toArray, s1]
          · cases h
        · cases h
      · rename_i hc hf
        simp only [Option.some.injEq] at h
        subst h
        refine ⟨.of_skip fun ρ A W ht hg hfr => ?_, Low.wr _ _ _ hb⟩
        have t1 := tells_mem ht (by simp [ho, Op.operands]) hm
        have t2 := tells_mem ht (by simp [ho, Op.operands]) hk
        have t3 := tells_mem ht (by simp [ho, Op.operands]) hx
        rw [V.val_real hkv ρ] at t2
        rw [V.val_real hxv ρ] at t3
        simp only [Option.some.injEq] at t2 t3
        obtain ⟨r, κ, hr, h1, _⟩ := hg.map hb
        simp only [V.real, C.real, hr, Option.map_some, Option.some.injEq] at t1
        obtain ⟨r', κ', W', hr', s1, s2, s3⟩ := hg.setMap hb (es ++ [{ key := kv, val := vv, born := clock }]) (clock + 1) st.next
        rw [hr] at hr'
        cases hr'
        refine ⟨ρ, W', ?_, by simp only [St.wr, get_put_upd]; exact s2, by simp only [St.wr, get_put_upd]; exact s3⟩
        simp only [execOp, ho, ← t1, ← t2, ← t3]
        refine run_unit ?_
        simp only [Instr.mapUpdate, Sem.run_bind, run_under hu, Result.andThen_ok, h1, pureRun_run hc, pureRun_run hf, List.push_toArray, s1]
      · cases h
    · cases h
  · cases h
end
theorem evalOp_ok {P : Program} {call : Caller} (hc : CallOK P call) {g : Env} {st st' : St} {o : Oper} {v : V} (h : evalOp P call g st o = some (v, st')) (hd : DomLt st.heap st.next) : OpOK P g st st' v o ∧ Low st st' := by
  rw [evalOp_eq] at h
  unfold evalOpS opS at h
  split at h
  · exact op_move (.inl ‹_›) h
  · exact op_move (.inr ‹_›) h
  · unfold oPick at h
    split at h
    · exact op_pick ‹_› ‹_› h
    · cases h
  · unfold oAlloc at h
    split at h
    · cases h
    · split at h
      · cases h
      · simp only [Option.some.injEq, Prod.mk.injEq] at h
        obtain ⟨rfl, rfl⟩ := h
        exact op_alloc ‹_› ‹_› ‹_›
  · unfold oBox at h
    split at h
    · cases h
    · split at h
      · cases h
      · split at h
        · cases h
        · simp only [Option.some.injEq, Prod.mk.injEq] at h
          obtain ⟨rfl, rfl⟩ := h
          exact op_box ‹_› ‹_› ‹_› ‹_›
  · unfold oBuild at h
    split at h
    · cases h
    · simp only [Option.some.injEq, Prod.mk.injEq] at h
      obtain ⟨rfl, rfl⟩ := h
      exact op_build ‹_› ‹_›
  · unfold oBuildSlice at h
    split at h
    · cases h
    · split at h
      · cases h
      · split at h
        · cases h
        · obtain ⟨hcc, h⟩ := bif_some h
          split at h
          · cases h
          · split at h
            · cases h
            · simp only [Option.some.injEq, Prod.mk.injEq] at h
              obtain ⟨rfl, rfl⟩ := h
              exact op_buildSlice ‹_› ‹_› ‹_› ‹_› hcc ‹_› ‹_›
  · unfold oLoad at h
    split at h
    · exact op_load ‹_› ‹_› h
    · cases h
  · unfold oStore at h
    split at h
    · split at h
      · simp only [Option.some.injEq, Prod.mk.injEq] at h
        obtain ⟨rfl, rfl⟩ := h
        exact op_store ‹_› ‹_› ‹_› ‹_›
      · cases h
    · cases h
  · unfold oNil at h
    split at h
    · simp only [Option.some.injEq, Prod.mk.injEq] at h
      obtain ⟨rfl, rfl⟩ := h
      exact op_nil ‹_› ‹_›
    · exact op_closed h
  · unfold oFunc at h
    split at h
    · obtain ⟨hcc, h⟩ := bif_some h
      split at h
      · cases h
      · split at h
        · cases h
        · simp only [Option.some.injEq, Prod.mk.injEq] at h
          obtain ⟨rfl, rfl⟩ := h
          exact op_makeFunc ‹_› hcc ‹_› ‹_›
    · cases h
  · unfold oMakeSlice at h
    split at h
    · split at h
      · split at h
        · obtain ⟨hcc, h⟩ := bif_some h
          split at h
          · cases h
          · simp only [Option.some.injEq, Prod.mk.injEq] at h
            obtain ⟨rfl, rfl⟩ := h
            exact op_makeSlice ‹_› ‹_› ‹_› ‹_› ‹_› ‹_› hcc ‹_›
        · cases h
      · cases h
    · cases h
  · unfold oSlice at h
    split at h
    · cases h
    · exact op_slice ‹_› ‹_› h
  · unfold oBin at h
    split at h
    · exact op_bin ‹_› ‹_› ‹_› h
    · cases h
  · simp only [Option.some.injEq, Prod.mk.injEq] at h
    obtain ⟨rfl, rfl⟩ := h
    exact op_makeMap ‹_›
  · unfold oMapEntry at h
    split at h
    · exact op_mapEntry ‹_› ‹_› ‹_› h
    · cases h
  · unfold oEntryStore at h
    split at h
    · split at h
      · simp only [Option.some.injEq, Prod.mk.injEq] at h
        obtain ⟨rfl, rfl⟩ := h
        exact op_entryStore ‹_› ‹_› ‹_› ‹_› ‹_›
      · cases h
    · cases h
  · unfold oLookup at h
    split at h
    · exact op_lookup ‹_› ‹_› ‹_› h
    · cases h
  · unfold oMapUpdate at h
    split at h
    · split at h
      · simp only [Option.some.injEq, Prod.mk.injEq] at h
        obtain ⟨rfl, rfl⟩ := h
        exact op_mapUpdate ‹_› ‹_› ‹_› ‹_› ‹_›
      · cases h
    · cases h
  · unfold oFieldAddr at h
    split at h
    · cases h
    · exact op_fieldAddr ‹_› ‹_› h
  · unfold oField at h
    split at h
    · cases h
    · exact op_field ‹_› ‹_› h
  · unfold oIndexAddr at h
    split at h
    · exact op_indexAddr ‹_› ‹_› ‹_› h
    · cases h
  · unfold oIndex at h
    split at h
    · exact op_index ‹_› ‹_› ‹_› h
    · cases h
  · unfold oExtract at h
    split at h
    · exact op_extract ‹_› ‹_› h
    · exact op_closed h
  · unfold oConvert at h
    split at h
    · cases h
    · split at h
      · simp only [Option.some.injEq, Prod.mk.injEq] at h
        obtain ⟨rfl, rfl⟩ := h
        exact op_convF ‹_› ‹_› ‹_›
      · split at h
        · simp only [Option.some.injEq] at h
          subst h
          exact op_bytes ‹_› ‹_› ‹_›
        · exact op_convert ‹_› ‹_› h
  · unfold oCall at h
    split at h
    · unfold oCallV at h
      split at h
      · exact op_call hc hd ‹_› ‹_› ‹_› h
      · cases h
    · unfold oLen at h
      split at h
      · split at h
        · exact op_len ‹_› ‹_› ‹_› ‹_› h
        · cases h
      · cases h
    · unfold oAppend at h
      split at h
      · split at h
        · exact op_append ‹_› ‹_› ‹_› ‹_› ‹_› h
        · cases h
      · cases h
    · unfold oCopy at h
      split at h
      · split at h
        · exact op_copy ‹_› ‹_› ‹_› ‹_› ‹_› h
        · cases h
      · cases h
    · exact op_closed h
  · exact op_closed h
  · cases h
end Go.Proofs.Ythablamjbikllaa.Run
