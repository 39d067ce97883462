/- A machine for closed calls: the machine (what it answers is computed; that Go answers the same is shown in the texts behind). -/
import Derived.Test.YthablamjbikllaaRunB
set_option linter.unusedVariables false
namespace Go.Proofs.Ythablamjbikllaa.Run
open Go.RowKit

structure St where
  heap : T Blk
  next : Nat
  low : Nat
noncomputable def St.new (s : St) (blk : Blk) : St := ⟨s.heap.put s.next blk, s.next + 1, s.low⟩
noncomputable def St.wr (s : St) (b : Nat) (blk : Blk) : St := ⟨s.heap.put b blk, s.next, bif Nat.ble s.low b then s.low else b⟩

/-- What a computation answers that neither reads nor writes. -/
noncomputable def pureRun {α : Type} (P : Program) : Sem α → Option α
  | .pure a => some a
  | .program k => pureRun P (k P)
  | _ => none
theorem pureRun_run {α : Type} {P : Program} : ∀ {s : Sem α} {a : α}, pureRun P s = some a → ∀ W, s.run P W = .ok a W
  | .pure a, b, h, W => by simp only [pureRun, Option.some.injEq] at h; subst h; rfl
  | .program k, b, h, W => by simp only [pureRun] at h; simp only [Sem.run]; exact pureRun_run h W

/-! ### values without addresses -/
noncomputable def C.val : C → Option Value
  | .sc v => some v
  | _ => none
noncomputable def C.vals : List C → Option (List Value)
  | [] => some []
  | x :: l => match x.val with
    | none => none
    | some v => match C.vals l with
      | none => none
      | some vs => some (v :: vs)
noncomputable def V.val : V → Option Value
  | .c x => x.val
  | .agg l => match C.vals l with
    | none => none
    | some vs => some (.agg vs.toArray)
  | .tup _ => none
theorem C.val_real {x : C} {v : Value} (h : x.val = some v) (ρ : Ren) : x.real ρ = some v := by
  cases x <;> first | (cases h; done) | (simp only [C.val, Option.some.injEq] at h; subst h; rfl)
theorem C.vals_real : ∀ {l : List C} {vs : List Value}, C.vals l = some vs → ∀ ρ, C.reals ρ l = some vs
  | [], vs, h, ρ => by simp only [C.vals, Option.some.injEq] at h; subst h; rfl
  | x :: l, vs, h, ρ => by
    simp only [C.vals] at h
    split at h
    · cases h
    · rename_i v hv
      split at h
      · cases h
      · rename_i ws hw
        simp only [Option.some.injEq] at h
        subst h
        simp only [C.reals, C.val_real hv ρ, C.vals_real hw ρ, Option.bind_some, Option.map_some]
theorem V.val_real {x : V} {v : Value} (h : x.val = some v) (ρ : Ren) : x.real ρ = some v := by
  cases x with
  | c x => exact C.val_real h ρ
  | agg l =>
    simp only [V.val] at h
    split at h
    · cases h
    · rename_i vs hv
      simp only [Option.some.injEq] at h
      subst h
      simp only [V.real, C.vals_real hv ρ, Option.map_some]
  | tup l => cases h
noncomputable def V.of : Value → V
  | .agg cs => .agg (cs.toList.map .sc)
  | v => .c (.sc v)
theorem V.of_real (v : Value) (ρ : Ren) : (V.of v).real ρ = some v := by
  cases v <;> first | rfl | simp [V.of, V.real, C.reals_sc]
noncomputable def force {β : Type} (v : V) (K : V → β) : β := K v
theorem force_eq {β : Type} (v : V) (K : V → β) : force v K = K v := rfl

/-! ### single steps -/
abbrev Env := Operand → Option V
noncomputable def ev (a : T V) : Env
  | .tmp t => a.get t
  | .const v => some (V.of v)
  | .global _ => none
  | .func f => some (.c (.fn f []))
noncomputable def nat? (g : Env) (x : Operand) : Option Nat := match g x with
  | some (.c (.sc (.int _ (.ofNat n)))) => some n
  | _ => none
/-- Values in a row, told at once. -/
noncomputable def evs (g : Env) : List Operand → Option (List V)
  | [] => some []
  | x :: l => match g x with
    | none => none
    | some v => match evs g l with
      | none => none
      | some vs => some (v :: vs)
noncomputable def cellsOf : List V → Option (List C)
  | [] => some []
  | .c x :: l => match cellsOf l with
    | none => none
    | some m => some (x :: m)
  | _ => none
noncomputable def aggB : TypeDesc → Bool
  | .struct _ | .array _ _ => true
  | _ => false
noncomputable def sizeP (P : Program) (t : TypeId) : Option Nat := match P.info? t with
  | some i => some i.size
  | none => none
noncomputable def zeroV (P : Program) (t : TypeId) : Option (List Value) := match P.info? t with
  | some i => match i.zero with
    | some v => some v.cells.toList
    | none => none
  | none => none
noncomputable def valsOk : List Value → Bool
  | [] => true
  | v :: l => v.oneCell' && valsOk l
noncomputable def newBlk (st : St) (elem : TypeId) (l : List C) : Option St :=
  bif l.all C.flat then some (st.new (.cells elem l.length false (T.lay l 0 .leaf))) else none
noncomputable def readC (h : T Blk) (b off m : Nat) : Option (List C) := match h.get b with
  | some (.cells _ n _ cs) => bif Nat.ble (off + m) n then T.row cs off m else none
  | _ => none
noncomputable def loadV (P : Program) (t : TypeId) (h : T Blk) (b off : Nat) : Option V := match P.underlying t with
  | none => none
  | some d => bif aggB d then (match sizeP P t with
      | none => none
      | some m => match readC h b off m with
        | none => none
        | some l => some (.agg l))
    else match readC h b off 1 with
      | some [x] => some (.c x)
      | _ => none
noncomputable def writeC (st : St) (b off : Nat) (l : List C) : Option St := match st.heap.get b with
  | some (.cells elem n g cs) => bif Nat.ble (off + l.length) n && l.all C.flat then some (st.wr b (.cells elem n g (T.lay l off cs))) else none
  | _ => none
noncomputable def storeV (P : Program) (t : TypeId) (st : St) (b off : Nat) (v : V) : Option St := match v.cells with
  | none => none
  | some l => match sizeP P t with
    | none => none
    | some m => bif Nat.beq l.length m then writeC st b off l else none
/-- Parts, laid into a row of cells. -/
noncomputable def splice (cells : List C) (off : Nat) (l : List C) : List C := cells.take off ++ (l ++ cells.drop (off + l.length))
noncomputable def fillC (place : Nat → Option (Nat × Nat)) (cells : List C) : List (Nat × List C) → Option (List C)
  | [] => some cells
  | (i, l) :: rest => match place i with
    | none => none
    | some (off, size) => bif Nat.beq l.length size && Nat.ble (off + l.length) cells.length then fillC place (splice cells off l) rest else none
noncomputable def partsOf (g : Env) : List (Nat × Operand) → Option (List (Nat × List C))
  | [] => some []
  | (i, x) :: l => match g x with
    | none => none
    | some v => match v.cells with
      | none => none
      | some cs => bif cs.all C.flat then (match partsOf g l with
        | none => none
        | some r => some ((i, cs) :: r)) else none
noncomputable def placesOf (P : Program) : List Field → Option (List (Nat × Nat))
  | [] => some []
  | f :: l => match sizeP P f.type with
    | none => none
    | some m => match placesOf P l with
      | none => none
      | some r => some ((f.offset, m) :: r)
noncomputable def scs (l : List Value) : List C := l.map .sc
/-- n copies of a row. -/
noncomputable def zerosV (zero : List Value) : Nat → List Value
  | 0 => []
  | n + 1 => zero ++ zerosV zero n
noncomputable def buildV (P : Program) (g : Env) (t : TypeId) (parts : Array (Nat × Operand)) : Option (List C) := match zeroV P t with
  | none => none
  | some z => match partsOf g parts.toList with
    | none => none
    | some ps => match P.underlying t with
      | some (.struct fields) => match placesOf P fields.toList with
        | none => none
        | some pl => fillC (fun i => pl[i]?) (scs z) ps
      | some (.array _ elem) => match sizeP P elem with
        | none => none
        | some size => fillC (fun i => some (i * size, size)) (scs z) ps
      | _ => none
/-- Where a part of a value stands in its cells. -/
noncomputable def partV (P : Program) (t : TypeId) (l : List C) (off : Nat) : Option V := match P.underlying t with
  | none => none
  | some d => bif aggB d then (match sizeP P t with
      | none => none
      | some m => some (.agg ((l.drop off).take m)))
    else match l[off]? with
      | some x => some (.c x)
      | none => none
noncomputable def natO (g : Env) (d : Nat) : Option Operand → Option Nat
  | none => some d
  | some x => nat? g x
noncomputable def capOk (P : Program) (h : T Blk) (b lo len : Nat) : Bool := match h.get b with
  | some (.cells elem n true _) => match sizeP P elem with
    | some s => Nat.ble 1 s && Nat.ble ((lo + len) * s) n
    | none => false
  | _ => false
noncomputable def elemOf? (P : Program) (t : TypeId) : Option (TypeId × Nat) := match P.underlying t with
  | some (.slice e) => match sizeP P e with
    | some s => some (e, s)
    | none => none
  | _ => none
noncomputable def sliceV (P : Program) (g : Env) (h : T Blk) (t : TypeId) (x : V) (lo hi mx : Option Operand) : Option V :=
  match natO g 0 lo with
  | none => none
  | some l => match P.underlying t, x with
    | some (.slice e), .c (.slc b off len cap) => match sizeP P e, natO g cap mx, natO g len hi with
      | some s, some m, some u => bif Nat.ble m cap && (Nat.ble u m && Nat.ble l u) && (mx.isNone || hi.isSome) then some (.c (.slc b (bif Nat.beq m l then off else off + l * s) (u - l) (m - l))) else none
      | _, _, _ => none
    | some (.slice e), .c (.slu b off lo' len) => match sizeP P e, mx, natO g len hi with
      | some s, none, some u => bif Nat.ble u len && Nat.ble l u && capOk P h b lo' len then (bif Nat.blt l len || Nat.beq l 0 then some (.c (.slu b (off + l * s) (lo' + l) (u - l))) else some (.c (.sle b off lo' l s))) else none
      | some s, some mo, some u => match nat? g mo with
        | some m => bif Nat.ble m len && (Nat.ble u m && Nat.ble l u) && hi.isSome && capOk P h b lo' len then some (.c (.slc b (bif Nat.beq m l then off else off + l * s) (u - l) (m - l))) else none
        | none => none
      | _, _, _ => none
    | some (.array n e), .c (.ptr b off) => match sizeP P e, natO g n mx, natO g n hi with
      | some s, some m, some u => bif Nat.ble m n && (Nat.ble u m && Nat.ble l u) && (mx.isNone || hi.isSome) then some (.c (.slc b (bif Nat.beq m l then off else off + l * s) (u - l) (m - l))) else none
      | _, _, _ => none
    | _, _ => none
noncomputable def indexAddrV (P : Program) (t : TypeId) (x : V) (i : Nat) : Option V :=
  match P.underlying t, x with
  | some (.slice e), .c (.slc b off len _) => match sizeP P e with
    | some s => bif Nat.blt i len then some (.c (.ptr b (off + i * s))) else none
    | none => none
  | some (.slice e), .c (.slu b off _ len) => match sizeP P e with
    | some s => bif Nat.blt i len then some (.c (.ptr b (off + i * s))) else none
    | none => none
  | some (.array n e), .c (.ptr b off) => match sizeP P e with
    | some s => bif Nat.blt i n then some (.c (.ptr b (off + i * s))) else none
    | none => none
  | _, _ => none
noncomputable def fieldAddrV (P : Program) (s : TypeId) (x : V) (f : Nat) : Option V :=
  match P.underlying s, x with
  | some (.struct fs), .c (.ptr b off) => match fs[f]? with
    | some fl => match sizeP P fl.type with
      | some m => bif Nat.blt 0 m then some (.c (.ptr b (off + fl.offset))) else none
      | none => none
    | none => none
  | _, _ => none
noncomputable def fieldV (P : Program) (s : TypeId) (x : V) (f : Nat) : Option V :=
  match P.underlying s, x with
  | some (.struct fs), .agg l => match fs[f]? with
    | some fl => partV P fl.type l fl.offset
    | none => none
  | _, _ => none
noncomputable def indexV (P : Program) (s : TypeId) (x : V) (i : Nat) : Option V :=
  match P.underlying s, x with
  | some (.array n e), .agg l => match sizeP P e with
    | some m => bif Nat.blt i n then partV P e l (i * m) else none
    | none => none
  | _, _ => none
noncomputable def intV (n : Nat) : V := .c (.sc (.int .i64 n))
noncomputable def lenV (P : Program) (t : TypeId) (x : V) (h : T Blk) : Option V :=
  match P.underlying t, x with
  | some (.slice _), .c (.slc _ _ len _) => some (intV len)
  | some (.slice _), .c (.slu _ _ _ len) => some (intV len)
  | some (.slice _), .c (.sle _ _ _ _ _) => some (intV 0)
  | some (.map _ _), .c (.mp b) => match h.get b with
    | some (.map es _) => some (intV es.length)
    | _ => none
  | _, _ => none
/-- Cells of a slice, or of a string. -/
noncomputable def lenC : V → Option Nat
  | .c (.slc _ _ len _) => some len
  | .c (.slu _ _ _ len) => some len
  | .c (.sle _ _ _ _ _) => some 0
  | .c (.sc (.slice none n _)) => bif Nat.beq n 0 then some 0 else none
  | .c (.sc (.string s)) => some s.size
  | _ => none
noncomputable def strC (s : ByteArray) (n : Nat) : List C := (s.data.toList.take n).map fun b => .sc (.int .u8 b.toNat)
noncomputable def firstC (h : T Blk) (size n : Nat) : V → Option (List C)
  | .c (.slc b off len _) => bif Nat.ble n len then readC h b off (n * size) else none
  | .c (.slu b off _ len) => bif Nat.ble n len then readC h b off (n * size) else none
  | .c (.sle _ _ _ _ _) => bif Nat.beq n 0 then some [] else none
  | .c (.sc (.slice none _ _)) => bif Nat.beq n 0 then some [] else none
  | .c (.sc (.string s)) => bif Nat.ble n s.size && Nat.beq size 1 then some (strC s n) else none
  | _ => none
noncomputable def isList : TypeDesc → Bool
  | .slice _ => true
  | .string => true
  | _ => false
/-- A longer row on a block of its own, of which it isn't known how much it bears. -/
noncomputable def growTo (P : Program) (st : St) (elem size need : Nat) (cells : List C) : Option (V × St) := match P.info? elem with
  | some i => match i.zero with
    | some z => bif Nat.beq i.size size && Nat.beq cells.length (need * size) && Nat.ble ((4 * need + 4096) * i.bytes) 281474976710656 && Nat.ble need 4611686018427387904 && cells.all C.flat && valsOk z.cells.toList && Nat.beq z.cells.size size then
        some (.c (.slu st.next 0 0 need), st.new (.cells elem (need * size) true (T.lay cells 0 .leaf))) else none
    | none => none
  | none => none
noncomputable def appendV (P : Program) (st : St) (sT xT : TypeId) (s x : V) : Option (V × St) :=
  match elemOf? P sT, P.underlying xT, lenC x with
  | some (elem, size), some d, some n => bif !isList d then none else match firstC st.heap size n x with
    | none => none
    | some new => match s with
      | .c (.sc (.slice none z w)) => bif Nat.beq z 0 && Nat.beq w 0 then (bif Nat.beq n 0 then some (s, st) else growTo P st elem size n new) else none
      | .c (.slc b off len cap) => bif Nat.ble (len + n) cap then (bif Nat.beq new.length 0 then some (.c (.slc b off (len + n) cap), st) else match writeC st b (off + len * size) new with
          | none => none
          | some st' => some (.c (.slc b off (len + n) cap), st'))
        else match readC st.heap b off (len * size) with
          | none => none
          | some old => bif Nat.ble cap 4611686018427387904 then growTo P st elem size (len + n) (old ++ new) else none
      | .c (.slu b off lo len) => bif Nat.beq n 0 && capOk P st.heap b lo len then some (s, st)
        else bif Nat.beq off 0 && Nat.beq lo 0 then match st.heap.get b with
          | some (.cells e k true cs) => bif Nat.beq e elem && Nat.beq k (len * size) && Nat.ble 1 size then match T.row cs 0 k with
            | none => none
            | some old => growTo P ⟨st.heap.del b, st.next, bif Nat.ble st.low b then st.low else b⟩ elem size (len + n) (old ++ new)
            else none
          | _ => none
        else none
      | _ => none
  | _, _, _ => none
noncomputable def copyV (P : Program) (st : St) (dT : TypeId) (d s : V) : Option (V × St) :=
  match elemOf? P dT, lenC s with
  | some (elem, size), some m => match d with
    | .c (.slc b off len _) => match firstC st.heap size (min m len) s with
      | none => none
      | some l => match writeC st b off l with
        | none => none
        | some st' => some (intV (min m len), st')
    | .c (.slu b off _ len) => match firstC st.heap size (min m len) s with
      | none => none
      | some l => match writeC st b off l with
        | none => none
        | some st' => some (intV (min m len), st')
    | _ => none
  | _, _ => none
noncomputable def bytesC : List C → Option (List UInt8)
  | [] => some []
  | .sc (.int .u8 n) :: l => match bytesC l with
    | none => none
    | some r => some (UInt8.ofNat n.toNat :: r)
  | _ => none
noncomputable def strV (P : Program) (h : T Blk) (src dst : TypeId) (x : V) : Option V :=
  match P.underlying src, P.underlying dst with
  | some (.slice e), some .string => match P.underlying e with
    | some (.int .u8) => match lenC x, x with
      | some n, .c (.slc b off _ _) => match readC h b off n with
        | none => none
        | some l => match bytesC l with
          | none => none
          | some r => some (.c (.sc (.string ⟨r.toArray⟩)))
      | some n, .c (.slu b off _ _) => match readC h b off n with
        | none => none
        | some l => match bytesC l with
          | none => none
          | some r => some (.c (.sc (.string ⟨r.toArray⟩)))
      | _, _ => none
    | _ => none
  | _, _ => none
noncomputable def bytesV (P : Program) (st : St) (src dst : TypeId) (x : V) : Option (V × St) :=
  match P.underlying src, P.underlying dst, x with
  | some .string, some (.slice e), .c (.sc (.string s)) => match P.underlying e, sizeP P e with
    | some (.int .u8), some 1 => some (.c (.slu st.next 0 0 s.size), st.new (.cells e s.size true (T.lay (strC s s.size) 0 .leaf)))
    | _, _ => none
  | _, _, _ => none
noncomputable def valIs (g : Env) (x : Operand) : Bool := match g x with
  | some v => v.val.isSome
  | none => false
noncomputable def valOf (g : Env) (x : Operand) : Value := match g x with
  | some v => (match v.val with
    | some w => w
    | none => undef)
  | none => undef
/-- All values without addresses, and an operation that neither reads nor writes. -/
noncomputable def closedV (P : Program) (g : Env) (o : Oper) : Option V := match o.op with
  | .select _ _ => none
  | op => bif op.operands.toList.all (valIs g) then
      (match pureRun P (execOp (valOf g) o) with
      | some (.value v) => some (V.of v)
      | _ => none)
    else none

/-- A slice of one's own, compared with nil. -/
noncomputable def nilCmp (P : Program) (op : BinOp) (t : TypeId) (x y : V) : Option V := match P.underlying t, x, y with
  | some (.slice _), .c (.slc _ _ _ _), .c (.sc (.slice none _ _)) => match op with
    | .eql => some (.c (.sc (.bool false)))
    | .neq => some (.c (.sc (.bool true)))
    | _ => none
  | some (.slice _), .c (.slu _ _ _ _), .c (.sc (.slice none _ _)) => match op with
    | .eql => some (.c (.sc (.bool false)))
    | .neq => some (.c (.sc (.bool true)))
    | _ => none
  | _, _, _ => none
/-- The entry of a key; the value of an entry that is known by its stamp. -/
noncomputable def mapEntryV (P : Program) (st : St) (t : TypeId) (m k : V) : Option (V × St) := match m, k.val with
  | .c (.mp b), some kv => match P.underlying t, st.heap.get b with
    | some (.map kt el), some (.map es clock) => match pureRun P (Instr.checkKey false 10000 kt kv), pureRun P (Instr.findKey kt kv es) with
      | some _, some (some (i, v)) => match es[i]? with
        | some e => match pureRun P (Instr.keyThatStays e.key kv) with
          | some key => some (.c (.sc (.tuple #[v, goInt e.born])), st.wr b (.map (es.modify i fun e => { e with key }) clock))
          | none => none
        | none => none
      | some _, some none => match P.info? el with
        | some i => match i.zero with
          | some z => some (.c (.sc (.tuple #[z, goInt clock])), st.wr b (.map (es ++ [{ key := kv, val := z, born := clock }]) (clock + 1)))
          | none => none
        | none => none
      | _, _ => none
    | _, _ => none
  | _, _ => none
noncomputable def lookupV (P : Program) (st : St) (t : TypeId) (m k : V) (ok : Bool) : Option V := match m, k.val with
  | .c (.mp b), some kv => match P.underlying t, st.heap.get b with
    | some (.map kt el), some (.map es _) => match pureRun P (Instr.checkKey es.toArray.isEmpty 10000 kt kv), pureRun P (Instr.findKey kt kv es) with
      | some _, some (some (_, v)) => some (V.of (bif ok then .tuple #[v, .bool true] else v))
      | some _, some none => match P.info? el with
        | some i => match i.zero with
          | some z => some (V.of (bif ok then .tuple #[z, .bool false] else z))
          | none => none
        | none => none
      | _, _ => none
    | _, _ => none
  | _, _ => none
noncomputable def mapUpdateV (P : Program) (st : St) (t : TypeId) (m k x : V) : Option St := match m, k.val, x.val with
  | .c (.mp b), some kv, some v => match P.underlying t, st.heap.get b with
    | some (.map kt _), some (.map es clock) => match pureRun P (Instr.checkKey false 10000 kt kv), pureRun P (Instr.findKey kt kv es) with
      | some _, some (some (i, _)) => match es[i]? with
        | some e => match pureRun P (Instr.keyThatStays e.key kv) with
          | some key => some (st.wr b (.map (es.modify i fun e => { e with key, val := v }) clock))
          | none => none
        | none => none
      | some _, some none => some (st.wr b (.map (es ++ [{ key := kv, val := v, born := clock }]) (clock + 1)))
      | _, _ => none
    | _, _ => none
  | _, _, _ => none
noncomputable def entryStoreV (st : St) (m s x : V) : Option St := match m, s.val, x.val with
  | .c (.mp b), some (.int _ n), some v => match st.heap.get b with
    | some (.map es clock) => match es.findIdx? (fun e => (e.born : Int) == n) with
      | some i => some (st.wr b (.map (es.modify i fun e => { e with val := v }) clock))
      | none => none
    | _ => none
  | _, _, _ => none
abbrev Caller := Nat → List V → St → Option (V × St)
noncomputable def withSt (st : St) : Option V → Option (V × St)
  | some v => some (v, st)
  | none => none
noncomputable def orV (x : Option V) (y : Option V) : Option V := match x with
  | some v => some v
  | none => y
/-! numbers -/
noncomputable def fitN (k : IntKind) (m : Nat) : Bool := match k with
  | .i64 => Nat.ble m 9223372036854775807
  | .u8 => Nat.ble m 255
  | _ => false
noncomputable def wrapF (k : IntKind) (n : Int) : Int := match n with
  | .ofNat m => bif fitN k m then .ofNat m else k.wrap (.ofNat m)
  | .negSucc m => match k with
    | .i64 => bif Nat.ble m 9223372036854775807 then .negSucc m else IntKind.wrap .i64 (.negSucc m)
    | k => k.wrap (.negSucc m)
noncomputable def ltF (a b : Int) : Bool := match a, b with
  | .ofNat m, .ofNat n => Nat.blt m n
  | .negSucc _, .ofNat _ => true
  | .ofNat _, .negSucc _ => false
  | .negSucc m, .negSucc n => Nat.blt n m
noncomputable def eqF (a b : Int) : Bool := match a, b with
  | .ofNat m, .ofNat n => Nat.beq m n
  | .negSucc m, .negSucc n => Nat.beq m n
  | _, _ => false
noncomputable def sameK (j k : IntKind) : Bool := match j, k with
  | .i64, .i64 => true
  | .u8, .u8 => true
  | _, _ => false
/-- A number in its own form. -/
noncomputable def intRes (k : IntKind) (n : Int) : Option Value := match n with
  | .ofNat m => match m with
    | 0 => some (.int k (.ofNat 0))
    | j + 1 => some (.int k (.ofNat (j + 1)))
  | .negSucc m => match m with
    | 0 => some (.int k (.negSucc 0))
    | j + 1 => some (.int k (.negSucc (j + 1)))
theorem intRes_eq (k : IntKind) (n : Int) : intRes k n = some (.int k n) := by unfold intRes; (repeat' split) <;> rfl
noncomputable def boolRes (b : Bool) : Option Value := match b with
  | true => some (.bool true)
  | false => some (.bool false)
theorem boolRes_eq (b : Bool) : boolRes b = some (.bool b) := by cases b <;> rfl
noncomputable def xorRes (k : IntKind) (a b : Int) : Option Value := match a, b with
  | .ofNat m, .ofNat n => bif fitN k m && fitN k n then intRes k (.ofNat (Nat.xor m n)) else none
  | _, _ => none
noncomputable def intBin (op : BinOp) : IntKind → Int → Int → Option Value := match op with
  | .add => fun k a b => intRes k (wrapF k (Int.add a b))
  | .sub => fun k a b => intRes k (wrapF k (Int.sub a b))
  | .mul => fun k a b => intRes k (wrapF k (Int.mul a b))
  | .eql => fun _ a b => boolRes (eqF a b)
  | .neq => fun _ a b => boolRes (!eqF a b)
  | .lss => fun _ a b => boolRes (ltF a b)
  | .gtr => fun _ a b => boolRes (ltF b a)
  | .leq => fun _ a b => boolRes (!ltF b a)
  | .geq => fun _ a b => boolRes (!ltF a b)
  | .xor => xorRes
  | _ => fun _ _ _ => none
noncomputable def vInt (v : V) : Option (IntKind × Int) := match v with
  | .c (.sc (.int k n)) => some (k, n)
  | _ => none
theorem vInt_spec {v : V} {k : IntKind} {n : Int} (h : vInt v = some (k, n)) : v = .c (.sc (.int k n)) := by
  unfold vInt at h
  split at h
  · simp only [Option.some.injEq, Prod.mk.injEq] at h
    rw [h.1, h.2]
  · cases h
noncomputable def scO (w : Option Value) : Option V := match w with
  | some w => some (.c (.sc w))
  | none => none
noncomputable def binF (op : BinOp) (u v : V) : Option V := match vInt u with
  | none => none
  | some (j, a) => match vInt v with
    | none => none
    | some (k, b) => bif sameK j k then scO (intBin op j a b) else none
noncomputable def convF (P : Program) (src dst : TypeId) (v : V) : Option V := match v with
  | .c (.sc (.int _ n)) => match P.underlying src, P.underlying dst with
    | some _, some (.int k) => scO (intRes k (wrapF k n))
    | _, _ => none
  | _ => none
/-! single operations, kind by kind -/
noncomputable def oPick (g : Env) (st : St) (c a b : Operand) : Option (V × St) := match g c with
  | some (.c (.sc (.bool t))) => withSt st (g (bif t then a else b))
  | _ => none
noncomputable def oAlloc (P : Program) (st : St) (e : TypeId) : Option (V × St) := match zeroV P e with
  | none => none
  | some z => match newBlk st e (scs z) with
    | none => none
    | some st' => some (.c (.ptr st.next 0), st')
noncomputable def oBox (g : Env) (st : St) (e : TypeId) (x : Operand) : Option (V × St) := match g x with
  | none => none
  | some v => match v.cells with
    | none => none
    | some l => match newBlk st e l with
      | none => none
      | some st' => some (.c (.ptr st.next 0), st')
noncomputable def oBuild (P : Program) (g : Env) (st : St) (t : TypeId) (parts : Array (Nat × Operand)) : Option (V × St) := match buildV P g t parts with
  | none => none
  | some l => some (.agg l, st)
noncomputable def oBuildSlice (P : Program) (g : Env) (st : St) (t : TypeId) (n : Nat) (parts : Array (Nat × Operand)) : Option (V × St) := match elemOf? P t with
  | none => none
  | some (elem, size) => match zeroV P elem with
    | none => none
    | some z => match partsOf g parts.toList with
      | none => none
      | some ps => bif Nat.ble 1 size && Nat.beq z.length size && Nat.ble (n * size) 16777216 then (match fillC (fun i => some (i * size, size)) (scs (zerosV z n)) ps with
        | none => none
        | some l => match newBlk st elem l with
          | none => none
          | some st' => some (.c (.slc st.next 0 n n), st')) else none
noncomputable def oLoad (P : Program) (g : Env) (st : St) (t : TypeId) (x : Operand) : Option (V × St) := match g x with
  | some (.c (.ptr b off)) => withSt st (loadV P t st.heap b off)
  | _ => none
noncomputable def oStore (P : Program) (g : Env) (st : St) (t : TypeId) (x y : Operand) : Option (V × St) := match g x, g y with
  | some (.c (.ptr b off)), some v => match storeV P t st b off v with
    | some st' => some (.tup [], st')
    | none => none
  | _, _ => none
noncomputable def oNil (P : Program) (g : Env) (st : St) (o : Oper) (x : Operand) : Option (V × St) := match g x with
  | some (.c (.ptr b off)) => some (.c (.ptr b off), st)
  | _ => withSt st (closedV P g o)
noncomputable def oFunc (g : Env) (st : St) (fn : Fn) (first caps : Array Operand) : Option (V × St) := match fn with
  | .func f => bif first.isEmpty then (match evs g caps.toList with
    | none => none
    | some vs => match cellsOf vs with
      | none => none
      | some cs => some (.c (.fn f cs), st)) else none
  | _ => none
noncomputable def oMakeSlice (P : Program) (g : Env) (st : St) (t : TypeId) (l c : Operand) : Option (V × St) := match elemOf? P t, nat? g l, nat? g c with
  | some (elem, size), some l', some c' => match P.info? elem with
    | some i => match zeroV P elem with
      | some z => bif Nat.ble 1 size && Nat.ble l' c' && Nat.ble (i.bytes * c') 281474976710656 && Nat.beq z.length size && Nat.ble c' 4611686018427387904 then (match newBlk st elem (scs (zerosV z c')) with
        | none => none
        | some st' => some (.c (.slc st.next 0 l' c'), st')) else none
      | none => none
    | none => none
  | _, _, _ => none
noncomputable def oSlice (P : Program) (g : Env) (st : St) (o : Oper) (t : TypeId) (x : Operand) (lo hi mx : Option Operand) : Option (V × St) := match g x with
  | none => none
  | some v => withSt st (orV (sliceV P g st.heap t v lo hi mx) (closedV P g o))
noncomputable def oBin (P : Program) (g : Env) (st : St) (o : Oper) (op : BinOp) (t : TypeId) (x y : Operand) : Option (V × St) := match g x, g y with
  | some u, some v => withSt st (orV (binF op u v) (orV (closedV P g o) (nilCmp P op t u v)))
  | _, _ => none
noncomputable def oMapEntry (P : Program) (g : Env) (st : St) (t : TypeId) (m k : Operand) : Option (V × St) := match g m, g k with
  | some u, some v => mapEntryV P st t u v
  | _, _ => none
noncomputable def oEntryStore (g : Env) (st : St) (m s x : Operand) : Option (V × St) := match g m, g s, g x with
  | some u, some v, some w => match entryStoreV st u v w with
    | some st' => some (.tup [], st')
    | none => none
  | _, _, _ => none
noncomputable def oLookup (P : Program) (g : Env) (st : St) (t : TypeId) (m k : Operand) (ok : Bool) : Option (V × St) := match g m, g k with
  | some u, some v => withSt st (lookupV P st t u v ok)
  | _, _ => none
noncomputable def oMapUpdate (P : Program) (g : Env) (st : St) (t : TypeId) (m k x : Operand) : Option (V × St) := match g m, g k, g x with
  | some u, some v, some w => match mapUpdateV P st t u v w with
    | some st' => some (.tup [], st')
    | none => none
  | _, _, _ => none
noncomputable def oFieldAddr (P : Program) (g : Env) (st : St) (s : TypeId) (x : Operand) (f : Nat) : Option (V × St) := match g x with
  | none => none
  | some v => withSt st (fieldAddrV P s v f)
noncomputable def oField (P : Program) (g : Env) (st : St) (s : TypeId) (x : Operand) (f : Nat) : Option (V × St) := match g x with
  | none => none
  | some v => withSt st (fieldV P s v f)
noncomputable def oIndexAddr (P : Program) (g : Env) (st : St) (t : TypeId) (x ix : Operand) : Option (V × St) := match g x, nat? g ix with
  | some v, some i => withSt st (indexAddrV P t v i)
  | _, _ => none
noncomputable def oIndex (P : Program) (g : Env) (st : St) (o : Oper) (t : TypeId) (x ix : Operand) : Option (V × St) := match g x, nat? g ix with
  | some v, some i => withSt st (orV (indexV P t v i) (closedV P g o))
  | _, _ => none
noncomputable def oExtract (P : Program) (g : Env) (st : St) (o : Oper) (x : Operand) (i : Nat) : Option (V × St) := match g x with
  | some (.tup l) => withSt st l[i]?
  | _ => withSt st (closedV P g o)
noncomputable def oConvert (P : Program) (g : Env) (st : St) (o : Oper) (src dst : TypeId) (x : Operand) : Option (V × St) := match g x with
  | none => none
  | some v => match convF P src dst v with
    | some w => some (w, st)
    | none => match bytesV P st src dst v with
      | some r => some r
      | none => withSt st (orV (strV P st.heap src dst v) (closedV P g o))
noncomputable def oCallV (call : Caller) (g : Env) (st : St) (f : Operand) (args : Array Operand) : Option (V × St) := match g f, evs g args.toList with
  | some (.c (.fn k caps)), some vs => call k (vs ++ caps.map .c) st
  | _, _ => none
noncomputable def oLen (P : Program) (g : Env) (st : St) (o : Oper) (args : Array Operand) (ts : Array TypeId) : Option (V × St) := match ts[0]?, args.toList with
  | some t, [x] => match g x with
    | some v => withSt st (orV (lenV P t v st.heap) (closedV P g o))
    | none => none
  | _, _ => none
noncomputable def oAppend (P : Program) (g : Env) (st : St) (args : Array Operand) (ts : Array TypeId) : Option (V × St) := match ts.toList, args.toList with
  | [sT, xT], [s, x] => match g s, g x with
    | some vs, some vx => appendV P st sT xT vs vx
    | _, _ => none
  | _, _ => none
noncomputable def oCopy (P : Program) (g : Env) (st : St) (args : Array Operand) (ts : Array TypeId) : Option (V × St) := match ts.toList, args.toList with
  | [dT, _], [d, x] => match g d, g x with
    | some vd, some vx => copyV P st dT vd vx
    | _, _ => none
  | _, _ => none
noncomputable def oCall (P : Program) (call : Caller) (g : Env) (st : St) (o : Oper) (c : Call) : Option (V × St) := match c with
  | ⟨.value f, args, _⟩ => oCallV call g st f args
  | ⟨.builtin .len, args, ts⟩ => oLen P g st o args ts
  | ⟨.builtin .append, args, ts⟩ => oAppend P g st args ts
  | ⟨.builtin .copy, args, ts⟩ => oCopy P g st args ts
  | _ => withSt st (closedV P g o)
noncomputable def opS (q : Op) (P : Program) (call : Caller) (g : Env) (st : St) (o : Oper) : Option (V × St) :=
  match q with
  | .move x => withSt st (g x)
  | .assign x => withSt st (g x)
  | .pick c a b => oPick g st c a b
  | .alloc e => oAlloc P st e
  | .box e x => oBox g st e x
  | .build t parts => oBuild P g st t parts
  | .buildSlice t n parts => oBuildSlice P g st t n parts
  | .load t x => oLoad P g st t x
  | .store t x y => oStore P g st t x y
  | .nilCheck x => oNil P g st o x
  | .makeFunc fn first caps => oFunc g st fn first caps
  | .makeSlice t l c => oMakeSlice P g st t l c
  | .slice t x lo hi mx => oSlice P g st o t x lo hi mx
  | .binOp op t x y _ => oBin P g st o op t x y
  | .makeMap _ none => some (.c (.mp st.next), st.new (.map [] 0))
  | .mapEntry t m k => oMapEntry P g st t m k
  | .entryStore _ m s x => oEntryStore g st m s x
  | .lookup t m k ok => oLookup P g st t m k ok
  | .mapUpdate t m k x => oMapUpdate P g st t m k x
  | .fieldAddr s x f => oFieldAddr P g st s x f
  | .field s x f => oField P g st s x f
  | .indexAddr t x ix => oIndexAddr P g st t x ix
  | .index t x ix => oIndex P g st o t x ix
  | .extract x i => oExtract P g st o x i
  | .convert src dst x => oConvert P g st o src dst x
  | .call c => oCall P call g st o c
  | .unOp _ _ _ => withSt st (closedV P g o)
  | _ => none
noncomputable def evalOpS (P : Program) (call : Caller) (g : Env) (st : St) (o : Oper) : Option (V × St) := opS o.op P call g st o
noncomputable def opF (op : Op) : Program → Caller → Env → St → Oper → Option (V × St) := match op with
  | .move x => fun P call g st o => withSt st (g x)
  | .assign x => fun P call g st o => withSt st (g x)
  | .pick c a b => fun P call g st o => oPick g st c a b
  | .alloc e => fun P call g st o => oAlloc P st e
  | .box e x => fun P call g st o => oBox g st e x
  | .build t parts => fun P call g st o => oBuild P g st t parts
  | .buildSlice t n parts => fun P call g st o => oBuildSlice P g st t n parts
  | .load t x => fun P call g st o => oLoad P g st t x
  | .store t x y => fun P call g st o => oStore P g st t x y
  | .nilCheck x => fun P call g st o => oNil P g st o x
  | .makeFunc fn first caps => fun P call g st o => oFunc g st fn first caps
  | .makeSlice t l c => fun P call g st o => oMakeSlice P g st t l c
  | .slice t x lo hi mx => fun P call g st o => oSlice P g st o t x lo hi mx
  | .binOp op t x y _ => fun P call g st o => oBin P g st o op t x y
  | .makeMap _ none => fun P call g st o => some (.c (.mp st.next), st.new (.map [] 0))
  | .mapEntry t m k => fun P call g st o => oMapEntry P g st t m k
  | .entryStore _ m s x => fun P call g st o => oEntryStore g st m s x
  | .lookup t m k ok => fun P call g st o => oLookup P g st t m k ok
  | .mapUpdate t m k x => fun P call g st o => oMapUpdate P g st t m k x
  | .fieldAddr s x f => fun P call g st o => oFieldAddr P g st s x f
  | .field s x f => fun P call g st o => oField P g st s x f
  | .indexAddr t x ix => fun P call g st o => oIndexAddr P g st t x ix
  | .index t x ix => fun P call g st o => oIndex P g st o t x ix
  | .extract x i => fun P call g st o => oExtract P g st o x i
  | .convert src dst x => fun P call g st o => oConvert P g st o src dst x
  | .call c => fun P call g st o => oCall P call g st o c
  | .unOp _ _ _ => fun P call g st o => withSt st (closedV P g o)
  | _ => fun P call g st o => none
noncomputable def evalOp (P : Program) (call : Caller) (g : Env) (st : St) (o : Oper) : Option (V × St) := opF o.op P call g st o
theorem opF_eq (q : Op) (P : Program) (call : Caller) (g : Env) (st : St) (o : Oper) : opF q P call g st o = opS q P call g st o := by
  cases q with
  | makeMap t r => cases r <;> rfl
  | _ => rfl
theorem evalOp_eq (P : Program) (call : Caller) (g : Env) (st : St) (o : Oper) : evalOp P call g st o = evalOpS P call g st o := opF_eq o.op P call g st o

/-! ### regions -/
noncomputable def guardB (ops : Array Oper) (a : T V) (o : Oper) : Option Bool := match o.guard with
  | none => some true
  | some (j, w) => match ops[j]? with
    | none => none
    | some x => match x.dst with
      | none => none
      | some d => match a.get d with
        | some (.c (.sc (.bool b))) => some (b == w)
        | some (.tup _) => some false
        | _ => none
/-- One operation of a region: what stands in its place, and the state behind. -/
noncomputable def evalOper (P : Program) (call : Caller) (ops : Array Oper) (a : T V) (st : St) (o : Oper) : Option (V × St) := match guardB ops a o with
  | none => none
  | some false => some (.tup [], st)
  | some true => evalOp P call (ev a) st o
noncomputable def putV (m : Nat) (a : T V) (d : Option Tmp) (v : V) : Option (T V) := match d with
  | none => some a
  | some t => bif Nat.blt t m then some (a.put t v) else none
noncomputable def runSeq (P : Program) (call : Caller) (ops : Array Oper) (m : Nat) : List Oper → T V → St → Option (T V × St)
  | [], a, st => some (a, st)
  | o :: l, a, st => match evalOper P call ops a st o with
    | none => none
    | some (v, st') => force v fun v => match putV m a o.dst v with
      | none => none
      | some a' => runSeq P call ops m l a' st'

/-- What of the memory an operation looks at. -/
inductive Foot where
  | no
  | few (l : List Nat)
  | all
/-- The blocks that a value points to. -/
noncomputable def blkOf : V → List Nat
  | .c (.ptr b _) => [b]
  | .c (.slc b _ _ _) => [b]
  | .c (.slu b _ _ _) => [b]
  | .c (.mp b) => [b]
  | _ => []
noncomputable def blksOf (g : Env) : List Operand → List Nat
  | [] => []
  | x :: l => match g x with
    | some v => blkOf v ++ blksOf g l
    | none => blksOf g l
noncomputable def footC (g : Env) (c : Call) : Foot := match c with
  | ⟨.value _, _, _⟩ => .all
  | ⟨.builtin _, args, _⟩ => .few (blksOf g args.toList)
  | _ => .all
noncomputable def footOf (g : Env) : Op → Foot
  | .load _ x => .few (blksOf g [x])
  | .store _ x _ => .few (blksOf g [x])
  | .slice _ x _ _ _ => .few (blksOf g [x])
  | .convert _ _ x => .few (blksOf g [x])
  | .call c => footC g c
  | .lookup _ m _ _ => .few (blksOf g [m])
  | .mapUpdate _ m _ _ => .few (blksOf g [m])
  | .mapEntry _ m _ => .few (blksOf g [m])
  | .entryStore _ m _ _ => .few (blksOf g [m])
  | _ => .no
/-- An operation that has been carried out: what it read of temporaries, where it wrote, what it looked at, whether it wrote into old blocks, and which numbers of blocks are its own. -/
structure Inf where
  at_ : Nat
  rt : List Nat
  dst : Option Nat
  foot : Foot
  wr : Bool
  lo : Nat
  hi : Nat
noncomputable def memN (t : Nat) : List Nat → Bool
  | [] => false
  | x :: l => Nat.beq x t || memN t l
noncomputable def anyIn : List Nat → List Nat → Bool
  | [], _ => false
  | x :: l, m => memN x m || anyIn l m
noncomputable def Foot.meets : Foot → Foot → Bool
  | .no, _ => false
  | _, .no => false
  | .few l, .few m => anyIn l m
  | _, _ => true
noncomputable def anyWithin (lo hi : Nat) : List Nat → Bool
  | [] => false
  | b :: l => (Nat.ble lo b && Nat.blt b hi) || anyWithin lo hi l
noncomputable def Foot.within (lo hi : Nat) : Foot → Bool
  | .few l => anyWithin lo hi l
  | _ => false
noncomputable def memO (t : Option Nat) (l : List Nat) : Bool := match t with
  | none => false
  | some t => memN t l
noncomputable def sameO : Option Nat → Option Nat → Bool
  | some a, some b => Nat.beq a b
  | _, _ => false
/-- x was carried out ahead of y: may they be exchanged? -/
noncomputable def clash (x y : Inf) : Bool :=
  memO x.dst y.rt || sameO x.dst y.dst || memO y.dst x.rt || (x.wr && Foot.meets x.foot y.foot) || (y.wr && Foot.meets x.foot y.foot) || Foot.within x.lo x.hi y.foot
noncomputable def tmpsOf : List Operand → List Nat
  | [] => []
  | .tmp t :: l => t :: tmpsOf l
  | _ :: l => tmpsOf l
noncomputable def readsOf (ops : Array Oper) (o : Oper) : List Nat := match o.guard with
  | none => tmpsOf o.op.operands.toList
  | some (j, _) => match ops[j]? with
    | some x => match x.dst with
      | some d => d :: tmpsOf o.op.operands.toList
      | none => tmpsOf o.op.operands.toList
    | none => tmpsOf o.op.operands.toList
/-- The operations that stand ahead of one in each order. -/
noncomputable def aheadOf (k : Nat) (anc : List Nat) : List Edge → Nat → Option Nat
  | [], s => some s
  | e :: l, s => bif Region.binds .any e then (bif Nat.blt e.on k then match anc[k - 1 - e.on]? with
      | none => none
      | some m => aheadOf k anc l (s ||| (m ||| 2 ^ e.on)) else none) else aheadOf k anc l s
noncomputable def orPut (h d : T Blk) (b : Nat) : Option Blk → T Blk
  | some x => h.put b x
  | none => d
noncomputable def delFrom (h : T Blk) (lo : Nat) : Nat → T Blk
  | 0 => h
  | n + 1 => delFrom (h.del lo) (lo + 1) n
noncomputable def backFrom (h old : T Blk) (lo : Nat) : Nat → T Blk
  | 0 => h
  | n + 1 => backFrom (orPut h h lo (old.get lo)) old (lo + 1) n
/-- Those that are not ahead of it: their own blocks are not in sight. -/
noncomputable def hide (mask : Nat) : List Inf → T Blk → T Blk
  | [], h => h
  | x :: l, h => bif Nat.testBit mask x.at_ then hide mask l h else hide mask l (delFrom h x.lo (x.hi - x.lo))
noncomputable def unhide (mask : Nat) (old : T Blk) : List Inf → T Blk → T Blk
  | [], h => h
  | x :: l, h => bif Nat.testBit mask x.at_ then unhide mask old l h else unhide mask old l (backFrom h old x.lo (x.hi - x.lo))
noncomputable def copyFrom (h new : T Blk) (lo : Nat) : Nat → T Blk
  | 0 => h
  | n + 1 => copyFrom (orPut h (h.del lo) lo (new.get lo)) new (lo + 1) n
noncomputable def sightF (h : T Blk) : List Nat → T Blk
  | [] => .leaf
  | b :: l => orPut (sightF h l) (sightF h l) b (h.get b)
noncomputable def mergeF (old new : T Blk) : List Nat → T Blk
  | [] => old
  | b :: l => orPut (mergeF old new l) ((mergeF old new l).del b) b (new.get b)
noncomputable def sight (f : Foot) (mask : Nat) (infs : List Inf) (h : T Blk) : T Blk := match f with
  | .no => .leaf
  | .few l => sightF h l
  | .all => hide mask infs h
noncomputable def merge (f : Foot) (mask : Nat) (infs : List Inf) (old new : T Blk) (lo hi : Nat) : T Blk := match f with
  | .no => copyFrom old new lo (hi - lo)
  | .few l => copyFrom (mergeF old new l) new lo (hi - lo)
  | .all => unhide mask old infs new
noncomputable def noClash (mask : Nat) (y : Inf) : List Inf → Bool
  | [] => true
  | x :: l => (Nat.testBit mask x.at_ || !clash x y) && noClash mask y l
noncomputable def runDraw (P : Program) (call : Caller) (ops : Array Oper) (m : Nat) : List Oper → Nat → List Nat → List Inf → T V → St → Option (T V × St)
  | [], _, _, _, a, st => some (a, st)
  | o :: l, k, anc, infs, a, st => match aheadOf k anc o.after.toList 0 with
    | none => none
    | some mask =>
      let f := footOf (ev a) o.op
      match evalOper P call ops a ⟨sight f mask infs st.heap, st.next, st.next⟩ o with
      | none => none
      | some (v, st') => force v fun v => match putV m a o.dst v with
        | none => none
        | some a' =>
          let y : Inf := ⟨k, readsOf ops o, o.dst, f, Nat.blt st'.low st.next, st.next, st'.next⟩
          bif noClash mask y infs then runDraw P call ops m l (k + 1) (mask :: anc) (y :: infs) a' ⟨merge f mask infs st.heap st'.heap st.next st'.next, st'.next, bif Nat.ble st.low st'.low then st.low else st'.low⟩ else none

/-! ### code -/
noncomputable def resV (P : Program) (a : T V) (h : T Blk) : List ResultVar → Option (List V)
  | [] => some []
  | .tmp t :: l => match a.get t with
    | none => none
    | some v => match resV P a h l with
      | none => none
      | some vs => some (v :: vs)
  | .cell t ty :: l => match a.get t with
    | some (.c (.ptr b off)) => match loadV P ty h b off with
      | none => none
      | some v => match resV P a h l with
        | none => none
        | some vs => some (v :: vs)
    | _ => none
noncomputable def oneV : List V → V
  | [v] => v
  | l => .tup l
noncomputable def callF (P : Program) (go : Code → Nat → T V → St → Option (Exit × T V × St)) : Caller := fun f args st =>
  match P.funcs[f]? with
  | none => none
  | some fn => bif fn.name == "runtime.NumGoroutine" then none else match fn.body with
    | none => none
    | some c => match go c (args.length + (fn.ntmps - args.length)) (T.lay args 0 .leaf) st with
      | some (.normal, a, st') => (match resV P a st'.heap fn.results.toList with
        | none => none
        | some vs => some (oneV vs, st'))
      | some (.ret, a, st') => (match resV P a st'.heap fn.results.toList with
        | none => none
        | some vs => some (oneV vs, st'))
      | _ => none
/-- Answers that are known beforehand come first. -/
noncomputable def withBase (base c : Caller) : Caller := fun f args st => match base f args st with
  | some r => some r
  | none => c f args st
/-- The machine. lp: the body of a loop, over and over; base: what is known beforehand of calls. -/
abbrev Runner := Bool → Code → Nat → T V → St → Option (Exit × T V × St)
noncomputable def regionF (P : Program) (base : Caller) (go : Runner) (ops : Array Oper) (draw : Bool) (m : Nat) (a : T V) (st : St) : Option (Exit × T V × St) :=
  match (bif draw then (bif P.follows .mixedOrders then runDraw P (withBase base (callF P (go false))) ops m ops.toList 0 [] [] a st else none) else runSeq P (withBase base (callF P (go false))) ops m ops.toList a st) with
  | none => none
  | some (a', st') => some (.normal, a', st')
noncomputable def seqF (go : Runner) (y : Code) (m : Nat) (r : Option (Exit × T V × St)) : Option (Exit × T V × St) := match r with
  | some (.normal, a', st') => go false y m a' st'
  | r => r
noncomputable def condF (go : Runner) (c : Operand) (x y : Code) (m : Nat) (a : T V) (st : St) : Option (Exit × T V × St) := match ev a c with
  | some (.c (.sc (.bool t))) => match t with
    | true => go false x m a st
    | false => go false y m a st
  | _ => none
noncomputable def blockF (id : Nat) (r : Option (Exit × T V × St)) : Option (Exit × T V × St) := match r with
  | some (.exit i, a', st') => some (bif Nat.beq i id then .normal else .exit i, a', st')
  | r => r
noncomputable def loopF (go : Runner) (c : Code) (m : Nat) (r : Option (Exit × T V × St)) : Option (Exit × T V × St) := match r with
  | some (.normal, a', st') => go true c m a' st'
  | r => r
noncomputable def codeF (c : Code) : Program → Caller → Runner → Nat → T V → St → Option (Exit × T V × St) := match c with
  | .skip => fun _ _ _ _ a st => some (.normal, a, st)
  | .label _ => fun _ _ _ _ a st => some (.normal, a, st)
  | .ret => fun _ _ _ _ a st => some (.ret, a, st)
  | .exit id => fun _ _ _ _ a st => some (.exit id, a, st)
  | .region _ ops draw => fun P base go m a st => regionF P base go ops draw m a st
  | .seq x y => fun _ _ go m a st => seqF go y m (go false x m a st)
  | .cond c x y => fun _ _ go m a st => condF go c x y m a st
  | .block id b => fun _ _ go m a st => blockF id (go false b m a st)
  | .loop b => fun _ _ go m a st => go true b m a st
  | _ => fun _ _ _ _ _ _ => none
noncomputable def run (P : Program) (base : Caller) (n : Nat) : Runner :=
  Nat.rec (motive := fun _ => Runner) (fun _ _ _ _ _ => none) (fun _ go lp c m a st => Bool.rec (motive := fun _ => Option (Exit × T V × St)) (codeF c P base go m a st) (loopF go c m (go false c m a st)) lp) n
noncomputable def noBase : Caller := fun _ _ _ => none
/-- A call without arguments that answers true. -/
noncomputable def saysTrueB (P : Program) (base : Caller) (f fuel : Nat) : Bool := match callF P (run P base fuel false) f [] ⟨.leaf, 0, 0⟩ with
  | some (.c (.sc (.bool t)), _) => t
  | _ => false
noncomputable def saysTrue (P : Program) (f fuel : Nat) : Bool := saysTrueB P noBase f fuel
/-- What a call without arguments makes, once: one block of numbers. -/
noncomputable def made (P : Program) (f fuel : Nat) : Option Blk := match callF P (run P noBase fuel false) f [] ⟨.leaf, 0, 0⟩ with
  | some (.c (.ptr b 0), st) => match st.heap.get b with
    | some (.cells e n false cs) => match T.row cs 0 n with
      | some l => match C.vals l with
        | some vs => some (.cells e n false (T.lay (scs vs) 0 .leaf))
        | none => none
      | none => none
    | _ => none
  | _ => none
noncomputable def baseOf (P : Program) (f0 fuel : Nat) : Caller := fun f args st => bif Nat.beq f f0 then (match args with
  | [] => match made P f0 fuel with
    | some blk => some (.c (.ptr st.next 0), st.new blk)
    | none => none
  | _ => none) else none
end Go.Proofs.Ythablamjbikllaa.Run
