/-
  No cell of these rows narrows 'for every input' (looked for: loops, veiled, ifaces, maps, wideKeys, modest, calm, conditions, laid).
  DERIVED. THE GIVEN ROWS OF THIS SEAT. 6 by the template 'for every input the law returns true; each argument reads behind the call as it read before'; 0 by the template 'total and deterministic' (their statements: YthablamjbikllaaTotals.lean).
  GIVEN WITH THE SEED: the statements are not yours to turn. If you find one false, say at which input.
  Laid BY PROGRAM, IN A SANDBOX (cutbox-rows.mjs): the forced cells as the released guide's own fill.sh prints them over the translation 01fae7dca1f1ce61… (all of the seat's roots in one cut). By AI agents, Wed Nov 11 2026. No macro, syntax, notation, axiom, sorry.
-/
import Derived.Test.YthablamjbikllaaChecked
import GoSem.Claim
import GoSem.ClaimJoined
import GoSem.ClaimMapViews
import Derived.JoinedTies
import Derived.KernelRfl
namespace Go.Proofs.Ythablamjbikllaa
/- THE CELL 'sum', in the pinned program and in every row, IS THE sha256 OF THE DUMP (.gsa) THAT YthablamjbikllaaProg.lean LOADS. Nothing in Lean hashes anything: it is a label: what it is worth is what the hold of that sum in a sandbox is worth. -/
noncomputable def Try.pinned : Pinned := { name := "ythablamjbikllaa", sum := "01fae7dca1f1ce616f79fc0cb7a818e54d7415594411b7e63c3eb9871a3a7ea1", checked := Try.checked }
namespace Rows
def none {H : Type} : Left H := { results := [], args := [] }

/-- 'fringelaw45.ParityField': WHATEVER THE INPUT: true; the input reads as it did. -/
def parityFieldSpec : ChangeSpec := { name := "parityField", fn := fun _ => fun
  | [d1, d2] => { results := [.lit (.bool true)], args := [d1, d2] }
  | _ => none }
def parityFieldRow : OpenClaim := { program := "ythablamjbikllaa", sum := "01fae7dca1f1ce616f79fc0cb7a818e54d7415594411b7e63c3eb9871a3a7ea1", func := "fringe/fringelaw45.ParityField", spec := "parityField", apart := false }
def ParityFieldSaid : Prop := parityFieldRow.holds Try.pinned (OpenSpec.ofChange parityFieldSpec)

/-- ITS FALSE NEIGHBOUR: 'it returns false'. Refute it at one input. -/
def parityFieldWrong : ChangeSpec := { name := "parityField", fn := fun _ => fun
  | [d1, d2] => { results := [.lit (.bool false)], args := [d1, d2] }
  | _ => none }
def ParityFieldWrongFalsely : Prop := parityFieldRow.holds Try.pinned (OpenSpec.ofChange parityFieldWrong)

/-- 'fringelaw45.ParityStripes': WHATEVER THE INPUT: true; the input reads as it did. -/
def parityStripesSpec : ChangeSpec := { name := "parityStripes", fn := fun _ => fun
  | [d1, d2, d3, d4] => { results := [.lit (.bool true)], args := [d1, d2, d3, d4] }
  | _ => none }
def parityStripesRow : OpenClaim := { program := "ythablamjbikllaa", sum := "01fae7dca1f1ce616f79fc0cb7a818e54d7415594411b7e63c3eb9871a3a7ea1", func := "fringe/fringelaw45.ParityStripes", spec := "parityStripes", apart := false }
def ParityStripesSaid : Prop := parityStripesRow.holds Try.pinned (OpenSpec.ofChange parityStripesSpec)

/-- ITS FALSE NEIGHBOUR: 'it returns false'. Refute it at one input. -/
def parityStripesWrong : ChangeSpec := { name := "parityStripes", fn := fun _ => fun
  | [d1, d2, d3, d4] => { results := [.lit (.bool false)], args := [d1, d2, d3, d4] }
  | _ => none }
def ParityStripesWrongFalsely : Prop := parityStripesRow.holds Try.pinned (OpenSpec.ofChange parityStripesWrong)

/-- 'fringelaw45.ParityAlgebra': WHATEVER THE INPUT: true; the input reads as it did. -/
def parityAlgebraSpec : ChangeSpec := { name := "parityAlgebra", fn := fun _ => fun
  | [d1, d2, d3] => { results := [.lit (.bool true)], args := [d1, d2, d3] }
  | _ => none }
def parityAlgebraRow : OpenClaim := { program := "ythablamjbikllaa", sum := "01fae7dca1f1ce616f79fc0cb7a818e54d7415594411b7e63c3eb9871a3a7ea1", func := "fringe/fringelaw45.ParityAlgebra", spec := "parityAlgebra", unfollowed := true, recurses := true, apart := false }
def ParityAlgebraSaid : Prop := parityAlgebraRow.holds Try.pinned (OpenSpec.ofChange parityAlgebraSpec)

/-- ITS FALSE NEIGHBOUR: 'it returns false'. Refute it at one input. -/
def parityAlgebraWrong : ChangeSpec := { name := "parityAlgebra", fn := fun _ => fun
  | [d1, d2, d3] => { results := [.lit (.bool false)], args := [d1, d2, d3] }
  | _ => none }
def ParityAlgebraWrongFalsely : Prop := parityAlgebraRow.holds Try.pinned (OpenSpec.ofChange parityAlgebraWrong)

/-- 'fringelaw45.ParityBack': WHATEVER THE INPUT: true; the input reads as it did. -/
def parityBackSpec : ChangeSpec := { name := "parityBack", fn := fun _ => fun
  | [d1, d2, d3] => { results := [.lit (.bool true)], args := [d1, d2, d3] }
  | _ => none }
def parityBackRow : OpenClaim := { program := "ythablamjbikllaa", sum := "01fae7dca1f1ce616f79fc0cb7a818e54d7415594411b7e63c3eb9871a3a7ea1", func := "fringe/fringelaw45.ParityBack", spec := "parityBack", unfollowed := true, recurses := true, apart := false }
def ParityBackSaid : Prop := parityBackRow.holds Try.pinned (OpenSpec.ofChange parityBackSpec)

/-- ITS FALSE NEIGHBOUR: 'it returns false'. Refute it at one input. -/
def parityBackWrong : ChangeSpec := { name := "parityBack", fn := fun _ => fun
  | [d1, d2, d3] => { results := [.lit (.bool false)], args := [d1, d2, d3] }
  | _ => none }
def ParityBackWrongFalsely : Prop := parityBackRow.holds Try.pinned (OpenSpec.ofChange parityBackWrong)

/-- 'fringelaw45.ParityFar': WHATEVER THE INPUT: true; the input reads as it did. -/
def parityFarSpec : ChangeSpec := { name := "parityFar", fn := fun _ => fun
  | [d1, d2, d3] => { results := [.lit (.bool true)], args := [d1, d2, d3] }
  | _ => none }
def parityFarRow : OpenClaim := { program := "ythablamjbikllaa", sum := "01fae7dca1f1ce616f79fc0cb7a818e54d7415594411b7e63c3eb9871a3a7ea1", func := "fringe/fringelaw45.ParityFar", spec := "parityFar", unfollowed := true, recurses := true, apart := false }
def ParityFarSaid : Prop := parityFarRow.holds Try.pinned (OpenSpec.ofChange parityFarSpec)

/-- ITS FALSE NEIGHBOUR: 'it returns false'. Refute it at one input. -/
def parityFarWrong : ChangeSpec := { name := "parityFar", fn := fun _ => fun
  | [d1, d2, d3] => { results := [.lit (.bool false)], args := [d1, d2, d3] }
  | _ => none }
def ParityFarWrongFalsely : Prop := parityFarRow.holds Try.pinned (OpenSpec.ofChange parityFarWrong)

/-- 'fringelaw45.ParityNames': WHATEVER THE INPUT: true; the input reads as it did. -/
def parityNamesSpec : ChangeSpec := { name := "parityNames", fn := fun _ => fun
  | [] => { results := [.lit (.bool true)], args := [] }
  | _ => none }
def parityNamesRow : OpenClaim := { program := "ythablamjbikllaa", sum := "01fae7dca1f1ce616f79fc0cb7a818e54d7415594411b7e63c3eb9871a3a7ea1", func := "fringe/fringelaw45.ParityNames", spec := "parityNames", unfollowed := true, recurses := true, apart := false }
def ParityNamesSaid : Prop := parityNamesRow.holds Try.pinned (OpenSpec.ofChange parityNamesSpec)

/-- ITS FALSE NEIGHBOUR: 'it returns false'. Refute it at one input. -/
def parityNamesWrong : ChangeSpec := { name := "parityNames", fn := fun _ => fun
  | [] => { results := [.lit (.bool false)], args := [] }
  | _ => none }
def ParityNamesWrongFalsely : Prop := parityNamesRow.holds Try.pinned (OpenSpec.ofChange parityNamesWrong)

/- THE SECOND FORM. 'bulk': how many values and letters a reading holds, each counted each time it is reached (what is shared counts as often as it is met; a slice's spare places count too). A statement '..UptoSaid' is the law's where the arguments, and the package variables that the reading takes, are together of bulk at most 1048576: NARROWER than '..Said'. Prove '..Said' where nothing that the law and all that it calls make is longer than what came in: it says more and counts as full. Else prove '..UptoSaid'. A law counts once. -/
mutual
def uptoBulk {H : Type} : DataW H → Nat
  | .lit (.string bytes) => bytes.length + 1
  | .lit _ => 1
  | .nil => 1
  | .ptr d => uptoBulk d + 1
  | .slice elems spare => uptoBulkAll elems + uptoBulkAll spare + 1
  | .agg parts => uptoBulkAll parts + 1
  | .iface _ d => uptoBulk d + 1
  | .map entries => uptoBulkEntries entries + 1
  | .held _ => 1
def uptoBulkAll {H : Type} : List (DataW H) → Nat
  | [] => 0
  | d :: r => uptoBulk d + uptoBulkAll r
def uptoBulkEntries {H : Type} : List (Lit × DataW H) → Nat
  | [] => 0
  | x :: r => uptoBulkEntry x + uptoBulkEntries r
def uptoBulkEntry {H : Type} : Lit × DataW H → Nat
  | (.string bytes, d) => bytes.length + uptoBulk d + 1
  | (_, d) => uptoBulk d + 1
 end
def uptoSmall : (H : Type) → List (DataW H) → Bool := fun _ ds => decide (uptoBulkAll ds ≤ 1048576)
def OpenSpec.upto (s : _root_.Go.ChangeSpec) : _root_.Go.OpenSpec := { _root_.Go.OpenSpec.ofChange s with cond := some uptoSmall }

/-- 'fringelaw45.ParityField', WHERE WHAT IT READS IS OF BULK AT MOST 1048576: true; the input reads as it did. -/
def parityFieldUptoRow : OpenClaim := { program := "ythablamjbikllaa", sum := "01fae7dca1f1ce616f79fc0cb7a818e54d7415594411b7e63c3eb9871a3a7ea1", func := "fringe/fringelaw45.ParityField", spec := "parityField", apart := false, narrowed := true }
def ParityFieldUptoSaid : Prop := parityFieldUptoRow.holds Try.pinned (OpenSpec.upto parityFieldSpec)

/-- 'fringelaw45.ParityStripes', WHERE WHAT IT READS IS OF BULK AT MOST 1048576: true; the input reads as it did. -/
def parityStripesUptoRow : OpenClaim := { program := "ythablamjbikllaa", sum := "01fae7dca1f1ce616f79fc0cb7a818e54d7415594411b7e63c3eb9871a3a7ea1", func := "fringe/fringelaw45.ParityStripes", spec := "parityStripes", apart := false, narrowed := true }
def ParityStripesUptoSaid : Prop := parityStripesUptoRow.holds Try.pinned (OpenSpec.upto parityStripesSpec)

/-- 'fringelaw45.ParityAlgebra', WHERE WHAT IT READS IS OF BULK AT MOST 1048576: true; the input reads as it did. -/
def parityAlgebraUptoRow : OpenClaim := { program := "ythablamjbikllaa", sum := "01fae7dca1f1ce616f79fc0cb7a818e54d7415594411b7e63c3eb9871a3a7ea1", func := "fringe/fringelaw45.ParityAlgebra", spec := "parityAlgebra", unfollowed := true, recurses := true, apart := false, narrowed := true }
def ParityAlgebraUptoSaid : Prop := parityAlgebraUptoRow.holds Try.pinned (OpenSpec.upto parityAlgebraSpec)

/-- 'fringelaw45.ParityBack', WHERE WHAT IT READS IS OF BULK AT MOST 1048576: true; the input reads as it did. -/
def parityBackUptoRow : OpenClaim := { program := "ythablamjbikllaa", sum := "01fae7dca1f1ce616f79fc0cb7a818e54d7415594411b7e63c3eb9871a3a7ea1", func := "fringe/fringelaw45.ParityBack", spec := "parityBack", unfollowed := true, recurses := true, apart := false, narrowed := true }
def ParityBackUptoSaid : Prop := parityBackUptoRow.holds Try.pinned (OpenSpec.upto parityBackSpec)

/-- 'fringelaw45.ParityFar', WHERE WHAT IT READS IS OF BULK AT MOST 1048576: true; the input reads as it did. -/
def parityFarUptoRow : OpenClaim := { program := "ythablamjbikllaa", sum := "01fae7dca1f1ce616f79fc0cb7a818e54d7415594411b7e63c3eb9871a3a7ea1", func := "fringe/fringelaw45.ParityFar", spec := "parityFar", unfollowed := true, recurses := true, apart := false, narrowed := true }
def ParityFarUptoSaid : Prop := parityFarUptoRow.holds Try.pinned (OpenSpec.upto parityFarSpec)

/-- 'fringelaw45.ParityNames', WHERE WHAT IT READS IS OF BULK AT MOST 1048576: true; the input reads as it did. -/
def parityNamesUptoRow : OpenClaim := { program := "ythablamjbikllaa", sum := "01fae7dca1f1ce616f79fc0cb7a818e54d7415594411b7e63c3eb9871a3a7ea1", func := "fringe/fringelaw45.ParityNames", spec := "parityNames", unfollowed := true, recurses := true, apart := false, narrowed := true }
def ParityNamesUptoSaid : Prop := parityNamesUptoRow.holds Try.pinned (OpenSpec.upto parityNamesSpec)

end Rows
end Go.Proofs.Ythablamjbikllaa
