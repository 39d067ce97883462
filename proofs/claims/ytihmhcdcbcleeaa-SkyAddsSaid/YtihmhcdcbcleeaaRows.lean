/-
  No cell of these rows narrows 'for every input' (looked for: loops, veiled, ifaces, maps, wideKeys, modest, calm, conditions, laid).
  DERIVED. THE GIVEN ROWS OF THIS SEAT. 7 by the template 'for every input the law returns true; each argument reads behind the call as it read before'; 0 by the template 'total and deterministic' (their statements: YtihmhcdcbcleeaaTotals.lean).
  GIVEN WITH THE SEED: the statements are not yours to turn. If you find one false, say at which input.
  Laid BY PROGRAM, IN A SANDBOX (cutbox-rows.mjs): the forced cells as the released guide's own fill.sh prints them over the translation f256fed4ca38a6de… (all of the seat's roots in one cut). By AI agents, Wed Nov 11 2026. No macro, syntax, notation, axiom, sorry.
-/
import Derived.Test.YtihmhcdcbcleeaaChecked
import GoSem.Claim
import GoSem.ClaimJoined
import GoSem.ClaimMapViews
import Derived.JoinedTies
import Derived.KernelRfl
namespace Go.Proofs.Ytihmhcdcbcleeaa
/- THE CELL 'sum', in the pinned program and in every row, IS THE sha256 OF THE DUMP (.gsa) THAT YtihmhcdcbcleeaaProg.lean LOADS. Nothing in Lean hashes anything: it is a label: what it is worth is what the hold of that sum in a sandbox is worth. -/
noncomputable def Try.pinned : Pinned := { name := "ytihmhcdcbcleeaa", sum := "f256fed4ca38a6de82060122c15daf23f28f7491c39aa67a237df2201278c4f1", checked := Try.checked }
namespace Rows
def none {H : Type} : Left H := { results := [], args := [] }

/-- 'fringelaw41.SkyMoves': WHATEVER THE INPUT: true; the input reads as it did. -/
def skyMovesSpec : ChangeSpec := { name := "skyMoves", fn := fun _ => fun
  | [d1, d2, d3] => { results := [.lit (.bool true)], args := [d1, d2, d3] }
  | _ => none }
def skyMovesRow : OpenClaim := { program := "ytihmhcdcbcleeaa", sum := "f256fed4ca38a6de82060122c15daf23f28f7491c39aa67a237df2201278c4f1", func := "fringe/fringelaw41.SkyMoves", spec := "skyMoves", unfollowed := true, recurses := true, apart := false }
def SkyMovesSaid : Prop := skyMovesRow.holds Try.pinned (OpenSpec.ofChange skyMovesSpec)

/-- ITS FALSE NEIGHBOUR: 'it returns false'. Refute it at one input. -/
def skyMovesWrong : ChangeSpec := { name := "skyMoves", fn := fun _ => fun
  | [d1, d2, d3] => { results := [.lit (.bool false)], args := [d1, d2, d3] }
  | _ => none }
def SkyMovesWrongFalsely : Prop := skyMovesRow.holds Try.pinned (OpenSpec.ofChange skyMovesWrong)

/-- 'fringelaw41.SkyPlaces': WHATEVER THE INPUT: true; the input reads as it did. -/
def skyPlacesSpec : ChangeSpec := { name := "skyPlaces", fn := fun _ => fun
  | [d1, d2, d3, d4, d5] => { results := [.lit (.bool true)], args := [d1, d2, d3, d4, d5] }
  | _ => none }
def skyPlacesRow : OpenClaim := { program := "ytihmhcdcbcleeaa", sum := "f256fed4ca38a6de82060122c15daf23f28f7491c39aa67a237df2201278c4f1", func := "fringe/fringelaw41.SkyPlaces", spec := "skyPlaces", apart := false }
def SkyPlacesSaid : Prop := skyPlacesRow.holds Try.pinned (OpenSpec.ofChange skyPlacesSpec)

/-- ITS FALSE NEIGHBOUR: 'it returns false'. Refute it at one input. -/
def skyPlacesWrong : ChangeSpec := { name := "skyPlaces", fn := fun _ => fun
  | [d1, d2, d3, d4, d5] => { results := [.lit (.bool false)], args := [d1, d2, d3, d4, d5] }
  | _ => none }
def SkyPlacesWrongFalsely : Prop := skyPlacesRow.holds Try.pinned (OpenSpec.ofChange skyPlacesWrong)

/-- 'fringelaw41.SkyDirty': WHATEVER THE INPUT: true; the input reads as it did. -/
def skyDirtySpec : ChangeSpec := { name := "skyDirty", fn := fun _ => fun
  | [d1, d2, d3, d4] => { results := [.lit (.bool true)], args := [d1, d2, d3, d4] }
  | _ => none }
def skyDirtyRow : OpenClaim := { program := "ytihmhcdcbcleeaa", sum := "f256fed4ca38a6de82060122c15daf23f28f7491c39aa67a237df2201278c4f1", func := "fringe/fringelaw41.SkyDirty", spec := "skyDirty", apart := false }
def SkyDirtySaid : Prop := skyDirtyRow.holds Try.pinned (OpenSpec.ofChange skyDirtySpec)

/-- ITS FALSE NEIGHBOUR: 'it returns false'. Refute it at one input. -/
def skyDirtyWrong : ChangeSpec := { name := "skyDirty", fn := fun _ => fun
  | [d1, d2, d3, d4] => { results := [.lit (.bool false)], args := [d1, d2, d3, d4] }
  | _ => none }
def SkyDirtyWrongFalsely : Prop := skyDirtyRow.holds Try.pinned (OpenSpec.ofChange skyDirtyWrong)

/-- 'fringelaw41.SkySees': WHATEVER THE INPUT: true; the input reads as it did. -/
def skySeesSpec : ChangeSpec := { name := "skySees", fn := fun _ => fun
  | [d1, d2, d3, d4, d5] => { results := [.lit (.bool true)], args := [d1, d2, d3, d4, d5] }
  | _ => none }
def skySeesRow : OpenClaim := { program := "ytihmhcdcbcleeaa", sum := "f256fed4ca38a6de82060122c15daf23f28f7491c39aa67a237df2201278c4f1", func := "fringe/fringelaw41.SkySees", spec := "skySees", apart := false }
def SkySeesSaid : Prop := skySeesRow.holds Try.pinned (OpenSpec.ofChange skySeesSpec)

/-- ITS FALSE NEIGHBOUR: 'it returns false'. Refute it at one input. -/
def skySeesWrong : ChangeSpec := { name := "skySees", fn := fun _ => fun
  | [d1, d2, d3, d4, d5] => { results := [.lit (.bool false)], args := [d1, d2, d3, d4, d5] }
  | _ => none }
def SkySeesWrongFalsely : Prop := skySeesRow.holds Try.pinned (OpenSpec.ofChange skySeesWrong)

/-- 'fringelaw41.SkyNames': WHATEVER THE INPUT: true; the input reads as it did. -/
def skyNamesSpec : ChangeSpec := { name := "skyNames", fn := fun _ => fun
  | [] => { results := [.lit (.bool true)], args := [] }
  | _ => none }
def skyNamesRow : OpenClaim := { program := "ytihmhcdcbcleeaa", sum := "f256fed4ca38a6de82060122c15daf23f28f7491c39aa67a237df2201278c4f1", func := "fringe/fringelaw41.SkyNames", spec := "skyNames", unfollowed := true, recurses := true, apart := false }
def SkyNamesSaid : Prop := skyNamesRow.holds Try.pinned (OpenSpec.ofChange skyNamesSpec)

/-- ITS FALSE NEIGHBOUR: 'it returns false'. Refute it at one input. -/
def skyNamesWrong : ChangeSpec := { name := "skyNames", fn := fun _ => fun
  | [] => { results := [.lit (.bool false)], args := [] }
  | _ => none }
def SkyNamesWrongFalsely : Prop := skyNamesRow.holds Try.pinned (OpenSpec.ofChange skyNamesWrong)

/-- 'fringelaw41.SkyAdds': WHATEVER THE INPUT: true; the input reads as it did. -/
def skyAddsSpec : ChangeSpec := { name := "skyAdds", fn := fun _ => fun
  | [d1, d2, d3] => { results := [.lit (.bool true)], args := [d1, d2, d3] }
  | _ => none }
def skyAddsRow : OpenClaim := { program := "ytihmhcdcbcleeaa", sum := "f256fed4ca38a6de82060122c15daf23f28f7491c39aa67a237df2201278c4f1", func := "fringe/fringelaw41.SkyAdds", spec := "skyAdds", unfollowed := true, recurses := true, apart := false }
def SkyAddsSaid : Prop := skyAddsRow.holds Try.pinned (OpenSpec.ofChange skyAddsSpec)

/-- ITS FALSE NEIGHBOUR: 'it returns false'. Refute it at one input. -/
def skyAddsWrong : ChangeSpec := { name := "skyAdds", fn := fun _ => fun
  | [d1, d2, d3] => { results := [.lit (.bool false)], args := [d1, d2, d3] }
  | _ => none }
def SkyAddsWrongFalsely : Prop := skyAddsRow.holds Try.pinned (OpenSpec.ofChange skyAddsWrong)

/-- 'fringelaw41.SkyShifts': WHATEVER THE INPUT: true; the input reads as it did. -/
def skyShiftsSpec : ChangeSpec := { name := "skyShifts", fn := fun _ => fun
  | [d1, d2, d3, d4] => { results := [.lit (.bool true)], args := [d1, d2, d3, d4] }
  | _ => none }
def skyShiftsRow : OpenClaim := { program := "ytihmhcdcbcleeaa", sum := "f256fed4ca38a6de82060122c15daf23f28f7491c39aa67a237df2201278c4f1", func := "fringe/fringelaw41.SkyShifts", spec := "skyShifts", unfollowed := true, recurses := true, apart := false }
def SkyShiftsSaid : Prop := skyShiftsRow.holds Try.pinned (OpenSpec.ofChange skyShiftsSpec)

/-- ITS FALSE NEIGHBOUR: 'it returns false'. Refute it at one input. -/
def skyShiftsWrong : ChangeSpec := { name := "skyShifts", fn := fun _ => fun
  | [d1, d2, d3, d4] => { results := [.lit (.bool false)], args := [d1, d2, d3, d4] }
  | _ => none }
def SkyShiftsWrongFalsely : Prop := skyShiftsRow.holds Try.pinned (OpenSpec.ofChange skyShiftsWrong)

/- THE SECOND FORM. 'bulk': how many values and letters a reading holds, each counted each time it is reached (what is shared counts as often as it is met; a slice's spare places count too). A statement '..UptoSaid' is the law's where the arguments, and the package variables that the reading takes, are together of bulk at most 1048576: NARROWER than '..Said'. Prove '..Said' where nothing that the law and all that it calls make is longer than what came in: it says more and counts as full. Else prove '..UptoSaid'. A law counts once. -/
mutual
def uptoBulk {H : Type} : DataW H → Nat
  | .lit (.string bytes) => bytes.length + 1
  | .lit _ => 1
  | .nil => 1
  | .ptr d => uptoBulk d + 1
  | .slice elems spare => uptoBulkAll elems + uptoBulkAll spare + 1
  | .agg parts => uptoBulkAll parts + 1
  | .iface _ d => uptoBulk d + 1
  | .map entries => uptoBulkEntries entries + 1
  | .held _ => 1
def uptoBulkAll {H : Type} : List (DataW H) → Nat
  | [] => 0
  | d :: r => uptoBulk d + uptoBulkAll r
def uptoBulkEntries {H : Type} : List (Lit × DataW H) → Nat
  | [] => 0
  | x :: r => uptoBulkEntry x + uptoBulkEntries r
def uptoBulkEntry {H : Type} : Lit × DataW H → Nat
  | (.string bytes, d) => bytes.length + uptoBulk d + 1
  | (_, d) => uptoBulk d + 1
 end
def uptoSmall : (H : Type) → List (DataW H) → Bool := fun _ ds => decide (uptoBulkAll ds ≤ 1048576)
def OpenSpec.upto (s : _root_.Go.ChangeSpec) : _root_.Go.OpenSpec := { _root_.Go.OpenSpec.ofChange s with cond := some uptoSmall }

/-- 'fringelaw41.SkyMoves', WHERE WHAT IT READS IS OF BULK AT MOST 1048576: true; the input reads as it did. -/
def skyMovesUptoRow : OpenClaim := { program := "ytihmhcdcbcleeaa", sum := "f256fed4ca38a6de82060122c15daf23f28f7491c39aa67a237df2201278c4f1", func := "fringe/fringelaw41.SkyMoves", spec := "skyMoves", unfollowed := true, recurses := true, apart := false, narrowed := true }
def SkyMovesUptoSaid : Prop := skyMovesUptoRow.holds Try.pinned (OpenSpec.upto skyMovesSpec)

/-- 'fringelaw41.SkyPlaces', WHERE WHAT IT READS IS OF BULK AT MOST 1048576: true; the input reads as it did. -/
def skyPlacesUptoRow : OpenClaim := { program := "ytihmhcdcbcleeaa", sum := "f256fed4ca38a6de82060122c15daf23f28f7491c39aa67a237df2201278c4f1", func := "fringe/fringelaw41.SkyPlaces", spec := "skyPlaces", apart := false, narrowed := true }
def SkyPlacesUptoSaid : Prop := skyPlacesUptoRow.holds Try.pinned (OpenSpec.upto skyPlacesSpec)

/-- 'fringelaw41.SkyDirty', WHERE WHAT IT READS IS OF BULK AT MOST 1048576: true; the input reads as it did. -/
def skyDirtyUptoRow : OpenClaim := { program := "ytihmhcdcbcleeaa", sum := "f256fed4ca38a6de82060122c15daf23f28f7491c39aa67a237df2201278c4f1", func := "fringe/fringelaw41.SkyDirty", spec := "skyDirty", apart := false, narrowed := true }
def SkyDirtyUptoSaid : Prop := skyDirtyUptoRow.holds Try.pinned (OpenSpec.upto skyDirtySpec)

/-- 'fringelaw41.SkySees', WHERE WHAT IT READS IS OF BULK AT MOST 1048576: true; the input reads as it did. -/
def skySeesUptoRow : OpenClaim := { program := "ytihmhcdcbcleeaa", sum := "f256fed4ca38a6de82060122c15daf23f28f7491c39aa67a237df2201278c4f1", func := "fringe/fringelaw41.SkySees", spec := "skySees", apart := false, narrowed := true }
def SkySeesUptoSaid : Prop := skySeesUptoRow.holds Try.pinned (OpenSpec.upto skySeesSpec)

/-- 'fringelaw41.SkyNames', WHERE WHAT IT READS IS OF BULK AT MOST 1048576: true; the input reads as it did. -/
def skyNamesUptoRow : OpenClaim := { program := "ytihmhcdcbcleeaa", sum := "f256fed4ca38a6de82060122c15daf23f28f7491c39aa67a237df2201278c4f1", func := "fringe/fringelaw41.SkyNames", spec := "skyNames", unfollowed := true, recurses := true, apart := false, narrowed := true }
def SkyNamesUptoSaid : Prop := skyNamesUptoRow.holds Try.pinned (OpenSpec.upto skyNamesSpec)

/-- 'fringelaw41.SkyAdds', WHERE WHAT IT READS IS OF BULK AT MOST 1048576: true; the input reads as it did. -/
def skyAddsUptoRow : OpenClaim := { program := "ytihmhcdcbcleeaa", sum := "f256fed4ca38a6de82060122c15daf23f28f7491c39aa67a237df2201278c4f1", func := "fringe/fringelaw41.SkyAdds", spec := "skyAdds", unfollowed := true, recurses := true, apart := false, narrowed := true }
def SkyAddsUptoSaid : Prop := skyAddsUptoRow.holds Try.pinned (OpenSpec.upto skyAddsSpec)

/-- 'fringelaw41.SkyShifts', WHERE WHAT IT READS IS OF BULK AT MOST 1048576: true; the input reads as it did. -/
def skyShiftsUptoRow : OpenClaim := { program := "ytihmhcdcbcleeaa", sum := "f256fed4ca38a6de82060122c15daf23f28f7491c39aa67a237df2201278c4f1", func := "fringe/fringelaw41.SkyShifts", spec := "skyShifts", unfollowed := true, recurses := true, apart := false, narrowed := true }
def SkyShiftsUptoSaid : Prop := skyShiftsUptoRow.holds Try.pinned (OpenSpec.upto skyShiftsSpec)

end Rows
end Go.Proofs.Ytihmhcdcbcleeaa
