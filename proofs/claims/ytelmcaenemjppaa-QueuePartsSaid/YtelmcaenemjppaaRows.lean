/-
  No cell of these rows narrows 'for every input' (looked for: loops, veiled, ifaces, maps, wideKeys, modest, calm, conditions, laid).
  DERIVED. THE GIVEN ROWS OF THIS SEAT. 11 by the template 'for every input the law returns true; each argument reads behind the call as it read before'; 0 by the template 'total and deterministic' (their statements: YtelmcaenemjppaaTotals.lean).
  GIVEN WITH THE SEED: the statements are not yours to turn. If you find one false, say at which input.
  Laid BY PROGRAM, IN A SANDBOX (cutbox-rows.mjs): the forced cells as the released guide's own fill.sh prints them over the translation 7b275df06d459540… (all of the seat's roots in one cut). By AI agents, Wed Nov 11 2026. No macro, syntax, notation, axiom, sorry.
-/
import Derived.Test.YtelmcaenemjppaaChecked
import GoSem.Claim
import GoSem.ClaimJoined
import GoSem.ClaimMapViews
import Derived.JoinedTies
import Derived.KernelRfl
namespace Go.Proofs.Ytelmcaenemjppaa
/- THE CELL 'sum', in the pinned program and in every row, IS THE sha256 OF THE DUMP (.gsa) THAT YtelmcaenemjppaaProg.lean LOADS. Nothing in Lean hashes anything: it is a label: what it is worth is what the hold of that sum in a sandbox is worth. -/
noncomputable def Try.pinned : Pinned := { name := "ytelmcaenemjppaa", sum := "7b275df06d459540a5a838da6e99db618f9fe979e1072005aee8ee1a7001d2f5", checked := Try.checked }
namespace Rows
def none {H : Type} : Left H := { results := [], args := [] }

/-- 'fringelaw42.QueueServes': WHATEVER THE INPUT: true; the input reads as it did. -/
def queueServesSpec : ChangeSpec := { name := "queueServes", fn := fun _ => fun
  | [d1, d2] => { results := [.lit (.bool true)], args := [d1, d2] }
  | _ => none }
def queueServesRow : OpenClaim := { program := "ytelmcaenemjppaa", sum := "7b275df06d459540a5a838da6e99db618f9fe979e1072005aee8ee1a7001d2f5", func := "fringe/fringelaw42.QueueServes", spec := "queueServes", unfollowed := true, recurses := true, apart := false }
def QueueServesSaid : Prop := queueServesRow.holds Try.pinned (OpenSpec.ofChange queueServesSpec)

/-- ITS FALSE NEIGHBOUR: 'it returns false'. Refute it at one input. -/
def queueServesWrong : ChangeSpec := { name := "queueServes", fn := fun _ => fun
  | [d1, d2] => { results := [.lit (.bool false)], args := [d1, d2] }
  | _ => none }
def QueueServesWrongFalsely : Prop := queueServesRow.holds Try.pinned (OpenSpec.ofChange queueServesWrong)

/-- 'fringelaw42.QueueShares': WHATEVER THE INPUT: true; the input reads as it did. -/
def queueSharesSpec : ChangeSpec := { name := "queueShares", fn := fun _ => fun
  | [d1, d2, d3, d4] => { results := [.lit (.bool true)], args := [d1, d2, d3, d4] }
  | _ => none }
def queueSharesRow : OpenClaim := { program := "ytelmcaenemjppaa", sum := "7b275df06d459540a5a838da6e99db618f9fe979e1072005aee8ee1a7001d2f5", func := "fringe/fringelaw42.QueueShares", spec := "queueShares", unfollowed := true, recurses := true, apart := false }
def QueueSharesSaid : Prop := queueSharesRow.holds Try.pinned (OpenSpec.ofChange queueSharesSpec)

/-- ITS FALSE NEIGHBOUR: 'it returns false'. Refute it at one input. -/
def queueSharesWrong : ChangeSpec := { name := "queueShares", fn := fun _ => fun
  | [d1, d2, d3, d4] => { results := [.lit (.bool false)], args := [d1, d2, d3, d4] }
  | _ => none }
def QueueSharesWrongFalsely : Prop := queueSharesRow.holds Try.pinned (OpenSpec.ofChange queueSharesWrong)

/-- 'fringelaw42.QueueParts': WHATEVER THE INPUT: true; the input reads as it did. -/
def queuePartsSpec : ChangeSpec := { name := "queueParts", fn := fun _ => fun
  | [d1, d2, d3] => { results := [.lit (.bool true)], args := [d1, d2, d3] }
  | _ => none }
def queuePartsRow : OpenClaim := { program := "ytelmcaenemjppaa", sum := "7b275df06d459540a5a838da6e99db618f9fe979e1072005aee8ee1a7001d2f5", func := "fringe/fringelaw42.QueueParts", spec := "queueParts", unfollowed := true, recurses := true, apart := false }
def QueuePartsSaid : Prop := queuePartsRow.holds Try.pinned (OpenSpec.ofChange queuePartsSpec)

/-- ITS FALSE NEIGHBOUR: 'it returns false'. Refute it at one input. -/
def queuePartsWrong : ChangeSpec := { name := "queueParts", fn := fun _ => fun
  | [d1, d2, d3] => { results := [.lit (.bool false)], args := [d1, d2, d3] }
  | _ => none }
def QueuePartsWrongFalsely : Prop := queuePartsRow.holds Try.pinned (OpenSpec.ofChange queuePartsWrong)

/-- 'fringelaw42.QueueNames': WHATEVER THE INPUT: true; the input reads as it did. -/
def queueNamesSpec : ChangeSpec := { name := "queueNames", fn := fun _ => fun
  | [] => { results := [.lit (.bool true)], args := [] }
  | _ => none }
def queueNamesRow : OpenClaim := { program := "ytelmcaenemjppaa", sum := "7b275df06d459540a5a838da6e99db618f9fe979e1072005aee8ee1a7001d2f5", func := "fringe/fringelaw42.QueueNames", spec := "queueNames", unfollowed := true, recurses := true, apart := false }
def QueueNamesSaid : Prop := queueNamesRow.holds Try.pinned (OpenSpec.ofChange queueNamesSpec)

/-- ITS FALSE NEIGHBOUR: 'it returns false'. Refute it at one input. -/
def queueNamesWrong : ChangeSpec := { name := "queueNames", fn := fun _ => fun
  | [] => { results := [.lit (.bool false)], args := [] }
  | _ => none }
def QueueNamesWrongFalsely : Prop := queueNamesRow.holds Try.pinned (OpenSpec.ofChange queueNamesWrong)

/-- 'fringelaw42.QueueWaits': WHATEVER THE INPUT: true; the input reads as it did. -/
def queueWaitsSpec : ChangeSpec := { name := "queueWaits", fn := fun _ => fun
  | [d1, d2, d3] => { results := [.lit (.bool true)], args := [d1, d2, d3] }
  | _ => none }
def queueWaitsRow : OpenClaim := { program := "ytelmcaenemjppaa", sum := "7b275df06d459540a5a838da6e99db618f9fe979e1072005aee8ee1a7001d2f5", func := "fringe/fringelaw42.QueueWaits", spec := "queueWaits", unfollowed := true, recurses := true, apart := false }
def QueueWaitsSaid : Prop := queueWaitsRow.holds Try.pinned (OpenSpec.ofChange queueWaitsSpec)

/-- ITS FALSE NEIGHBOUR: 'it returns false'. Refute it at one input. -/
def queueWaitsWrong : ChangeSpec := { name := "queueWaits", fn := fun _ => fun
  | [d1, d2, d3] => { results := [.lit (.bool false)], args := [d1, d2, d3] }
  | _ => none }
def QueueWaitsWrongFalsely : Prop := queueWaitsRow.holds Try.pinned (OpenSpec.ofChange queueWaitsWrong)

/-- 'fringelaw42.QueueLevel': WHATEVER THE INPUT: true; the input reads as it did. -/
def queueLevelSpec : ChangeSpec := { name := "queueLevel", fn := fun _ => fun
  | [d1, d2, d3] => { results := [.lit (.bool true)], args := [d1, d2, d3] }
  | _ => none }
def queueLevelRow : OpenClaim := { program := "ytelmcaenemjppaa", sum := "7b275df06d459540a5a838da6e99db618f9fe979e1072005aee8ee1a7001d2f5", func := "fringe/fringelaw42.QueueLevel", spec := "queueLevel", unfollowed := true, recurses := true, apart := false }
def QueueLevelSaid : Prop := queueLevelRow.holds Try.pinned (OpenSpec.ofChange queueLevelSpec)

/-- ITS FALSE NEIGHBOUR: 'it returns false'. Refute it at one input. -/
def queueLevelWrong : ChangeSpec := { name := "queueLevel", fn := fun _ => fun
  | [d1, d2, d3] => { results := [.lit (.bool false)], args := [d1, d2, d3] }
  | _ => none }
def QueueLevelWrongFalsely : Prop := queueLevelRow.holds Try.pinned (OpenSpec.ofChange queueLevelWrong)

/-- 'fringelaw43.PlanTells': WHATEVER THE INPUT: true; the input reads as it did. -/
def planTellsSpec : ChangeSpec := { name := "planTells", fn := fun _ => fun
  | [d] => { results := [.lit (.bool true)], args := [d] }
  | _ => none }
def planTellsRow : OpenClaim := { program := "ytelmcaenemjppaa", sum := "7b275df06d459540a5a838da6e99db618f9fe979e1072005aee8ee1a7001d2f5", func := "fringe/fringelaw43.PlanTells", spec := "planTells", unfollowed := true, recurses := true, apart := false }
def PlanTellsSaid : Prop := planTellsRow.holds Try.pinned (OpenSpec.ofChange planTellsSpec)

/-- ITS FALSE NEIGHBOUR: 'it returns false'. Refute it at one input. -/
def planTellsWrong : ChangeSpec := { name := "planTells", fn := fun _ => fun
  | [d] => { results := [.lit (.bool false)], args := [d] }
  | _ => none }
def PlanTellsWrongFalsely : Prop := planTellsRow.holds Try.pinned (OpenSpec.ofChange planTellsWrong)

/-- 'fringelaw43.PlanFewer': WHATEVER THE INPUT: true; the input reads as it did. -/
def planFewerSpec : ChangeSpec := { name := "planFewer", fn := fun _ => fun
  | [d1, d2] => { results := [.lit (.bool true)], args := [d1, d2] }
  | _ => none }
def planFewerRow : OpenClaim := { program := "ytelmcaenemjppaa", sum := "7b275df06d459540a5a838da6e99db618f9fe979e1072005aee8ee1a7001d2f5", func := "fringe/fringelaw43.PlanFewer", spec := "planFewer", unfollowed := true, recurses := true, apart := false }
def PlanFewerSaid : Prop := planFewerRow.holds Try.pinned (OpenSpec.ofChange planFewerSpec)

/-- ITS FALSE NEIGHBOUR: 'it returns false'. Refute it at one input. -/
def planFewerWrong : ChangeSpec := { name := "planFewer", fn := fun _ => fun
  | [d1, d2] => { results := [.lit (.bool false)], args := [d1, d2] }
  | _ => none }
def PlanFewerWrongFalsely : Prop := planFewerRow.holds Try.pinned (OpenSpec.ofChange planFewerWrong)

/-- 'fringelaw43.PlanMoved': WHATEVER THE INPUT: true; the input reads as it did. -/
def planMovedSpec : ChangeSpec := { name := "planMoved", fn := fun _ => fun
  | [d1, d2] => { results := [.lit (.bool true)], args := [d1, d2] }
  | _ => none }
def planMovedRow : OpenClaim := { program := "ytelmcaenemjppaa", sum := "7b275df06d459540a5a838da6e99db618f9fe979e1072005aee8ee1a7001d2f5", func := "fringe/fringelaw43.PlanMoved", spec := "planMoved", unfollowed := true, recurses := true, apart := false }
def PlanMovedSaid : Prop := planMovedRow.holds Try.pinned (OpenSpec.ofChange planMovedSpec)

/-- ITS FALSE NEIGHBOUR: 'it returns false'. Refute it at one input. -/
def planMovedWrong : ChangeSpec := { name := "planMoved", fn := fun _ => fun
  | [d1, d2] => { results := [.lit (.bool false)], args := [d1, d2] }
  | _ => none }
def PlanMovedWrongFalsely : Prop := planMovedRow.holds Try.pinned (OpenSpec.ofChange planMovedWrong)

/-- 'fringelaw43.PlanNames': WHATEVER THE INPUT: true; the input reads as it did. -/
def planNamesSpec : ChangeSpec := { name := "planNames", fn := fun _ => fun
  | [] => { results := [.lit (.bool true)], args := [] }
  | _ => none }
def planNamesRow : OpenClaim := { program := "ytelmcaenemjppaa", sum := "7b275df06d459540a5a838da6e99db618f9fe979e1072005aee8ee1a7001d2f5", func := "fringe/fringelaw43.PlanNames", spec := "planNames", unfollowed := true, recurses := true, apart := false }
def PlanNamesSaid : Prop := planNamesRow.holds Try.pinned (OpenSpec.ofChange planNamesSpec)

/-- ITS FALSE NEIGHBOUR: 'it returns false'. Refute it at one input. -/
def planNamesWrong : ChangeSpec := { name := "planNames", fn := fun _ => fun
  | [] => { results := [.lit (.bool false)], args := [] }
  | _ => none }
def PlanNamesWrongFalsely : Prop := planNamesRow.holds Try.pinned (OpenSpec.ofChange planNamesWrong)

/-- 'fringelaw43.PlanOverrides': WHATEVER THE INPUT: true; the input reads as it did. -/
def planOverridesSpec : ChangeSpec := { name := "planOverrides", fn := fun _ => fun
  | [d1, d2, d3] => { results := [.lit (.bool true)], args := [d1, d2, d3] }
  | _ => none }
def planOverridesRow : OpenClaim := { program := "ytelmcaenemjppaa", sum := "7b275df06d459540a5a838da6e99db618f9fe979e1072005aee8ee1a7001d2f5", func := "fringe/fringelaw43.PlanOverrides", spec := "planOverrides", unfollowed := true, recurses := true, apart := false }
def PlanOverridesSaid : Prop := planOverridesRow.holds Try.pinned (OpenSpec.ofChange planOverridesSpec)

/-- ITS FALSE NEIGHBOUR: 'it returns false'. Refute it at one input. -/
def planOverridesWrong : ChangeSpec := { name := "planOverrides", fn := fun _ => fun
  | [d1, d2, d3] => { results := [.lit (.bool false)], args := [d1, d2, d3] }
  | _ => none }
def PlanOverridesWrongFalsely : Prop := planOverridesRow.holds Try.pinned (OpenSpec.ofChange planOverridesWrong)

/- THE SECOND FORM. 'bulk': how many values and letters a reading holds, each counted each time it is reached (what is shared counts as often as it is met; a slice's spare places count too). A statement '..UptoSaid' is the law's where the arguments, and the package variables that the reading takes, are together of bulk at most 1048576: NARROWER than '..Said'. Prove '..Said' where nothing that the law and all that it calls make is longer than what came in: it says more and counts as full. Else prove '..UptoSaid'. A law counts once. -/
mutual
def uptoBulk {H : Type} : DataW H → Nat
  | .lit (.string bytes) => bytes.length + 1
  | .lit _ => 1
  | .nil => 1
  | .ptr d => uptoBulk d + 1
  | .slice elems spare => uptoBulkAll elems + uptoBulkAll spare + 1
  | .agg parts => uptoBulkAll parts + 1
  | .iface _ d => uptoBulk d + 1
  | .map entries => uptoBulkEntries entries + 1
  | .held _ => 1
def uptoBulkAll {H : Type} : List (DataW H) → Nat
  | [] => 0
  | d :: r => uptoBulk d + uptoBulkAll r
def uptoBulkEntries {H : Type} : List (Lit × DataW H) → Nat
  | [] => 0
  | x :: r => uptoBulkEntry x + uptoBulkEntries r
def uptoBulkEntry {H : Type} : Lit × DataW H → Nat
  | (.string bytes, d) => bytes.length + uptoBulk d + 1
  | (_, d) => uptoBulk d + 1
 end
def uptoSmall : (H : Type) → List (DataW H) → Bool := fun _ ds => decide (uptoBulkAll ds ≤ 1048576)
def OpenSpec.upto (s : _root_.Go.ChangeSpec) : _root_.Go.OpenSpec := { _root_.Go.OpenSpec.ofChange s with cond := some uptoSmall }

/-- 'fringelaw42.QueueServes', WHERE WHAT IT READS IS OF BULK AT MOST 1048576: true; the input reads as it did. -/
def queueServesUptoRow : OpenClaim := { program := "ytelmcaenemjppaa", sum := "7b275df06d459540a5a838da6e99db618f9fe979e1072005aee8ee1a7001d2f5", func := "fringe/fringelaw42.QueueServes", spec := "queueServes", unfollowed := true, recurses := true, apart := false, narrowed := true }
def QueueServesUptoSaid : Prop := queueServesUptoRow.holds Try.pinned (OpenSpec.upto queueServesSpec)

/-- 'fringelaw42.QueueShares', WHERE WHAT IT READS IS OF BULK AT MOST 1048576: true; the input reads as it did. -/
def queueSharesUptoRow : OpenClaim := { program := "ytelmcaenemjppaa", sum := "7b275df06d459540a5a838da6e99db618f9fe979e1072005aee8ee1a7001d2f5", func := "fringe/fringelaw42.QueueShares", spec := "queueShares", unfollowed := true, recurses := true, apart := false, narrowed := true }
def QueueSharesUptoSaid : Prop := queueSharesUptoRow.holds Try.pinned (OpenSpec.upto queueSharesSpec)

/-- 'fringelaw42.QueueParts', WHERE WHAT IT READS IS OF BULK AT MOST 1048576: true; the input reads as it did. -/
def queuePartsUptoRow : OpenClaim := { program := "ytelmcaenemjppaa", sum := "7b275df06d459540a5a838da6e99db618f9fe979e1072005aee8ee1a7001d2f5", func := "fringe/fringelaw42.QueueParts", spec := "queueParts", unfollowed := true, recurses := true, apart := false, narrowed := true }
def QueuePartsUptoSaid : Prop := queuePartsUptoRow.holds Try.pinned (OpenSpec.upto queuePartsSpec)

/-- 'fringelaw42.QueueNames', WHERE WHAT IT READS IS OF BULK AT MOST 1048576: true; the input reads as it did. -/
def queueNamesUptoRow : OpenClaim := { program := "ytelmcaenemjppaa", sum := "7b275df06d459540a5a838da6e99db618f9fe979e1072005aee8ee1a7001d2f5", func := "fringe/fringelaw42.QueueNames", spec := "queueNames", unfollowed := true, recurses := true, apart := false, narrowed := true }
def QueueNamesUptoSaid : Prop := queueNamesUptoRow.holds Try.pinned (OpenSpec.upto queueNamesSpec)

/-- 'fringelaw42.QueueWaits', WHERE WHAT IT READS IS OF BULK AT MOST 1048576: true; the input reads as it did. -/
def queueWaitsUptoRow : OpenClaim := { program := "ytelmcaenemjppaa", sum := "7b275df06d459540a5a838da6e99db618f9fe979e1072005aee8ee1a7001d2f5", func := "fringe/fringelaw42.QueueWaits", spec := "queueWaits", unfollowed := true, recurses := true, apart := false, narrowed := true }
def QueueWaitsUptoSaid : Prop := queueWaitsUptoRow.holds Try.pinned (OpenSpec.upto queueWaitsSpec)

/-- 'fringelaw42.QueueLevel', WHERE WHAT IT READS IS OF BULK AT MOST 1048576: true; the input reads as it did. -/
def queueLevelUptoRow : OpenClaim := { program := "ytelmcaenemjppaa", sum := "7b275df06d459540a5a838da6e99db618f9fe979e1072005aee8ee1a7001d2f5", func := "fringe/fringelaw42.QueueLevel", spec := "queueLevel", unfollowed := true, recurses := true, apart := false, narrowed := true }
def QueueLevelUptoSaid : Prop := queueLevelUptoRow.holds Try.pinned (OpenSpec.upto queueLevelSpec)

/-- 'fringelaw43.PlanTells', WHERE WHAT IT READS IS OF BULK AT MOST 1048576: true; the input reads as it did. -/
def planTellsUptoRow : OpenClaim := { program := "ytelmcaenemjppaa", sum := "7b275df06d459540a5a838da6e99db618f9fe979e1072005aee8ee1a7001d2f5", func := "fringe/fringelaw43.PlanTells", spec := "planTells", unfollowed := true, recurses := true, apart := false, narrowed := true }
def PlanTellsUptoSaid : Prop := planTellsUptoRow.holds Try.pinned (OpenSpec.upto planTellsSpec)

/-- 'fringelaw43.PlanFewer', WHERE WHAT IT READS IS OF BULK AT MOST 1048576: true; the input reads as it did. -/
def planFewerUptoRow : OpenClaim := { program := "ytelmcaenemjppaa", sum := "7b275df06d459540a5a838da6e99db618f9fe979e1072005aee8ee1a7001d2f5", func := "fringe/fringelaw43.PlanFewer", spec := "planFewer", unfollowed := true, recurses := true, apart := false, narrowed := true }
def PlanFewerUptoSaid : Prop := planFewerUptoRow.holds Try.pinned (OpenSpec.upto planFewerSpec)

/-- 'fringelaw43.PlanMoved', WHERE WHAT IT READS IS OF BULK AT MOST 1048576: true; the input reads as it did. -/
def planMovedUptoRow : OpenClaim := { program := "ytelmcaenemjppaa", sum := "7b275df06d459540a5a838da6e99db618f9fe979e1072005aee8ee1a7001d2f5", func := "fringe/fringelaw43.PlanMoved", spec := "planMoved", unfollowed := true, recurses := true, apart := false, narrowed := true }
def PlanMovedUptoSaid : Prop := planMovedUptoRow.holds Try.pinned (OpenSpec.upto planMovedSpec)

/-- 'fringelaw43.PlanNames', WHERE WHAT IT READS IS OF BULK AT MOST 1048576: true; the input reads as it did. -/
def planNamesUptoRow : OpenClaim := { program := "ytelmcaenemjppaa", sum := "7b275df06d459540a5a838da6e99db618f9fe979e1072005aee8ee1a7001d2f5", func := "fringe/fringelaw43.PlanNames", spec := "planNames", unfollowed := true, recurses := true, apart := false, narrowed := true }
def PlanNamesUptoSaid : Prop := planNamesUptoRow.holds Try.pinned (OpenSpec.upto planNamesSpec)

/-- 'fringelaw43.PlanOverrides', WHERE WHAT IT READS IS OF BULK AT MOST 1048576: true; the input reads as it did. -/
def planOverridesUptoRow : OpenClaim := { program := "ytelmcaenemjppaa", sum := "7b275df06d459540a5a838da6e99db618f9fe979e1072005aee8ee1a7001d2f5", func := "fringe/fringelaw43.PlanOverrides", spec := "planOverrides", unfollowed := true, recurses := true, apart := false, narrowed := true }
def PlanOverridesUptoSaid : Prop := planOverridesUptoRow.holds Try.pinned (OpenSpec.upto planOverridesSpec)

end Rows
end Go.Proofs.Ytelmcaenemjppaa
