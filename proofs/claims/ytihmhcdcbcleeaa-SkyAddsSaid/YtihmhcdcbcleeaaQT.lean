/- The kinds of the arguments' types: what is read as data at a type is of its kind. -/
import Derived.Test.YtihmhcdcbcleeaaQ0
import Derived.Test.YtihmhcdcbcleeaaOpen
import Derived.KernelRfl
namespace Go.Proofs.Ytihmhcdcbcleeaa.Q
open Go.RowKit Go.Proofs.YtihmhcdcbcleeaaW.PrintWords Go.Proofs.Ytihmhcdcbcleeaa.Open
set_option maxRecDepth 100000
theorem op3 : Opens Try.prog 3 (Kd.int .i64) (fun a => (Lit.int .i64 a).wf = true) := Opens.int Try.underlying3
def G33 (x : S33) : Prop := ((Lit.int .i64 x.f0).wf = true) ∧ ((Lit.int .i64 x.f1).wf = true) ∧ ((Lit.int .i64 x.f2).wf = true)
theorem op33 : Opens Try.prog 33 k33 G33 := by
  have h := Opens.struct (P := Try.prog) (t := 33) (f := (fun x : S33 => (x.f0, x.f1, x.f2))) (g := fun a => ⟨a.1, a.2.1, a.2.2⟩) (fun _ => rfl) Try.underlying33 (by kernel_rfl) (OpensF.cons (off := 0) (off' := 1) rfl (by kernel_rfl) rfl (by decide) op3 (OpensF.cons (off := 1) (off' := 2) rfl (by kernel_rfl) rfl (by decide) op3 (OpensF.one (off := 2) rfl (by kernel_rfl) op3)))
  exact h
def GL33 (l : List (S33)) : Prop := l.length * 24 ≤ 140737488351232 ∧ l.length ≤ 9223372036854775807 ∧ ∀ x ∈ l, G33 x
theorem op22 : Opens Try.prog 22 (Kd.slice 33 k33) GL33 := by
  have h := Opens.slice (P := Try.prog) (t := 22) Try.underlying22 (by kernel_rfl) op33
  rw [show Try.prog.bytesOf 33 = 24 from by kernel_rfl] at h
  exact h
def G41 (x : S41) : Prop := ((Lit.int .i64 x.f0).wf = true) ∧ ((Lit.int .i64 x.f1).wf = true)
theorem op41 : Opens Try.prog 41 k41 G41 := by
  have h := Opens.struct (P := Try.prog) (t := 41) (f := (fun x : S41 => (x.f0, x.f1))) (g := fun a => ⟨a.1, a.2⟩) (fun _ => rfl) Try.underlying41 (by kernel_rfl) (OpensF.cons (off := 0) (off' := 1) rfl (by kernel_rfl) rfl (by decide) op3 (OpensF.one (off := 1) rfl (by kernel_rfl) op3))
  exact h
def GL41 (l : List (S41)) : Prop := l.length * 16 ≤ 140737488351232 ∧ l.length ≤ 9223372036854775807 ∧ ∀ x ∈ l, G41 x
theorem op35 : Opens Try.prog 35 (Kd.slice 41 k41) GL41 := by
  have h := Opens.slice (P := Try.prog) (t := 35) Try.underlying35 (by kernel_rfl) op41
  rw [show Try.prog.bytesOf 41 = 16 from by kernel_rfl] at h
  exact h
end Go.Proofs.Ytihmhcdcbcleeaa.Q
