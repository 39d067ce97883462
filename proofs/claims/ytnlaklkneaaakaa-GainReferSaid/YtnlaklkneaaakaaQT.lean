/- The kinds of the arguments' types: what is read as data at a type is of its kind. -/
import Derived.Test.YtnlaklkneaaakaaQ0
import Derived.Test.YtnlaklkneaaakaaOpen
import Derived.KernelRfl
namespace Go.Proofs.Ytnlaklkneaaakaa.Q
open Go.RowKit Go.Proofs.YtnlaklkneaaakaaW.PrintWords Go.Proofs.Ytnlaklkneaaakaa.Open
set_option maxRecDepth 100000
theorem op2 : Opens Try.prog 2 (Kd.int .i64) (fun a => (Lit.int .i64 a).wf = true) := Opens.int Try.underlying2
def G36 (x : S36) : Prop := ((Lit.int .i64 x.f0).wf = true) ∧ ((Lit.int .i64 x.f1).wf = true) ∧ ((Lit.int .i64 x.f2).wf = true)
theorem op36 : Opens Try.prog 36 k36 G36 := by
  have h := Opens.struct (P := Try.prog) (t := 36) (f := (fun x : S36 => (x.f0, x.f1, x.f2))) (g := fun a => ⟨a.1, a.2.1, a.2.2⟩) (fun _ => rfl) Try.underlying36 (by kernel_rfl) (OpensF.cons (off := 0) (off' := 1) rfl (by kernel_rfl) rfl (by decide) op2 (OpensF.cons (off := 1) (off' := 2) rfl (by kernel_rfl) rfl (by decide) op2 (OpensF.one (off := 2) rfl (by kernel_rfl) op2)))
  exact h
def GL36 (l : List (S36)) : Prop := l.length * 24 ≤ 140737488351232 ∧ l.length ≤ 9223372036854775807 ∧ ∀ x ∈ l, G36 x
theorem op22 : Opens Try.prog 22 (Kd.slice 36 k36) GL36 := by
  have h := Opens.slice (P := Try.prog) (t := 22) Try.underlying22 (by kernel_rfl) op36
  rw [show Try.prog.bytesOf 36 = 24 from by kernel_rfl] at h
  exact h
theorem op3 : Opens Try.prog 3 (Kd.int .i64) (fun a => (Lit.int .i64 a).wf = true) := Opens.int Try.underlying3
def G38 (x : S38) : Prop := ((Lit.int .i64 x.f0).wf = true) ∧ ((Lit.int .i64 x.f1).wf = true) ∧ (G36 x.f2) ∧ ((Lit.int .i64 x.f3).wf = true)
theorem op38 : Opens Try.prog 38 k38 G38 := by
  have h := Opens.struct (P := Try.prog) (t := 38) (f := (fun x : S38 => (x.f0, x.f1, x.f2, x.f3))) (g := fun a => ⟨a.1, a.2.1, a.2.2.1, a.2.2.2⟩) (fun _ => rfl) Try.underlying38 (by kernel_rfl) (OpensF.cons (off := 0) (off' := 1) rfl (by kernel_rfl) rfl (by decide) op3 (OpensF.cons (off := 1) (off' := 2) rfl (by kernel_rfl) rfl (by decide) op3 (OpensF.cons (off := 2) (off' := 5) rfl (by kernel_rfl) rfl (by decide) op36 (OpensF.one (off := 5) rfl (by kernel_rfl) op3))))
  exact h
def GL38 (l : List (S38)) : Prop := l.length * 48 ≤ 140737488351232 ∧ l.length ≤ 9223372036854775807 ∧ ∀ x ∈ l, G38 x
theorem op23 : Opens Try.prog 23 (Kd.slice 38 k38) GL38 := by
  have h := Opens.slice (P := Try.prog) (t := 23) Try.underlying23 (by kernel_rfl) op38
  rw [show Try.prog.bytesOf 38 = 48 from by kernel_rfl] at h
  exact h
end Go.Proofs.Ytnlaklkneaaakaa.Q
