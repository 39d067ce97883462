/- The kinds of the arguments' types: what is read as data at a type is of its kind. -/
import Derived.Test.YtelmcaenemjppaaQ0
import Derived.Test.YtelmcaenemjppaaOpen
import Derived.KernelRfl
namespace Go.Proofs.Ytelmcaenemjppaa.Q
open Go.RowKit Go.Proofs.YtelmcaenemjppaaW.PrintWords Go.Proofs.Ytelmcaenemjppaa.Open
set_option maxRecDepth 100000
theorem op9 : Opens Try.prog 9 Kd.string (fun a => a.size ≤ 140737488351232) := Opens.string Try.underlying9
theorem op3 : Opens Try.prog 3 (Kd.int .i64) (fun a => (Lit.int .i64 a).wf = true) := Opens.int Try.underlying3
def G42 (x : S42) : Prop := (x.f0.size ≤ 140737488351232) ∧ ((Lit.int .i64 x.f1).wf = true) ∧ ((Lit.int .i64 x.f2).wf = true) ∧ ((Lit.int .i64 x.f3).wf = true)
theorem op42 : Opens Try.prog 42 k42 G42 := by
  have h := Opens.struct (P := Try.prog) (t := 42) (f := (fun x : S42 => (x.f0, x.f1, x.f2, x.f3))) (g := fun a => ⟨a.1, a.2.1, a.2.2.1, a.2.2.2⟩) (fun _ => rfl) Try.underlying42 (by kernel_rfl) (OpensF.cons (off := 0) (off' := 1) rfl (by kernel_rfl) rfl (by decide) op9 (OpensF.cons (off := 1) (off' := 2) rfl (by kernel_rfl) rfl (by decide) op3 (OpensF.cons (off := 2) (off' := 3) rfl (by kernel_rfl) rfl (by decide) op3 (OpensF.one (off := 3) rfl (by kernel_rfl) op3))))
  exact h
def GL42 (l : List (S42)) : Prop := l.length * 40 ≤ 140737488351232 ∧ l.length ≤ 9223372036854775807 ∧ ∀ x ∈ l, G42 x
theorem op22 : Opens Try.prog 22 (Kd.slice 42 k42) GL42 := by
  have h := Opens.slice (P := Try.prog) (t := 22) Try.underlying22 (by kernel_rfl) op42
  rw [show Try.prog.bytesOf 42 = 40 from by kernel_rfl] at h
  exact h
structure S24 where
  f0 : List (S42)
  f1 : Int
  f2 : Int
def k24 : Kd S24 := Kd.iso (Kd.pair (Kd.slice 42 k42) (Kd.pair (Kd.int .i64) (Kd.int .i64))) (fun x : S24 => (x.f0, x.f1, x.f2))
theorem k24_open {w : World} {x : S24} {cs : List Value} (h : k24.K w x cs) : ∃ A0 c0, cs = [.slice A0 x.f0.length c0, .int .i64 x.f1, .int .i64 x.f2] ∧ x.f0.length ≤ c0 ∧ Kd.C k42 w A0 x.f0.length x.f0 := by
  obtain ⟨_, _, rfl, ⟨A0, c0, rfl, l0, g0⟩, ⟨_, _, rfl, rfl, rfl⟩⟩ := h
  exact ⟨A0, c0, rfl, l0, g0⟩
def G24 (x : S24) : Prop := (GL42 x.f0) ∧ ((Lit.int .i64 x.f1).wf = true) ∧ ((Lit.int .i64 x.f2).wf = true)
theorem op24 : Opens Try.prog 24 k24 G24 := by
  have h := Opens.struct (P := Try.prog) (t := 24) (f := (fun x : S24 => (x.f0, x.f1, x.f2))) (g := fun a => ⟨a.1, a.2.1, a.2.2⟩) (fun _ => rfl) Try.underlying24 (by kernel_rfl) (OpensF.cons (off := 0) (off' := 1) rfl (by kernel_rfl) rfl (by decide) op22 (OpensF.cons (off := 1) (off' := 2) rfl (by kernel_rfl) rfl (by decide) op3 (OpensF.one (off := 2) rfl (by kernel_rfl) op3)))
  exact h
def GL3 (l : List Int) : Prop := l.length * 8 ≤ 140737488351232 ∧ l.length ≤ 9223372036854775807 ∧ ∀ x ∈ l, (Lit.int .i64 x).wf = true
theorem op31 : Opens Try.prog 31 (Kd.slice 3 (Kd.int .i64)) GL3 := by
  have h := Opens.slice (P := Try.prog) (t := 31) Try.underlying31 (by kernel_rfl) op3
  rw [show Try.prog.bytesOf 3 = 8 from by kernel_rfl] at h
  exact h
end Go.Proofs.Ytelmcaenemjppaa.Q
