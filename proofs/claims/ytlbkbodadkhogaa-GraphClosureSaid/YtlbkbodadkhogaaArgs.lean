/- How the laws' arguments of this seat lie in memory. Lemmas. -/
import Derived.Test.YtlbkbodadkhogaaOpen
import Derived.Test.YtlbkbodadkhogaaX0
import Derived.KernelRfl
namespace Go.Proofs.Ytlbkbodadkhogaa.X
open Go.ChangeShapes Go.WideShapes Go.RowKit Go.Proofs.YtlbkbodadkhogaaW.PrintWords
set_option linter.unusedVariables false
set_option linter.unusedSimpArgs false
def W46 (x : S46) : Prop := ((Lit.int .i64 x.f0).wf = true) ∧ ((Lit.int .i64 x.f1).wf = true)
theorem opens46 : Opens Try.prog k46 W46 46 := by
  intro H enc w spare held fuel cs x h
  obtain ⟨xs, n, -, -, hlen, hxl, hf⟩ := DataW.trod_struct Try.underlying46 h
  have hlen' : cs.length = 2 := hlen.trans (by kernel_rfl)
  match cs, hlen' with
  | [c0, c1], _ =>
    obtain ⟨a0, e0, i0⟩ := opens_field 0 hf hxl rfl (opens_int Try.underlying3)
    replace e0 : (Kd.int .i64).K w a0 [c0] := e0
    obtain rfl : c0 = .int .i64 a0 := by simpa using (show [c0] = [_] from e0)
    obtain ⟨a1, e1, i1⟩ := opens_field 1 hf hxl rfl (opens_int Try.underlying3)
    replace e1 : (Kd.int .i64).K w a1 [c1] := e1
    obtain rfl : c1 = .int .i64 a1 := by simpa using (show [c1] = [_] from e1)
    exact ⟨⟨a0, a1⟩, k46_mk w _, i0, i1⟩
def W24 (x : S24) : Prop := ((Lit.int .i64 x.f0).wf = true) ∧ (∀ y ∈ x.f1, W46 y)
theorem opens24 : Opens Try.prog k24 W24 24 := by
  intro H enc w spare held fuel cs x h
  obtain ⟨xs, n, -, -, hlen, hxl, hf⟩ := DataW.trod_struct Try.underlying24 h
  have hlen' : cs.length = 2 := hlen.trans (by kernel_rfl)
  match cs, hlen' with
  | [c0, c1], _ =>
    obtain ⟨a0, e0, i0⟩ := opens_field 0 hf hxl rfl (opens_int Try.underlying3)
    replace e0 : (Kd.int .i64).K w a0 [c0] := e0
    obtain rfl : c0 = .int .i64 a0 := by simpa using (show [c0] = [_] from e0)
    obtain ⟨a1, e1, i1⟩ := opens_field 1 hf hxl rfl (opens_slice z46 Try.underlying22 (by kernel_rfl) opens46)
    replace e1 : (Kd.slice 46 k46).K w a1 [c1] := e1
    obtain ⟨A1, cc1, ev1, hl1, hC1⟩ := e1
    obtain rfl : c1 = .slice A1 a1.length cc1 := by simpa using ev1
    exact ⟨⟨a0, a1⟩, k24_mk w _ hl1 hC1, i0, i1⟩
end Go.Proofs.Ytlbkbodadkhogaa.X
