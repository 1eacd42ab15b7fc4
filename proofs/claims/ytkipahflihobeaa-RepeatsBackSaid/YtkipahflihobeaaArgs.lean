/- How the laws' arguments of this seat lie in memory. Lemmas. -/
import Derived.Test.YtkipahflihobeaaOpen
import Derived.Test.YtkipahflihobeaaX0
import Derived.KernelRfl
namespace Go.Proofs.Ytkipahflihobeaa.X
open Go.ChangeShapes Go.WideShapes Go.RowKit Go.Proofs.YtkipahflihobeaaW.PrintWords
set_option linter.unusedVariables false
set_option linter.unusedSimpArgs false
def W43 (x : S43) : Prop := ((Lit.int .i64 x.f0).wf = true) ∧ ((Lit.int .i64 x.f1).wf = true) ∧ ((Lit.int .i64 x.f2).wf = true) ∧ ((Lit.int .i64 x.f3).wf = true) ∧ ((Lit.int .i64 x.f4).wf = true) ∧ ((Lit.int .i64 x.f5).wf = true) ∧ ((Lit.int .i64 x.f6).wf = true)
theorem opens43 : Opens Try.prog k43 W43 43 := by
  intro H enc w spare held fuel cs x h
  obtain ⟨xs, n, -, -, hlen, hxl, hf⟩ := DataW.trod_struct Try.underlying43 h
  have hlen' : cs.length = 7 := hlen.trans (by kernel_rfl)
  match cs, hlen' with
  | [c0, c1, c2, c3, c4, c5, c6], _ =>
    obtain ⟨a0, e0, i0⟩ := opens_field 0 hf hxl rfl (opens_int Try.underlying3)
    replace e0 : (Kd.int .i64).K w a0 [c0] := e0
    obtain rfl : c0 = .int .i64 a0 := by simpa using (show [c0] = [_] from e0)
    obtain ⟨a1, e1, i1⟩ := opens_field 1 hf hxl rfl (opens_int Try.underlying3)
    replace e1 : (Kd.int .i64).K w a1 [c1] := e1
    obtain rfl : c1 = .int .i64 a1 := by simpa using (show [c1] = [_] from e1)
    obtain ⟨a2, e2, i2⟩ := opens_field 2 hf hxl rfl (opens_int Try.underlying3)
    replace e2 : (Kd.int .i64).K w a2 [c2] := e2
    obtain rfl : c2 = .int .i64 a2 := by simpa using (show [c2] = [_] from e2)
    obtain ⟨a3, e3, i3⟩ := opens_field 3 hf hxl rfl (opens_int Try.underlying3)
    replace e3 : (Kd.int .i64).K w a3 [c3] := e3
    obtain rfl : c3 = .int .i64 a3 := by simpa using (show [c3] = [_] from e3)
    obtain ⟨a4, e4, i4⟩ := opens_field 4 hf hxl rfl (opens_int Try.underlying3)
    replace e4 : (Kd.int .i64).K w a4 [c4] := e4
    obtain rfl : c4 = .int .i64 a4 := by simpa using (show [c4] = [_] from e4)
    obtain ⟨a5, e5, i5⟩ := opens_field 5 hf hxl rfl (opens_int Try.underlying3)
    replace e5 : (Kd.int .i64).K w a5 [c5] := e5
    obtain rfl : c5 = .int .i64 a5 := by simpa using (show [c5] = [_] from e5)
    obtain ⟨a6, e6, i6⟩ := opens_field 6 hf hxl rfl (opens_int Try.underlying3)
    replace e6 : (Kd.int .i64).K w a6 [c6] := e6
    obtain rfl : c6 = .int .i64 a6 := by simpa using (show [c6] = [_] from e6)
    exact ⟨⟨a0, a1, a2, a3, a4, a5, a6⟩, k43_mk w _, i0, i1, i2, i3, i4, i5, i6⟩
end Go.Proofs.Ytkipahflihobeaa.X
