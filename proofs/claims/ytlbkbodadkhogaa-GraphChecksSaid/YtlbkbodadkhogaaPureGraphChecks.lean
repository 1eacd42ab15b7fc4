/- The plain law GraphChecks. -/
import Derived.Test.YtlbkbodadkhogaaPa
import Derived.Test.YtlbkbodadkhogaaX16
import Derived.Test.YtlbkbodadkhogaaArgs
namespace Go.Proofs.Ytlbkbodadkhogaa.Pure
open Go.RowKit Go.Proofs.Ytlbkbodadkhogaa.X Go.Proofs.YtlbkbodadkhogaaW.PrintWords
theorem GraphChecks (a0_0 : Int) (a0_1 : List S46) (_ : W24 ⟨a0_0, a0_1⟩) : ∃ k, dancestudiolaw09_GraphChecks.f k a0_0 a0_1 = some true := by
  refine Ev.rounds ?_
  unfold dancestudiolaw09_GraphChecks.f
  by_cases c : (a0_1.length : Int) > 600
  · exact Ev.congr (f := fun _ => some true) (fun k => by rw [if_pos c, aw_f]; rfl) (Ev.now _)
  · refine Ev.congr (fun k => if_neg c) (Ev.bind (gchk_ev a0_0 a0_1) (Ev.bind (rchk_ev a0_0 a0_1) ?_))
    exact Ev.congr (f := fun _ => some true) (fun k => by rw [if_pos rfl, aw_f]; rfl) (Ev.now _)
end Go.Proofs.Ytlbkbodadkhogaa.Pure
