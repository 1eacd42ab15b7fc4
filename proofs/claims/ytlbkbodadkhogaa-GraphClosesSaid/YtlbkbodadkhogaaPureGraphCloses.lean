/- The plain law GraphCloses. -/
import Derived.Test.YtlbkbodadkhogaaPn
import Derived.Test.YtlbkbodadkhogaaX12
import Derived.Test.YtlbkbodadkhogaaX13
import Derived.Test.YtlbkbodadkhogaaX15
import Derived.Test.YtlbkbodadkhogaaX28
import Derived.Test.YtlbkbodadkhogaaX29
import Derived.Test.YtlbkbodadkhogaaArgs
namespace Go.Proofs.Ytlbkbodadkhogaa.Pure
open Go.RowKit Go.Proofs.Ytlbkbodadkhogaa.X Go.Proofs.YtlbkbodadkhogaaW.PrintWords
set_option linter.unusedVariables false
theorem CloseIs.len (N : Nat) (l : List S46) : (CloseIs N l).2.1.length ≤ 1000 := by
  unfold CloseIs
  split
  · simp only; omega
  · simp
theorem GraphCloses (n : Int) (l : List S46) (_ : W24 ⟨n, l⟩) : ∃ k, dancestudiolaw09_GraphCloses.f k n l = some true := by
  refine Ev.rounds ?_
  unfold dancestudiolaw09_GraphCloses.f
  refine Ev.bind (light_ev n l) ?_
  by_cases hlt : light n l = true
  · refine Ev.congr (fun k => if_pos hlt) ?_
    have key : ∀ r : Int × List S46 × Int, r.2.1.length ≤ 1000 → Ev (fun k => graph_Close.f k n l) r → Ev (fun k => dancestudioref09_Close.f k n l) r →
        Ev (fun k => (graph_Close.f k n l).bind fun bt353 => ((dancestudioref09_Close.f k n l).bind fun bt359 => ((dancestudioref09_Same.f k bt353.1 bt353.2.1 bt359.1 bt359.2.1).bind fun t365 => (if t365 = true then (if bt353.2.2 = bt359.2.2 then ((dancestudiolaw09_awake.f).bind fun t366 => (some t366)) else (some false)) else (some false))))) true := by
      intro r hr h1 h2
      refine Ev.bind h1 (Ev.bind h2 (Ev.bind (same_ev r.1 r.2.1 (by omega)) ?_))
      exact Ev.congr (f := fun _ => some true) (fun k => by rw [if_pos rfl, if_pos rfl, aw_f]; rfl) (Ev.now _)
    by_cases hz : gchk n l = 0
    · obtain ⟨N, hn, hN, hl, ho⟩ := ok_of hz
      exact key _ (CloseIs.len N l) (gclose_ev hn hN hl ho hz) (rclose_ev hn hN hl ho hz)
    · obtain ⟨p1, p2⟩ := close_bad hz
      exact key _ (by simp) p1 p2
  · exact Ev.congr (f := fun _ => some true) (fun k => by rw [if_neg hlt, aw_f]; rfl) (Ev.now _)
end Go.Proofs.Ytlbkbodadkhogaa.Pure
