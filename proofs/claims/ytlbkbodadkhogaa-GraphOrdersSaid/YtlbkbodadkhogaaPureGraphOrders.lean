/- The plain law GraphOrders. -/
import Derived.Test.YtlbkbodadkhogaaPg
import Derived.Test.YtlbkbodadkhogaaX5
import Derived.Test.YtlbkbodadkhogaaX6
import Derived.Test.YtlbkbodadkhogaaX15
import Derived.Test.YtlbkbodadkhogaaX18
import Derived.Test.YtlbkbodadkhogaaX19
import Derived.Test.YtlbkbodadkhogaaArgs
namespace Go.Proofs.Ytlbkbodadkhogaa.Pure
open Go.RowKit Go.Proofs.Ytlbkbodadkhogaa.X Go.Proofs.YtlbkbodadkhogaaW.PrintWords
set_option linter.unusedVariables false
theorem OrdIs.len {N : Nat} {l : List S46} {r : List Int × Int} (h : OrdIs N l r) (hN : N ≤ 64) : r.1.length ≤ 1000 := by
  obtain ⟨c, out, h1, e⟩ := h
  have := pigeon N out h1.nod h1.rng
  rw [e]
  split
  · simp
  · simp only; omega
theorem GraphOrders (n : Int) (l : List S46) (_ : W24 ⟨n, l⟩) : ∃ k, dancestudiolaw09_GraphOrders.f k n l = some true := by
  refine Ev.rounds ?_
  unfold dancestudiolaw09_GraphOrders.f
  refine Ev.bind (light_ev n l) ?_
  by_cases hlt : light n l = true
  · refine Ev.congr (fun k => if_pos hlt) ?_
    have key : ∀ r : List Int × Int, r.1.length ≤ 1000 → graph_order n l = some r → Ev (fun k => dancestudioref09_Order.f k n l) r →
        Ev (fun k => (graph_Order.f n l).bind fun bt218 => ((dancestudioref09_Order.f k n l).bind fun bt222 => ((dancestudioref09_Ints.f k bt218.1 bt222.1).bind fun t226 => (if t226 = true then (if bt218.2 = bt222.2 then ((dancestudiolaw09_awake.f).bind fun t227 => (some t227)) else (some false)) else (some false))))) true := by
      intro r hr h1 h2
      refine Ev.congr (fun k => by rw [show graph_Order.f n l = some r from h1, Option.bind_some]) ?_
      refine Ev.bind h2 (Ev.bind (ints_ev r.1 r.1 (by omega)) ?_)
      exact Ev.congr (f := fun _ => some true) (fun k => by rw [if_pos (by simp), if_pos rfl, aw_f]; rfl) (Ev.now _)
    by_cases hz : gchk n l = 0
    · obtain ⟨N, hn, hN, hl, ho⟩ := ok_of hz
      obtain ⟨r, r1, r2, r3⟩ := order_ev hn hN hl ho hz
      exact key r (r1.len hN) r2 r3
    · obtain ⟨p1, p2⟩ := order_bad hz
      exact key _ (by simp) p1 p2
  · exact Ev.congr (f := fun _ => some true) (fun k => by rw [if_neg hlt, aw_f]; rfl) (Ev.now _)
end Go.Proofs.Ytlbkbodadkhogaa.Pure
