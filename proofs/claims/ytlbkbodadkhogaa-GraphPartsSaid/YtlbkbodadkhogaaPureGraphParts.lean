/- The plain law GraphParts. -/
import Derived.Test.YtlbkbodadkhogaaPm
import Derived.Test.YtlbkbodadkhogaaX11
import Derived.Test.YtlbkbodadkhogaaX26
import Derived.Test.YtlbkbodadkhogaaX27
import Derived.Test.YtlbkbodadkhogaaArgs
namespace Go.Proofs.Ytlbkbodadkhogaa.Pure
open Go.RowKit Go.Proofs.Ytlbkbodadkhogaa.X Go.Proofs.YtlbkbodadkhogaaW.PrintWords
set_option linter.unusedVariables false
theorem rdL4 (P : List (List Int)) (i : Nat) (h : i < P.length) : rd_L4 P (i : Int) = P[i] := by simp [rd_L4, h]
theorem gpa_l0 (P : List (List Int)) (hP : P.length ≤ 1000) (hp : ∀ p ∈ P, p.length ≤ 1000) : ∀ (e i : Nat), P.length - i = e → i ≤ P.length → Ev (fun k => dancestudiolaw09_GraphParts.l0 k P P (i : Int)) true := by
  intro e
  induction e with
  | zero =>
    intro i he hi
    refine Ev.step (f := fun _ => some true) (fun k => ?_) (Ev.now _)
    simp only [dancestudiolaw09_GraphParts.l0]
    rw [if_neg (by omega), aw_f]
    rfl
  | succ e ih =>
    intro i he hi
    have hlt : i < P.length := by omega
    have := hp P[i] (List.getElem_mem _)
    refine Ev.step (fun k => by simp only [dancestudiolaw09_GraphParts.l0]; rw [if_pos (by omega), if_pos (by omega), if_pos (by omega), rdL4 P i hlt]) (Ev.bind (ints_ev P[i] P[i] (by omega)) ?_)
    exact Ev.congr (fun k => by rw [if_pos (by simp), w64 (by omega)]) (ih (i + 1) (by omega) (by omega))
theorem GraphParts (n : Int) (l : List S46) (_ : W24 ⟨n, l⟩) : ∃ k, dancestudiolaw09_GraphParts.f k n l = some true := by
  refine Ev.rounds ?_
  unfold dancestudiolaw09_GraphParts.f
  refine Ev.bind (light_ev n l) ?_
  by_cases hlt : light n l = true
  · refine Ev.congr (fun k => if_pos hlt) ?_
    have key : ∀ r : List (List Int) × Int, r.1.length ≤ 1000 → (∀ p ∈ r.1, p.length ≤ 1000) → Ev (fun k => graph_Parts.f k n l) r → Ev (fun k => dancestudioref09_Parts.f k n l) r →
        Ev (fun k => (graph_Parts.f k n l).bind fun bt324 => ((dancestudioref09_Parts.f k n l).bind fun bt328 => (if bt324.2 = bt328.2 then (dancestudiolaw09_GraphParts.j0 k bt324.1 bt328.1 ((bt324.1.length : Int) != (bt328.1.length : Int))) else (dancestudiolaw09_GraphParts.j0 k bt324.1 bt328.1 true)))) true := by
      intro r hr hp h1 h2
      refine Ev.bind h1 (Ev.bind h2 ?_)
      refine Ev.congr (f := fun k => dancestudiolaw09_GraphParts.j0 k r.1 r.1 false) (fun k => by rw [if_pos rfl]; simp) ?_
      refine Ev.step (f := fun k => dancestudiolaw09_GraphParts.l0 k r.1 r.1 0) (fun k => ?_) (gpa_l0 r.1 hr hp r.1.length 0 (by omega) (by omega))
      simp only [dancestudiolaw09_GraphParts.j0]
      rw [if_neg (by simp)]
    by_cases hz : gchk n l = 0
    · obtain ⟨N, hn, hN, hl, ho⟩ := ok_of hz
      obtain ⟨b1, b2⟩ := prts_len (mutB l) N N 0 (List.replicate N false) [] (by simp)
      exact key (_, 0) (by simp at b1 ⊢; omega) (fun p hp => by have := b2 p hp; omega) (gparts_ev hn hN hl ho hz) (rparts_ev hn hN hl ho hz)
    · obtain ⟨p1, p2⟩ := parts_bad hz
      exact key _ (by simp) (by simp) p1 p2
  · exact Ev.congr (f := fun _ => some true) (fun k => by rw [if_neg hlt, aw_f]; rfl) (Ev.now _)
end Go.Proofs.Ytlbkbodadkhogaa.Pure
