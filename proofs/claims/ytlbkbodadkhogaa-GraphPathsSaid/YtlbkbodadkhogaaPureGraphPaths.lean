/- The plain law GraphPaths. -/
import Derived.Test.YtlbkbodadkhogaaPl
import Derived.Test.YtlbkbodadkhogaaX6
import Derived.Test.YtlbkbodadkhogaaX8
import Derived.Test.YtlbkbodadkhogaaX9
import Derived.Test.YtlbkbodadkhogaaX10
import Derived.Test.YtlbkbodadkhogaaX15
import Derived.Test.YtlbkbodadkhogaaX20
import Derived.Test.YtlbkbodadkhogaaX23
import Derived.Test.YtlbkbodadkhogaaX24
import Derived.Test.YtlbkbodadkhogaaArgs
namespace Go.Proofs.Ytlbkbodadkhogaa.Pure
open Go.RowKit Go.Proofs.Ytlbkbodadkhogaa.X Go.Proofs.YtlbkbodadkhogaaW.PrintWords
theorem GraphPaths (n : Int) (l : List S46) (s t : Int) (_ : W24 ⟨n, l⟩) (_ : (Lit.int .i64 s).wf = true) (_ : (Lit.int .i64 t).wf = true) : ∃ k, dancestudiolaw09_GraphPaths.f k n l s t = some true := by
  refine Ev.rounds ?_
  unfold dancestudiolaw09_GraphPaths.f
  refine Ev.bind (light_ev n l) ?_
  by_cases hlt : light n l = true
  · have key : ∀ (A : List Bool × Int) (P : List Int × Int), A.1.length ≤ 1000 → P.1.length ≤ 1000 → Ev (fun k => graph_Reach.f k n l s) A → Ev (fun k => dancestudioref09_Reach.f k n l s) A → Ev (fun k => graph_Path.f k n l s t) P → Ev (fun k => dancestudioref09_Path.f k n l s t) P →
        Ev (fun k => (graph_Reach.f k n l s).bind fun bt274 => ((dancestudioref09_Reach.f k n l s).bind fun bt278 => ((graph_Path.f k n l s t).bind fun bt282 => ((dancestudioref09_Path.f k n l s t).bind fun bt286 => ((dancestudioref09_Bools.f k bt274.1 bt278.1).bind fun t290 => (if t290 = true then (if bt274.2 = bt278.2 then ((dancestudioref09_Ints.f k bt282.1 bt286.1).bind fun t291 => (if t291 = true then (if bt282.2 = bt286.2 then ((dancestudiolaw09_awake.f).bind fun t292 => (some t292)) else (some false)) else (some false))) else (some false)) else (some false))))))) true := by
      intro A P hA hP h1 h2 h3 h4
      refine Ev.bind h1 (Ev.bind h2 (Ev.bind h3 (Ev.bind h4 (Ev.bind (bools_ev A.1 A.1 (by omega)) ?_))))
      refine Ev.congr (fun k => by rw [if_pos (by simp), if_pos rfl]) (Ev.bind (ints_ev P.1 P.1 (by omega)) ?_)
      exact Ev.congr (f := fun _ => some true) (fun k => by rw [if_pos (by simp), if_pos rfl, aw_f]; rfl) (Ev.now _)
    refine Ev.congr (fun k => if_pos hlt) ?_
    by_cases hz : gchk n l = 0
    · obtain ⟨N, hn, hN, hl, ho⟩ := ok_of hz
      by_cases hs : 0 ≤ s ∧ s < n
      · have hs' : 0 ≤ s ∧ s < (N : Int) := by rw [← hn]; exact hs
        obtain ⟨A, a1, a2⟩ := greach_ev hn hN hl ho hz s hs'
        obtain ⟨B, b1, b2⟩ := rreach_ev hn hN hl ho hz s hs'
        obtain rfl := a1.one b1
        by_cases ht : 0 ≤ t ∧ t < n
        · obtain ⟨F, r, f1, f2, f3, f4⟩ := path_ev hn hN hl ho hz s t hs' (by rw [← hn]; exact ht)
          refine key (A, 0) r (by simp only; rw [a1.len]; omega) ?_ a2 b2 f3 f4
          rcases f2 with ⟨_, e⟩ | ⟨d, P, e1, e2, e3, e⟩
          · rw [e]; simp
          · rw [e]
            have := f1.small ho (by rw [← hn]; exact ht) hs'.1 hs'.2
            simp only [List.length_cons]; omega
        · obtain ⟨p1, p2⟩ := path_bad n l s t (.inr (.inr ht))
          exact key (A, 0) _ (by simp only; rw [a1.len]; omega) (by simp) a2 b2 p1 p2
      · obtain ⟨p1, p2⟩ := path_bad n l s t (.inr (.inl hs))
        exact key _ _ (by simp) (by simp) (greach_bad n l s (.inr hs)) (rreach_bad n l s (.inr hs)) p1 p2
    · obtain ⟨p1, p2⟩ := path_bad n l s t (.inl hz)
      exact key _ _ (by simp) (by simp) (greach_bad n l s (.inl hz)) (rreach_bad n l s (.inl hz)) p1 p2
  · exact Ev.congr (f := fun _ => some true) (fun k => by rw [if_neg hlt, aw_f]; rfl) (Ev.now _)
end Go.Proofs.Ytlbkbodadkhogaa.Pure
