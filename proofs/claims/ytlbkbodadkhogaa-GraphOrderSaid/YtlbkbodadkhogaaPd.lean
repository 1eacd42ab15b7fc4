/- The plain laws of graphs, D: Reach, of the program and of the reference; the reference's distances. -/
import Derived.Test.YtlbkbodadkhogaaPc
import Derived.Test.YtlbkbodadkhogaaX8
namespace Go.Proofs.Ytlbkbodadkhogaa.Pure
open Go.RowKit Go.Proofs.Ytlbkbodadkhogaa.X Go.Proofs.YtlbkbodadkhogaaW.PrintWords
set_option linter.unusedVariables false
theorem ok_of {n : Int} {l : List S46} (h : gchk n l = 0) : ∃ N : Nat, n = (N : Int) ∧ N ≤ 64 ∧ l.length ≤ 512 ∧ Ok N l := by
  obtain ⟨h0, h1, h2, h3⟩ := gchk_ok h
  obtain ⟨N, rfl⟩ := Int.eq_ofNat_of_zero_le h0
  exact ⟨N, rfl, by omega, h2, h3⟩
/-- Which nodes are reached from s. -/
structure RchL (N : Nat) (l : List S46) (s : Int) (B : List Bool) : Prop where
  len : B.length = N
  val : ∀ y : Int, 0 ≤ y → y < N → (rdOf false B y = true ↔ ∃ d, Wk l false s d y)
theorem RchL.one {N : Nat} {l : List S46} {s : Int} {A B : List Bool} (h : RchL N l s A) (k : RchL N l s B) : A = B := by
  apply List.ext_getElem (h.len.trans k.len.symm)
  intro i h1 h2
  have e := (h.val i (by omega) (by have := h.len; omega)).trans (k.val i (by omega) (by have := h.len; omega)).symm
  rw [rdB A i h1, rdB B i h2] at e
  exact Bool.eq_iff_iff.2 e
theorem reach_l0 (F : List Int) (hF : F.length ≤ 100000) : ∀ (e i : Nat), F.length - i = e → i ≤ F.length → ∀ (o : List Bool), o.length ≤ i → Ev (fun k => graph_Reach.l0 k o F (F.length : Int) (i : Int)) (o ++ (F.drop i).map (fun v => decide (v ≥ 0)), 0) := by
  intro e
  induction e with
  | zero =>
    intro i he hi o ho
    rw [List.drop_eq_nil_of_le (by omega)]
    refine Ev.step (f := fun _ => some (o, 0)) (fun k => ?_) (by simpa using Ev.now (o, (0 : Int)))
    simp only [graph_Reach.l0]
    rw [if_neg (by omega)]
  | succ e ih =>
    intro i he hi o ho
    have hlt : i < F.length := by omega
    have hn := ih (i + 1) (by omega) (by omega) (o ++ [decide (F[i] ≥ 0)]) (by simp; omega)
    rw [List.drop_eq_getElem_cons hlt, List.map_cons, show o ++ decide (F[i] ≥ 0) :: (F.drop (i + 1)).map (fun v => decide (v ≥ 0)) = (o ++ [decide (F[i] ≥ 0)]) ++ (F.drop (i + 1)).map (fun v => decide (v ≥ 0)) by simp]
    refine Ev.step (fun k => ?_) hn
    simp only [graph_Reach.l0]
    rw [if_pos (by omega), if_pos (by omega), if_pos (by omega), if_pos (by omega), rdI F i hlt, w64 (by omega)]
theorem greach_ev {n : Int} {l : List S46} {N : Nat} (hn : n = N) (hN : N ≤ 64) (hl : l.length ≤ 512) (ho : Ok N l) (hz : gchk n l = 0) (s : Int) (hs : 0 ≤ s ∧ s < N) : ∃ B, RchL N l s B ∧ Ev (fun k => graph_Reach.f k n l s) (B, 0) := by
  subst hn
  obtain ⟨F, hF, hE⟩ := waves_ev false l ho (by omega) (by omega) s hs
  have h0 := reach_l0 F (by rw [hF.len]; omega) F.length 0 (by omega) (by omega) [] (by simp)
  refine ⟨F.map (fun v => decide (v ≥ 0)), ⟨by simp [hF.len], fun y y0 y1 => ?_⟩, ?_⟩
  · obtain ⟨i, rfl⟩ := Int.eq_ofNat_of_zero_le y0
    have hi : i < F.length := by rw [hF.len]; omega
    rw [rdB _ i (by simpa using hi)]
    have hv := hF.val i y0 y1
    rw [rdI F i hi] at hv
    simp only [List.getElem_map, decide_eq_true_eq]
    rcases hv with ⟨h1, h2⟩ | ⟨d, h1, h2⟩
    · exact ⟨fun q => by omega, fun ⟨d, w⟩ => absurd w (h2 d)⟩
    · exact ⟨fun _ => ⟨d, h2.1⟩, fun _ => by omega⟩
  · unfold graph_Reach.f
    refine Ev.bind (gchk_ev (N : Int) l) ?_
    refine Ev.step (fun k => ?_) (Ev.bind (f := fun k t => graph_Reach.l0 k [] t (t.length : Int) 0) hE (by simpa using h0))
    rw [if_pos hz, if_neg (by omega), decide_eq_false (by omega)]
    simp only [graph_Reach.j0]
    rw [if_neg (by simp)]
theorem greach_bad (n : Int) (l : List S46) (s : Int) (h : gchk n l ≠ 0 ∨ ¬ (0 ≤ s ∧ s < n)) : Ev (fun k => graph_Reach.f k n l s) ([], if gchk n l ≠ 0 then gchk n l else 6) := by
  unfold graph_Reach.f
  refine Ev.bind (gchk_ev n l) ?_
  by_cases hz : gchk n l = 0
  · have hs : ¬ (0 ≤ s ∧ s < n) := by rcases h with h | h; exact absurd hz h; exact h
    rw [if_neg (by simp [hz])]
    refine Ev.step (f := fun _ => some ([], 6)) (fun k => ?_) (Ev.now _)
    rw [if_pos hz]
    by_cases c : s < 0
    · rw [if_pos c]; simp only [graph_Reach.j0]; rfl
    · rw [if_neg c, decide_eq_true (by omega)]; simp only [graph_Reach.j0]; rfl
  · rw [if_pos hz]
    exact Ev.congr (f := fun _ => some ([], gchk n l)) (fun k => by rw [if_neg hz]) (Ev.now _)
end Go.Proofs.Ytlbkbodadkhogaa.Pure
