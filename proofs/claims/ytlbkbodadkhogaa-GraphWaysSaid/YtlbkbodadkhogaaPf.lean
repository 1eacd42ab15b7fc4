/- The plain laws of graphs, F: Path of the program and of the reference. -/
import Derived.Test.YtlbkbodadkhogaaPe
import Derived.Test.YtlbkbodadkhogaaX9
namespace Go.Proofs.Ytlbkbodadkhogaa.Pure
open Go.RowKit Go.Proofs.Ytlbkbodadkhogaa.X Go.Proofs.YtlbkbodadkhogaaW.PrintWords
set_option linter.unusedVariables false
theorem wsub {v : Int} (h0 : -1000 ≤ v) (h1 : v ≤ 100000) : wrap64 (v - 1) = v - 1 := by unfold wrap64; omega
theorem p_l1 {N : Nat} (hN : N ≤ 1000) {n : Int} (l : List S46) (hl : l.length ≤ 1000000) (ho : Ok N l) (t : Int) (F : List Int) (hF : F.length = N) (hv : ∀ y : Int, 0 ≤ y → y < N → -1 ≤ rd F y ∧ rd F y < N) (x : Int) (hx : 0 ≤ x ∧ x < N) (hxt : x ≠ t) (o : List Int) (hol : o.length ≤ 100000) (r : List Int × Int) (y : Int) (hy : 0 ≤ y)
    (h : Ev (fun k => graph_Path.l0 k t F (o ++ [y]) y n l) r) : ∀ (e i : Nat), l.length - i = e → i ≤ l.length → ∀ (m : Int), (l.drop i).foldl (bst F x) m = y → Ev (fun k => graph_Path.l1 k t F o x m l (l.length : Int) (i : Int) n l) r := by
  intro e
  induction e with
  | zero =>
    intro i he hi m hm
    rw [List.drop_eq_nil_of_le (by omega)] at hm
    have hm' : m = y := hm
    subst hm'
    refine Ev.step (fun k => ?_) h
    simp only [graph_Path.l1]
    rw [if_neg (by omega), if_neg (by omega), if_pos (by omega)]
  | succ e ih =>
    intro i he hi m hm
    have hlt : i < l.length := by omega
    have ha := ho l[i] (List.getElem_mem _)
    rw [List.drop_eq_getElem_cons hlt, List.foldl_cons] at hm
    have hn := ih (i + 1) (by omega) (by omega) _ hm
    have hvx := hv x hx.1 hx.2
    refine Ev.step (fun k => ?_) hn
    simp only [graph_Path.l1]
    rw [if_pos (by omega), if_pos (by omega), if_pos (by omega), if_neg hxt, rdT l i hlt, w64 (i := i) (by omega)]
    by_cases c : l[i].f0 = x
    · rw [if_pos c, if_pos ha.2.2.1, if_pos (by omega), if_pos hx.1, if_pos (by omega), wsub (by omega) (by omega)]
      by_cases d : rd F l[i].f1 = rd F x - 1
      · rw [if_pos d, show bst F x m l[i] = if m < 0 ∨ l[i].f1 < m then l[i].f1 else m from by unfold bst; rw [if_pos ⟨c, d⟩]]
        by_cases q : m < 0
        · rw [if_pos q, if_pos (.inl q)]
        · rw [if_neg q]
          by_cases q2 : l[i].f1 < m
          · rw [if_pos q2, if_pos (.inr q2)]
          · rw [if_neg q2, if_neg (by omega)]
      · rw [if_neg d, show bst F x m l[i] = m from by unfold bst; rw [if_neg (fun w => d w.2)]]
    · rw [if_neg c, show bst F x m l[i] = m from by unfold bst; rw [if_neg (fun w => c w.1)]]
theorem p_l0 {N : Nat} (hN : N ≤ 1000) {n : Int} (l : List S46) (hl : l.length ≤ 1000000) (ho : Ok N l) (t : Int) (ht : 0 ≤ t ∧ t < N) (F : List Int) (hF : F.length = N) (hv : ∀ y : Int, 0 ≤ y → y < N → -1 ≤ rd F y ∧ rd F y < N) :
    ∀ (P : List Int) (x : Int), (0 ≤ x ∧ x < N) → Pth l F t x P → ∀ (o : List Int), o.length + P.length ≤ 100000 → Ev (fun k => graph_Path.l0 k t F o x n l) (o ++ P, 0) := by
  intro P
  induction P with
  | nil =>
    intro x hx h o hol
    have hxt : x = t := h
    rw [List.append_nil]
    refine Ev.step (f := fun k => graph_Path.l1 k t F o x (-1) l (l.length : Int) 0 n l) (fun k => by simp only [graph_Path.l0]) ?_
    refine Ev.step (f := fun _ => some (o, 0)) (fun k => ?_) (Ev.now _)
    simp only [graph_Path.l1]
    by_cases c : (0 : Int) < (l.length : Int)
    · rw [if_pos c, if_pos (by omega), if_pos c, if_pos hxt]
    · rw [if_neg c, if_pos (by omega)]
  | cons y P ih =>
    intro x hx h o hol
    obtain ⟨h1, h2, h3⟩ := h
    obtain ⟨a, ha, e1, e2⟩ := hasA_iff.1 h2.1.1
    have hr := ho a ha
    have hy : 0 ≤ y ∧ y < N := by omega
    have hn := ih y hy h3 (o ++ [y]) (by simp at hol ⊢; omega)
    rw [List.append_assoc] at hn
    have hb := bst_least ho h2
    refine Ev.step (f := fun k => graph_Path.l1 k t F o x (-1) l (l.length : Int) 0 n l) (fun k => by simp only [graph_Path.l0]) ?_
    exact p_l1 hN l hl ho t F hF hv x hx h1 o (by omega) _ y hy.1 hn l.length 0 (by omega) (by omega) (-1) (by simpa using hb)
/-- What Path answers. -/
def PathIs (N : Nat) (l : List S46) (F : List Int) (s t : Int) (r : List Int × Int) : Prop := (rd F s < 0 ∧ r = ([], 6)) ∨ (∃ (d : Nat) (P : List Int), rd F s = d ∧ Pth l F t s P ∧ P.length = d ∧ r = (s :: P, 0))
theorem gpath_ev {n : Int} {l : List S46} {N : Nat} (hn : n = N) (hN : N ≤ 64) (hl : l.length ≤ 512) (ho : Ok N l) (hz : gchk n l = 0) (s t : Int) (hs : 0 ≤ s ∧ s < N) (ht : 0 ≤ t ∧ t < N) :
    ∃ (F : List Int) (r : List Int × Int), Far N l true t F ∧ PathIs N l F s t r ∧ Ev (fun k => graph_Path.f k n l s t) r := by
  subst hn
  obtain ⟨F, hF, hE⟩ := waves_ev true l ho (by omega) (by omega) t ht
  have hv := fun (y : Int) y0 y1 => hF.small ho ht (y := y) y0 y1
  have key : ∀ r, Ev (fun k => (if 0 ≤ s then (if s < (F.length : Int) then (if (rd F s) < 0 then (some (([] : List Int), 6)) else (graph_Path.l0 k t F (([s] : List Int)) s (N : Int) l)) else (none)) else (none))) r → Ev (fun k => graph_Path.f k (N : Int) l s t) r := by
    intro r h
    unfold graph_Path.f
    refine Ev.bind (gchk_ev (N : Int) l) ?_
    refine Ev.step (fun k => ?_) (Ev.bind (f := fun k t159 => (if 0 ≤ s then (if s < (t159.length : Int) then (if (rd t159 s) < 0 then (some (([] : List Int), 6)) else (graph_Path.l0 k t t159 (([s] : List Int)) s (N : Int) l)) else (none)) else (none))) hE h)
    rw [if_pos hz, if_neg (by omega), if_neg (by omega), if_neg (by omega), decide_eq_false (by omega)]
    simp only [graph_Path.j0]
    rw [if_neg (by simp)]
  have hsl : s < (F.length : Int) := by rw [hF.len]; exact hs.2
  by_cases c : rd F s < 0
  · refine ⟨F, ([], 6), hF, .inl ⟨c, rfl⟩, key _ ?_⟩
    · exact Ev.congr (f := fun _ => some ([], 6)) (fun k => by rw [if_pos hs.1, if_pos hsl, if_pos c]) (Ev.now _)
  · obtain ⟨d, hd⟩ := Int.eq_ofNat_of_zero_le (show 0 ≤ rd F s by omega)
    obtain ⟨P, hP, hPl⟩ := Pth.exists ho hF d s hs.1 hs.2 hd
    have hdN : d < N := by have := (hv s hs.1 hs.2).2; omega
    refine ⟨F, (s :: P, 0), hF, .inr ⟨d, P, hd, hP, hPl, rfl⟩, key _ ?_⟩
    · refine Ev.congr (fun k => by rw [if_pos hs.1, if_pos hsl, if_neg c]) ?_
      simpa using p_l0 (by omega) l (by omega) ho t ht F hF.len hv P s hs hP [s] (by simp; omega)
end Go.Proofs.Ytlbkbodadkhogaa.Pure
