/- The plain laws of graphs, A: Check, Light, comparisons. -/
import Derived.Test.YtlbkbodadkhogaaX0
import Derived.Test.YtlbkbodadkhogaaX1
import Derived.Test.YtlbkbodadkhogaaX2
import Derived.Test.YtlbkbodadkhogaaX3
import Derived.Test.YtlbkbodadkhogaaX4
import Derived.Test.YtlbkbodadkhogaaX6
import Derived.Test.YtlbkbodadkhogaaX10
import Derived.Test.YtlbkbodadkhogaaX13
import Derived.Test.YtlbkbodadkhogaaX15
import Derived.Test.YtlbkbodadkhogaaX17
import Derived.Test.YtlbkbodadkhogaaX21
namespace Go.Proofs.Ytlbkbodadkhogaa.Pure
open Go.RowKit Go.Proofs.Ytlbkbodadkhogaa.X Go.Proofs.YtlbkbodadkhogaaW.PrintWords
set_option linter.unusedVariables false
theorem w64 {i : Nat} (h : i ≤ 1000000000) : wrap64 ((i : Int) + 1) = ((i + 1 : Nat) : Int) := by unfold wrap64; omega
theorem aw_f : dancestudiolaw09_awake.f = some true := rfl
theorem rdT (l : List S46) (i : Nat) (h : i < l.length) : rd_T46 l (i : Int) = l[i] := by simp [rd_T46, h]
theorem rdB (l : List Bool) (i : Nat) (h : i < l.length) : rdOf false l (i : Int) = l[i] := by simp [rdOf, h]
theorem rdI (l : List Int) (i : Nat) (h : i < l.length) : rd l (i : Int) = l[i] := by simp [rd, h]
theorem gchk_ev (n : Int) (l : List S46) : Ev (fun k => graph_Check.f k n l) (gchk n l) := Ev.of (fun k => graph_Check.mono n l k) (chk_of n l)
theorem node_f (n : Int) (l : List S46) (a : Int) : dancestudioref09_node.f n l a = some (decide (0 ≤ a) && decide (a < n)) := by
  unfold dancestudioref09_node.f
  by_cases h : a ≥ 0
  · rw [if_pos h, decide_eq_true h]; rfl
  · rw [if_neg h, decide_eq_false h]; rfl
theorem rchk_l0 (n : Int) (l : List S46) (hl : l.length ≤ 512) : ∀ (d i : Nat), l.length - i = d → i ≤ l.length → Ev (fun k => dancestudioref09_Check.l0 k (i : Int) n l) (if (l.drop i).all (okArc n) = true then 0 else 6) := by
  intro d
  induction d with
  | zero =>
    intro i hd hi
    refine Ev.step (f := fun _ => some 0) (fun k => by simp only [dancestudioref09_Check.l0]; rw [if_neg (by omega)]) ?_
    rw [List.drop_eq_nil_of_le (by omega)]
    exact Ev.now _
  | succ d ih =>
    intro i hd hi
    have hlt : i < l.length := by omega
    have hn := ih (i + 1) (by omega) (by omega)
    rw [List.drop_eq_getElem_cons hlt, List.all_cons]
    by_cases c : okArc n l[i] = true
    · have c2 := c
      simp only [okArc, Bool.and_eq_true, decide_eq_true_eq] at c2
      rw [c, Bool.true_and]
      refine Ev.step (fun k => ?_) hn
      simp only [dancestudioref09_Check.l0]
      rw [if_pos (by omega), if_pos (by omega), rdT l i hlt, node_f, node_f, w64 (by omega)]
      simp only [Option.bind_some]
      rw [if_pos (by simp; omega), if_pos (by simp; omega)]
    · rw [Bool.eq_false_iff.2 c, Bool.false_and]
      refine Ev.step (f := fun _ => some 6) (fun k => ?_) (Ev.now _)
      have c2 := c
      simp only [okArc, Bool.and_eq_true, decide_eq_true_eq] at c2
      simp only [dancestudioref09_Check.l0]
      rw [if_pos (by omega), if_pos (by omega), rdT l i hlt, node_f, node_f]
      simp only [Option.bind_some]
      by_cases d1 : 0 ≤ l[i].f0 ∧ l[i].f0 < n
      · rw [if_pos (by simp; omega), if_neg (by simp; omega)]
      · rw [if_neg (by simp; omega)]
theorem rchk_ev (n : Int) (l : List S46) : Ev (fun k => dancestudioref09_Check.f k n l) (gchk n l) := by
  unfold gchk dancestudioref09_Check.f
  by_cases a : n < 0
  · rw [if_pos (.inl a)]
    exact Ev.step (f := fun _ => some 1) (fun k => by rw [if_pos a]; simp only [dancestudioref09_Check.j0]; rfl) (Ev.now _)
  · by_cases b : 64 < n
    · rw [if_pos (.inr b)]
      exact Ev.step (f := fun _ => some 1) (fun k => by rw [if_neg a, decide_eq_true (by exact b)]; simp only [dancestudioref09_Check.j0]; rfl) (Ev.now _)
    · rw [if_neg (by omega)]
      by_cases c : 512 < l.length
      · rw [if_pos c]
        refine Ev.step (f := fun _ => some 3) (fun k => ?_) (Ev.now _)
        rw [if_neg a, decide_eq_false (by omega)]; simp only [dancestudioref09_Check.j0]
        rw [if_neg (by simp), if_pos (by omega)]
      · rw [if_neg c]
        have h := rchk_l0 n l (by omega) l.length 0 (by omega) (by omega)
        refine Ev.step (fun k => ?_) h
        rw [if_neg a, decide_eq_false (by omega)]; simp only [dancestudioref09_Check.j0]
        rw [if_neg (by simp), if_neg (by omega)]
        rfl
/-- Light. -/
def light (n : Int) (l : List S46) : Bool := decide (l.length ≤ 600) && (decide (gchk n l ≠ 0) || (decide (n ≤ 24) && decide (l.length ≤ 80)))
theorem light_ev (n : Int) (l : List S46) : Ev (fun k => dancestudioref09_Light.f k n l) (light n l) := by
  unfold light dancestudioref09_Light.f
  by_cases a : l.length ≤ 600
  · rw [decide_eq_true a, Bool.true_and]
    refine Ev.congr (fun k => if_pos (by omega)) (Ev.bind (f := fun _ t => if t = 0 then (if n ≤ 24 then some (decide ((l.length : Int) ≤ 80)) else some false) else some true) (rchk_ev n l) ?_)
    by_cases b : gchk n l = 0
    · have e0 : decide (gchk n l ≠ 0) = false := by simp [b]
      rw [e0, Bool.false_or]
      by_cases c : n ≤ 24
      · rw [decide_eq_true c, Bool.true_and]
        refine Ev.congr (f := fun _ => some (decide (l.length ≤ 80))) (fun k => ?_) (Ev.now _)
        rw [if_pos b, if_pos c]
        congr 1
        exact decide_eq_decide.2 (by omega)
      · rw [decide_eq_false c, Bool.false_and]
        exact Ev.congr (f := fun _ => some false) (fun k => by rw [if_pos b, if_neg c]) (Ev.now _)
    · have e0 : decide (gchk n l ≠ 0) = true := decide_eq_true b
      rw [e0, Bool.true_or]
      exact Ev.congr (f := fun _ => some true) (fun k => by rw [if_neg b]) (Ev.now _)
  · rw [decide_eq_false a, Bool.false_and]
    exact Ev.congr (f := fun _ => some false) (fun k => by rw [if_neg (by omega)]) (Ev.now _)
theorem light_ok {n : Int} {l : List S46} (h : light n l = true) (hz : gchk n l = 0) : n ≤ 24 ∧ l.length ≤ 80 := by
  unfold light at h
  simp only [Bool.and_eq_true, Bool.or_eq_true, decide_eq_true_eq] at h
  rcases h.2 with q | q
  · exact absurd hz q
  · exact q
theorem ints_l0 (a b : List Int) (hl : a.length = b.length) (h9 : a.length ≤ 100000000) : ∀ (d i : Nat), a.length - i = d → i ≤ a.length → Ev (fun k => dancestudioref09_Ints.l0 k a b (i : Int)) (decide (a.drop i = b.drop i)) := by
  intro d
  induction d with
  | zero =>
    intro i hd hi
    refine Ev.step (f := fun _ => some true) (fun k => by simp only [dancestudioref09_Ints.l0]; rw [if_neg (by omega)]) ?_
    rw [List.drop_eq_nil_of_le (by omega), List.drop_eq_nil_of_le (by omega)]
    exact Ev.now _
  | succ d ih =>
    intro i hd hi
    have h1 : i < a.length := by omega
    have h2 : i < b.length := by omega
    rw [List.drop_eq_getElem_cons h1, List.drop_eq_getElem_cons h2]
    by_cases c : a[i] = b[i]
    · have e : decide (a[i] :: a.drop (i + 1) = b[i] :: b.drop (i + 1)) = decide (a.drop (i + 1) = b.drop (i + 1)) := decide_eq_decide.2 ⟨fun h => (List.cons.inj h).2, fun h => by rw [c, h]⟩
      rw [e]
      refine Ev.step (fun k => ?_) (ih (i + 1) (by omega) (by omega))
      simp only [dancestudioref09_Ints.l0]
      rw [if_pos (by omega), if_pos (by omega), if_pos (by omega), rdI a i h1, rdI b i h2, if_pos c, w64 (by omega)]
    · rw [decide_eq_false (fun h => c (List.cons.inj h).1)]
      refine Ev.step (f := fun _ => some false) (fun k => ?_) (Ev.now _)
      simp only [dancestudioref09_Ints.l0]
      rw [if_pos (by omega), if_pos (by omega), if_pos (by omega), rdI a i h1, rdI b i h2, if_neg c]
theorem ints_ev (a b : List Int) (h9 : a.length ≤ 100000000) : Ev (fun k => dancestudioref09_Ints.f k a b) (decide (a = b)) := by
  unfold dancestudioref09_Ints.f
  by_cases h : a.length = b.length
  · exact Ev.congr (fun k => if_pos (by omega)) (by simpa using ints_l0 a b h h9 a.length 0 (by omega) (by omega))
  · rw [decide_eq_false (fun e => h (by rw [e]))]
    exact Ev.congr (f := fun _ => some false) (fun k => by rw [if_neg (by omega)]) (Ev.now _)
theorem bools_l0 (a b : List Bool) (hl : a.length = b.length) (h9 : a.length ≤ 100000000) : ∀ (d i : Nat), a.length - i = d → i ≤ a.length → Ev (fun k => dancestudioref09_Bools.l0 k a b (i : Int)) (decide (a.drop i = b.drop i)) := by
  intro d
  induction d with
  | zero =>
    intro i hd hi
    refine Ev.step (f := fun _ => some true) (fun k => by simp only [dancestudioref09_Bools.l0]; rw [if_neg (by omega)]) ?_
    rw [List.drop_eq_nil_of_le (by omega), List.drop_eq_nil_of_le (by omega)]
    exact Ev.now _
  | succ d ih =>
    intro i hd hi
    have h1 : i < a.length := by omega
    have h2 : i < b.length := by omega
    rw [List.drop_eq_getElem_cons h1, List.drop_eq_getElem_cons h2]
    by_cases c : a[i] = b[i]
    · have e : decide (a[i] :: a.drop (i + 1) = b[i] :: b.drop (i + 1)) = decide (a.drop (i + 1) = b.drop (i + 1)) := decide_eq_decide.2 ⟨fun h => (List.cons.inj h).2, fun h => by rw [c, h]⟩
      rw [e]
      refine Ev.step (fun k => ?_) (ih (i + 1) (by omega) (by omega))
      simp only [dancestudioref09_Bools.l0]
      rw [if_pos (by omega), if_pos (by omega), if_pos (by omega), rdB a i h1, rdB b i h2, if_neg (by simp [c]), w64 (by omega)]
    · rw [decide_eq_false (fun h => c (List.cons.inj h).1)]
      refine Ev.step (f := fun _ => some false) (fun k => ?_) (Ev.now _)
      simp only [dancestudioref09_Bools.l0]
      rw [if_pos (by omega), if_pos (by omega), if_pos (by omega), rdB a i h1, rdB b i h2, if_pos (by simpa using c)]
theorem bools_ev (a b : List Bool) (h9 : a.length ≤ 100000000) : Ev (fun k => dancestudioref09_Bools.f k a b) (decide (a = b)) := by
  unfold dancestudioref09_Bools.f
  by_cases h : a.length = b.length
  · exact Ev.congr (fun k => if_pos (by omega)) (by simpa using bools_l0 a b h h9 a.length 0 (by omega) (by omega))
  · rw [decide_eq_false (fun e => h (by rw [e]))]
    exact Ev.congr (f := fun _ => some false) (fun k => by rw [if_neg (by omega)]) (Ev.now _)
theorem same_l0 (n m : Int) (a : List S46) (h9 : a.length ≤ 100000000) : ∀ (d i : Nat), a.length - i = d → i ≤ a.length → Ev (fun k => dancestudioref09_Same.l0 k (i : Int) n a m a) true := by
  intro d
  induction d with
  | zero =>
    intro i hd hi
    exact Ev.step (f := fun _ => some true) (fun k => by simp only [dancestudioref09_Same.l0]; rw [if_neg (by omega)]) (Ev.now _)
  | succ d ih =>
    intro i hd hi
    have h1 : i < a.length := by omega
    refine Ev.step (fun k => ?_) (ih (i + 1) (by omega) (by omega))
    simp only [dancestudioref09_Same.l0]
    rw [if_pos (by omega), if_pos (by omega), if_pos (by omega), if_neg (by simp), w64 (by omega)]
theorem same_ev (n : Int) (a : List S46) (h9 : a.length ≤ 100000000) : Ev (fun k => dancestudioref09_Same.f k n a n a) true := by
  unfold dancestudioref09_Same.f
  refine Ev.congr (fun k => if_pos rfl) (Ev.step (fun k => ?_) (same_l0 n n a h9 a.length 0 (by omega) (by omega)))
  simp only [dancestudioref09_Same.j0]
  rw [if_neg (by simp)]
  rfl
/-- Does an arc lead from a to b? -/
def hasA (l : List S46) (a b : Int) : Bool := l.any fun x => decide (x.f0 = a) && decide (x.f1 = b)
theorem has_l0 (n : Int) (l : List S46) (a b : Int) (h9 : l.length ≤ 100000000) : ∀ (d i : Nat), l.length - i = d → i ≤ l.length → Ev (fun k => dancestudioref09_Has.l0 k a b (i : Int) n l) (hasA (l.drop i) a b) := by
  intro d
  induction d with
  | zero =>
    intro i hd hi
    refine Ev.step (f := fun _ => some false) (fun k => by simp only [dancestudioref09_Has.l0]; rw [if_neg (by omega)]) ?_
    rw [List.drop_eq_nil_of_le (by omega)]
    exact Ev.now _
  | succ d ih =>
    intro i hd hi
    have hlt : i < l.length := by omega
    have e0 : hasA (l.drop i) a b = ((decide (l[i].f0 = a) && decide (l[i].f1 = b)) || hasA (l.drop (i + 1)) a b) := by
      rw [List.drop_eq_getElem_cons hlt]; rfl
    rw [e0]
    by_cases c : l[i].f0 = a
    · by_cases e : l[i].f1 = b
      · rw [decide_eq_true c, decide_eq_true e, Bool.true_and, Bool.true_or]
        refine Ev.step (f := fun _ => some true) (fun k => ?_) (Ev.now _)
        simp only [dancestudioref09_Has.l0]
        rw [if_pos (by omega), if_pos (by omega), rdT l i hlt, if_pos c, if_pos e]
      · rw [decide_eq_false e, Bool.and_false, Bool.false_or]
        refine Ev.step (fun k => ?_) (ih (i + 1) (by omega) (by omega))
        simp only [dancestudioref09_Has.l0]
        rw [if_pos (by omega), if_pos (by omega), rdT l i hlt, if_pos c, if_neg e, w64 (by omega)]
    · rw [decide_eq_false c, Bool.false_and, Bool.false_or]
      refine Ev.step (fun k => ?_) (ih (i + 1) (by omega) (by omega))
      simp only [dancestudioref09_Has.l0]
      rw [if_pos (by omega), if_pos (by omega), rdT l i hlt, if_neg c, w64 (by omega)]
theorem has_ev (n : Int) (l : List S46) (a b : Int) (h9 : l.length ≤ 100000000) : Ev (fun k => dancestudioref09_Has.f k n l a b) (hasA l a b) := by
  have := has_l0 n l a b h9 l.length 0 (by omega) (by omega)
  simpa [dancestudioref09_Has.f] using this
theorem hasA_iff {l : List S46} {a b : Int} : hasA l a b = true ↔ ∃ x ∈ l, x.f0 = a ∧ x.f1 = b := by
  simp [hasA]
end Go.Proofs.Ytlbkbodadkhogaa.Pure
