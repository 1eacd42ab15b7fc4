/- Contracts of functions over this seat, written by a program of this claim (xprint.py). -/
import Derived.Test.YtlbkbodadkhogaaX0
import Derived.Test.YtlbkbodadkhogaaX5
import Derived.Test.YtlbkbodadkhogaaX7
import Derived.Test.YtlbkbodadkhogaaSo
namespace Go.Proofs.Ytlbkbodadkhogaa.X
open Go.RowKit Go.Proofs.YtlbkbodadkhogaaW.PrintWords Go.Proofs.YtlbkbodadkhogaaW.PrintLast Go.Proofs.YtlbkbodadkhogaaW.PrintMore
attribute [local go_sem] max2_int min2_int max_two min_two max_three min_three max_four min_four   -- for this text's walks alone
set_option linter.unusedVariables false
set_option linter.unusedSimpArgs false

/-! ### graph_Close: function 25 -/
-- XIMPORT Derived.Test.YtlbkbodadkhogaaCloS
def HasLen (n : Nat) (o : Option (List Int)) : Prop := ∀ r, o = some r → r.length = n
theorem HasLen.none (n : Nat) : HasLen n Option.none := fun r h => by cases h
theorem HasLen.some {n : Nat} {x : List Int} (h : x.length = n) : HasLen n (Option.some x) := fun r e => by cases e; exact h
theorem HasLen.ite {n : Nat} {c : Prop} [Decidable c] {a b : Option (List Int)} (h : HasLen n a) (k : HasLen n b) : HasLen n (if c then a else b) := by
 split
 ·exact h
 ·exact k
theorem HasLen.cast {n m : Nat} {a : Option (List Int)} (e : n = m) (h : HasLen n a) : HasLen m a := e ▸ h
theorem waves_lens : ∀ k, (∀ y0 y1 y2 y3 y4 y5 y6, HasLen y2.length (graph_waves.l0 k y0 y1 y2 y3 y4 y5 y6)) ∧ (∀ y0 y1 y2 y3 y4, HasLen y1.length (graph_waves.l1 k y0 y1 y2 y3 y4)) ∧ (∀ y0 y1 y2 y3 y4 y5 y6 y7, HasLen y1.length (graph_waves.l2 k y0 y1 y2 y3 y4 y5 y6 y7)) ∧ (∀ y0 y1 y2 y3 y4 y5 y6 y7 y8 y9 y10 y11, HasLen y1.length (graph_waves.l3 k y0 y1 y2 y3 y4 y5 y6 y7 y8 y9 y10 y11)) := by
 intro k
 induction k with
 | zero => exact ⟨fun _ _ _ _ _ _ _ => HasLen.none _, fun _ _ _ _ _ => HasLen.none _, fun _ _ _ _ _ _ _ _ => HasLen.none _, fun _ _ _ _ _ _ _ _ _ _ _ _ => HasLen.none _⟩
 | succ k ih =>
  obtain ⟨ih0, ih1, ih2, ih3⟩ := ih
  refine ⟨?_, ?_, ?_, ?_⟩
  ·intro y0 y1 y2 y3 y4 y5 y6
   simp only [graph_waves.l0]
   repeat' first | exact HasLen.none _ | refine HasLen.ite ?_ ?_ | exact HasLen.cast (by simp) (ih0 _ _ _ _ _ _ _) | exact HasLen.cast (by simp) (ih1 _ _ _ _ _)
  ·intro y0 y1 y2 y3 y4
   simp only [graph_waves.l1]
   exact HasLen.ite (ih2 _ _ _ _ _ _ _ _) (HasLen.some rfl)
  ·intro y0 y1 y2 y3 y4 y5 y6 y7
   simp only [graph_waves.l2]
   repeat' first | exact HasLen.none _ | refine HasLen.ite ?_ ?_ | exact ih3 _ _ _ _ _ _ _ _ _ _ _ _ | exact ih1 _ _ _ _ _
  ·intro y0 y1 y2 y3 y4 y5 y6 y7 y8 y9 y10 y11
   simp only [graph_waves.l3]
   repeat' first | exact HasLen.none _ | refine HasLen.ite ?_ ?_ | exact HasLen.cast (by simp) (ih3 _ _ _ _ _ _ _ _ _ _ _ _) | exact HasLen.cast (by simp) (ih2 _ _ _ _ _ _ _ _)
theorem waves_len (k : Nat) (n : Int) (l : List S46) (y : Int) (b : Bool) (far : List Int) (h : graph_waves.f k n l y b = some far) : far.length = n.toNat := by
 unfold graph_waves.f at h
 by_cases c : 0 ≤ n
 ·rw [if_pos c] at h
  by_cases d : n.toNat ≤ 35184372088832
  ·rw [if_pos d] at h
   simp only [Option.bind_some] at h
   have := (waves_lens k).1 _ _ _ _ _ _ _ _ h
   simpa using this
  ·rw [if_neg d] at h; cases h
 ·rw [if_neg c] at h; cases h
def graph_Close.f (k : Nat) (a0_0 : Int) (l0_1 : List (S46)) : Option (Int × (List (S46)) × Int) := graph_close (fun y => graph_waves.f k a0_0 l0_1 y false) a0_0 l0_1
theorem cloAll_mono (V V' : Int → Option (List Int)) (h : ∀ y, LeO (V y) (V' y)) : ∀ (l acc : List S46), LeO (cloAll V l acc) (cloAll V' l acc) := by
 intro l
 induction l with
 | nil => intro acc; exact LeO.refl _
 | cons a l ih =>
  intro acc
  unfold cloAll
  exact LeO.bind (h _) (fun far => LeO.ite (ih _) (LeO.none _))
theorem graph_Close.mono : ∀ a0 a1 k, LeO (graph_Close.f k a0 a1) (graph_Close.f (k + 1) a0 a1) := by
 intro a0 a1 k
 unfold graph_Close.f graph_close
 exact LeO.ite (LeO.bind (cloAll_mono _ _ (fun y => graph_waves.mono _ _ _ _ _) _ _) (fun _ => LeO.refl _)) (LeO.refl _)
theorem graph_Close.calls (k : Nat) (a0_0 : Int) (A0_1 : Option Addr) (c0_1 : Nat) (l0_1 : List (S46)) (r1 : Int) (r2 : List (S46)) (r3 : Int) (w : World) (hr0_1 : Kd.C k46 w A0_1 l0_1.length l0_1) (hc0_1 : l0_1.length ≤ c0_1) (h : graph_Close.f k a0_0 l0_1 = some (r1, r2, r3)) :
  Calls Try.prog 25 #[.agg #[.int .i64 a0_0, .slice A0_1 l0_1.length c0_1]] w fun e w' => ∃ v1_ : Value, e = .returned (.tuple #[.agg #[.int .i64 r1, v1_], .int .i64 r3]) ∧ Kd.R k46 46 w' w.heap.size (fun _ => True) v1_ r2 ∧ Below w.heap.size w w' :=
 close_calls (fun y => graph_waves.f k a0_0 l0_1 y false) a0_0 l0_1 A0_1 c0_1 r1 r2 r3 w hr0_1 hc0_1 (chkC a0_0 l0_1)
  (fun hz y far hf => ⟨fun w A ca h1 h2 => graph_waves.calls k a0_0 A ca l0_1 y false far w h1 h2 hf, by rw [waves_len k a0_0 l0_1 y false far hf]; have := (gchk_ok hz).2.1; omega⟩) sortC h

end Go.Proofs.Ytlbkbodadkhogaa.X
