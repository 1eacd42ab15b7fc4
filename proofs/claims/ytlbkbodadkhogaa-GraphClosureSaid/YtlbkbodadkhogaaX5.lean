/- Contracts of functions over this seat, written by a program of this claim (xprint.py). -/
import Derived.Test.YtlbkbodadkhogaaX0
import Derived.Test.YtlbkbodadkhogaaX2
import Derived.Test.YtlbkbodadkhogaaOr
namespace Go.Proofs.Ytlbkbodadkhogaa.X
open Go.RowKit Go.Proofs.YtlbkbodadkhogaaW.PrintWords Go.Proofs.YtlbkbodadkhogaaW.PrintLast Go.Proofs.YtlbkbodadkhogaaW.PrintMore
attribute [local go_sem] max2_int min2_int max_two min_two max_three min_three max_four min_four   -- for this text's walks alone
set_option linter.unusedVariables false
set_option linter.unusedSimpArgs false

/-! ### graph_Order: function 15 -/
-- XIMPORT Derived.Test.YtlbkbodadkhogaaOrdW
theorem chk_l0 (n : Int) (l : List S46) (hl : l.length ≤ 1000000) : ∀ (d k i : Nat), l.length - i = d → d < k → i ≤ l.length → graph_Check.l0 k l (l.length : Int) (i : Int) n l = some (if (l.drop i).all (okArc n) = true then 0 else 6) := by
 intro d
 induction d with
 | zero =>
  intro k i hd hk hi
  obtain ⟨k, rfl⟩ : ∃ m, k = m + 1 := ⟨k - 1, by omega⟩
  simp only [graph_Check.l0]
  rw [if_neg (by omega), List.drop_eq_nil_of_le (by omega)]
  rfl
 | succ d ih =>
  intro k i hd hk hi
  obtain ⟨k, rfl⟩ : ∃ m, k = m + 1 := ⟨k - 1, by omega⟩
  have hlt : i < l.length := by omega
  have he : rd_T46 l (i : Int) = l[i] := by simp [rd_T46, hlt]
  have hw : wrap64 ((i : Int) + 1) = ((i + 1 : Nat) : Int) := by unfold wrap64; omega
  simp only [graph_Check.l0]
  rw [if_pos (by omega), if_pos (by omega), if_pos (by omega), he, hw, ih k (i + 1) (by omega) (by omega) (by omega), List.drop_eq_getElem_cons hlt, List.all_cons]
  by_cases c : okArc n l[i] = true
  ·have c2 := c
   simp only [okArc, Bool.and_eq_true, decide_eq_true_eq] at c2
   rw [if_neg (by omega), if_neg (by omega), if_neg (by omega), if_neg (by omega), c, Bool.true_and]
  ·have c2 := c
   simp only [okArc, Bool.and_eq_true, decide_eq_true_eq] at c2
   rw [Bool.eq_false_iff.2 c, Bool.false_and]
   show _ = some 6
   by_cases d1 : l[i].f0 < 0
   ·rw [if_pos d1]
   ·by_cases d2 : l[i].f0 ≥ n
    ·rw [if_neg d1, if_pos d2]
    ·by_cases d3 : l[i].f1 < 0
     ·rw [if_neg d1, if_neg d2, if_pos d3]
     ·rw [if_neg d1, if_neg d2, if_neg d3, if_pos (by omega)]
theorem chk_of (n : Int) (l : List S46) : graph_Check.f 1000 n l = some (gchk n l) := by
 unfold graph_Check.f gchk
 by_cases a : n < 0
 ·rw [if_pos a, if_pos (.inl a)]; simp only [graph_Check.j0]; rfl
 ·rw [if_neg a]
  by_cases b : 64 < n
  ·rw [if_pos (.inr b)]
   have : decide (n > 64) = true := decide_eq_true b
   rw [this]; simp only [graph_Check.j0]; rfl
  ·rw [if_neg (by omega)]
   have : decide (n > 64) = false := decide_eq_false b
   rw [this]
   simp only [graph_Check.j0]
   rw [if_neg (by simp)]
   by_cases c : 512 < l.length
   ·rw [if_pos (by omega), if_pos c]
   ·rw [if_neg (by omega), if_neg c]
    have := chk_l0 n l (by omega) l.length 999 0 (by omega) (by omega) (by omega)
    simpa using this
theorem chkC (n : Int) (l : List S46) : ChkC n l := fun w A ca h hc => graph_Check.calls 1000 n A ca l (gchk n l) w h hc (chk_of n l)
def graph_Order.f (a0_0 : Int) (l0_1 : List (S46)) : Option (List Int × Int) := graph_order a0_0 l0_1
theorem graph_Order.calls (a0_0 : Int) (A0_1 : Option Addr) (c0_1 : Nat) (l0_1 : List (S46)) (r1 : List Int) (r2 : Int) (w : World) (hr0_1 : Kd.C k46 w A0_1 l0_1.length l0_1) (hc0_1 : l0_1.length ≤ c0_1) (h : graph_Order.f a0_0 l0_1 = some (r1, r2)) :
  Calls Try.prog 15 #[.agg #[.int .i64 a0_0, .slice A0_1 l0_1.length c0_1]] w fun e w' => ∃ v0_ : Value, e = .returned (.tuple #[v0_, .int .i64 r2]) ∧ Kd.R (Kd.int .i64) 3 w' w.heap.size (fun _ => True) v0_ r1 ∧ Below w.heap.size w w' :=
 order_calls a0_0 l0_1 A0_1 c0_1 r1 r2 w hr0_1 hc0_1 (chkC a0_0 l0_1) h

end Go.Proofs.Ytlbkbodadkhogaa.X
