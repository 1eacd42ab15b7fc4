/- Contracts of functions over this seat, written by a program of this claim (xprint.py). -/
import Derived.Test.YtkipahflihobeaaX0
import Derived.Test.YtkipahflihobeaaX1
import Derived.Test.YtkipahflihobeaaX7
import Derived.Test.YtkipahflihobeaaX8
import Derived.Test.YtkipahflihobeaaX9
namespace Go.Proofs.Ytkipahflihobeaa.X
open Go.RowKit Go.Proofs.YtkipahflihobeaaW.PrintWords Go.Proofs.YtkipahflihobeaaW.PrintLast Go.Proofs.YtkipahflihobeaaW.PrintMore
attribute [local go_sem] max2_int min2_int max_two min_two max_three min_three max_four min_four   -- for this text's walks alone
set_option linter.unusedVariables false
set_option linter.unusedSimpArgs false

attribute [local go_sem high] eqA39
/-! ### dancestudioref26_SameRepeats: function 16 -/
def dancestudioref26_SameRepeats.l0 : Nat → List (S39) → List (S39) → Int → Option (Bool)
  | 0, _, _, _ => none
  | k + 1, x0, x1, x5 => if x5 < (x0.length : Int) then (if 0 ≤ x5 then (if x5 < (x1.length : Int) then (if ((!(((rd_T39 x0 x5).f0.f0) == ((rd_T39 x1 x5).f0.f0)) || (!(((rd_T39 x0 x5).f0.f1) == ((rd_T39 x1 x5).f0.f1)))) || (!(((rd_T39 x0 x5).f1) == ((rd_T39 x1 x5).f1)))) = true then (some false) else (dancestudioref26_SameRepeats.l0 k x0 x1 (wrap64 (x5 + 1)))) else (none)) else (none)) else (some true)
def dancestudioref26_SameRepeats.f (k : Nat) (l0 : List (S39)) (l1 : List (S39)) : Option (Bool) := if (l0.length : Int) = (l1.length : Int) then (dancestudioref26_SameRepeats.l0 k l0 l1 0) else (some false)
theorem dancestudioref26_SameRepeats.mono_l : ∀ k, (∀ y0 y1 y2, LeO (dancestudioref26_SameRepeats.l0 k y0 y1 y2) (dancestudioref26_SameRepeats.l0 (k + 1) y0 y1 y2))
  | 0 => fun _ _ _ r h => by simp [dancestudioref26_SameRepeats.l0] at h
  | k + 1 => by
    have ih0 := dancestudioref26_SameRepeats.mono_l k
    · intro y0 y1 y2
      unfold dancestudioref26_SameRepeats.l0
      repeat' first
      | (with_reducible exact ih0 _ _ _)
      | (with_reducible exact LeO.refl _)
      | (with_reducible exact LeO.none _)
      | (with_reducible refine LeO.ite ?_ ?_)
      | (with_reducible refine LeO.bind ?_ (fun _ => ?_))
      | exact ih0 _ _ _
      | exact LeO.none _
      | refine LeO.ite ?_ ?_
      | refine LeO.bind ?_ (fun _ => ?_)
theorem dancestudioref26_SameRepeats.mono : ∀ a0 a1 k, LeO (dancestudioref26_SameRepeats.f k a0 a1) (dancestudioref26_SameRepeats.f (k + 1) a0 a1) := by
  intro a0 a1 k
  have ih0 := dancestudioref26_SameRepeats.mono_l k
  unfold dancestudioref26_SameRepeats.f
  repeat' first
      | (with_reducible exact ih0 _ _ _)
      | (with_reducible exact LeO.refl _)
      | (with_reducible exact LeO.none _)
      | (with_reducible refine LeO.ite ?_ ?_)
      | (with_reducible refine LeO.bind ?_ (fun _ => ?_))
      | exact ih0 _ _ _
      | exact LeO.none _
      | refine LeO.ite ?_ ?_
      | refine LeO.bind ?_ (fun _ => ?_)
set_option maxHeartbeats 8000000 in
set_option maxRecDepth 100000 in
theorem dancestudioref26_SameRepeats.calls (k : Nat) (A0 : Option Addr) (c0 : Nat) (l0 : List (S39)) (A1 : Option Addr) (c1 : Nat) (l1 : List (S39)) (r : Bool) (w : World) (hr0 : Kd.C k39 w A0 l0.length l0) (hc0 : l0.length ≤ c0) (hr1 : Kd.C k39 w A1 l1.length l1) (hc1 : l1.length ≤ c1) (h : dancestudioref26_SameRepeats.f k l0 l1 = some r) :
    Calls Try.prog 16 #[.slice A0 l0.length c0, .slice A1 l1.length c1] w fun e w' => e = .returned (.bool r) ∧ Drawn0 w w' := by
  have hu39 := Try.underlying39
  have HR0 := Aside0.mk hr0
  have HC0 := Aside0.mk hc0
  clear hr0 hc0
  have HR1 := Aside0.mk hr1
  have HC1 := Aside0.mk hc1
  clear hr1 hc1
  have H : (if (l0.length : Int) = (l1.length : Int) then (dancestudioref26_SameRepeats.l0 k l0 l1 0) else (some false)) = some r := h
  clear h
  by_cases c3 : (l0.length : Int) = (l1.length : Int)
  · rw [if_pos c3] at H
    have c3b0 : ((l0.length : Int) == (l1.length : Int)) = true := beq_iff_eq.mpr c3
    have c3b1 : ((l0.length : Int) != (l1.length : Int)) = false := bne_eq_false_iff_eq.mpr c3
    have c3b2 : (l0.length == l1.length) = true := by first | simpa using c3 | (simp at c3 ⊢; omega)
    clear c3
    have H' := Aside0.mk H
    clear H
    go_enter Try.func16, Try.ntmps16
    go_wp2
    repeat (go_quiet (fail); try go_wp2)
    go_loopg [5] k (fun kq v5 w' => ∃ (x5_1 : Int), v5 = .int .i64 x5_1 ∧ Aside0 (dancestudioref26_SameRepeats.l0 kq l0 l1 x5_1 = some r) ∧ Aside0 (kq ≤ k) ∧ Drawn0 w w')
    case atStart => exact ⟨(0), (by first | rfl | (simp; done) | (simp [*]; done)), H', ⟨Nat.le_refl _⟩, by repeat (first | exact Drawn0.refl _ | apply Drawn0.step)⟩
    case round =>
      clear H'
      try clear c1
      try clear p2
      try clear c3
      try clear c3b0
      try clear c3b1
      try clear c3b2
      obtain ⟨x5_1, rfl, HA, HK1, ⟨m1, rfl⟩⟩ := hrel
      cases gk with
      | zero => exact absurd HA.out (by simp [dancestudioref26_SameRepeats.l0])
      | succ k1 =>
        have H := HA.out
        clear HA
        simp only [dancestudioref26_SameRepeats.l0] at H
        by_cases c4 : x5_1 < (l0.length : Int)
        · rw [if_pos c4] at H
          have c4b0 : decide (x5_1 < (l0.length : Int)) = true := decide_eq_true c4
          clear c4
          by_cases c5 : 0 ≤ x5_1
          · rw [if_pos c5] at H
            have c5b0 : decide (0 ≤ x5_1) = true := decide_eq_true c5
            clear c5
            by_cases c6 : x5_1 < (l1.length : Int)
            · rw [if_pos c6] at H
              have c6b0 : decide (x5_1 < (l1.length : Int)) = true := decide_eq_true c6
              clear c6
              by_cases c7 : ((!(((rd_T39 l0 x5_1).f0.f0) == ((rd_T39 l1 x5_1).f0.f0)) || (!(((rd_T39 l0 x5_1).f0.f1) == ((rd_T39 l1 x5_1).f0.f1)))) || (!(((rd_T39 l0 x5_1).f1) == ((rd_T39 l1 x5_1).f1)))) = true
              · rw [if_pos c7] at H
                have c7b0 : ((!(((rd_T39 l0 x5_1).f0.f0) == ((rd_T39 l1 x5_1).f0.f0)) || (!(((rd_T39 l0 x5_1).f0.f1) == ((rd_T39 l1 x5_1).f0.f1)))) || (!(((rd_T39 l0 x5_1).f1) == ((rd_T39 l1 x5_1).f1)))) = true := c7
                clear c7
                obtain rfl := Option.some.inj H
                have p189 : 0 ≤ (x5_1 : Int) := of_decide_eq_true (by first | (with_reducible assumption) | assumption)
                have q189 : x5_1 < (l0.length : Int) := of_decide_eq_true (by first | (with_reducible assumption) | assumption)
                obtain ⟨ad189, e189, hx189_0, hx189_1, hx189_2⟩ := at_T39 HR0.out x5_1 p189 q189
                cases e189
                replace p189 := eq_true p189
                replace q189 := eq_true q189
                have p190 : 0 ≤ (x5_1 : Int) := of_decide_eq_true (by first | (with_reducible assumption) | assumption)
                have q190 : x5_1 < (l1.length : Int) := of_decide_eq_true (by first | (with_reducible assumption) | assumption)
                obtain ⟨ad190, e190, hx190_0, hx190_1, hx190_2⟩ := at_T39 HR1.out x5_1 p190 q190
                cases e190
                replace p190 := eq_true p190
                replace q190 := eq_true q190
                go_wp2
                repeat (go_quiet (fail); try go_wp2)
                go_ret
                exact ⟨by first | rfl | (simp; done) | (simp [*]; done), by repeat (first | exact Drawn0.refl _ | apply Drawn0.step)⟩
              · rw [if_neg c7] at H
                have c7b0 : ((!(((rd_T39 l0 x5_1).f0.f0) == ((rd_T39 l1 x5_1).f0.f0)) || (!(((rd_T39 l0 x5_1).f0.f1) == ((rd_T39 l1 x5_1).f0.f1)))) || (!(((rd_T39 l0 x5_1).f1) == ((rd_T39 l1 x5_1).f1)))) = false := by simpa using c7
                clear c7
                have H' := Aside0.mk H
                clear H
                have p189 : 0 ≤ (x5_1 : Int) := of_decide_eq_true (by first | (with_reducible assumption) | assumption)
                have q189 : x5_1 < (l0.length : Int) := of_decide_eq_true (by first | (with_reducible assumption) | assumption)
                obtain ⟨ad189, e189, hx189_0, hx189_1, hx189_2⟩ := at_T39 HR0.out x5_1 p189 q189
                cases e189
                replace p189 := eq_true p189
                replace q189 := eq_true q189
                have p190 : 0 ≤ (x5_1 : Int) := of_decide_eq_true (by first | (with_reducible assumption) | assumption)
                have q190 : x5_1 < (l1.length : Int) := of_decide_eq_true (by first | (with_reducible assumption) | assumption)
                obtain ⟨ad190, e190, hx190_0, hx190_1, hx190_2⟩ := at_T39 HR1.out x5_1 p190 q190
                cases e190
                replace p190 := eq_true p190
                replace q190 := eq_true q190
                go_wp2
                repeat (go_quiet (fail); try go_wp2)
                go_roundg k1
                case measure => have := HK1.out; omega
                case rel => exact ⟨(wrap64 (x5_1 + 1)), (by first | rfl | (simp; done) | (simp [*]; done)), H', ⟨by have := HK1.out; omega⟩, by repeat (first | exact Drawn0.refl _ | apply Drawn0.step)⟩
            · rw [if_neg c6] at H
              exact absurd H (by simp)
          · rw [if_neg c5] at H
            exact absurd H (by simp)
        · rw [if_neg c4] at H
          have c4b0 : decide (x5_1 < (l0.length : Int)) = false := decide_eq_false c4
          clear c4
          obtain rfl := Option.some.inj H
          go_wp2
          repeat (go_quiet (fail); try go_wp2)
          go_ret
          exact ⟨by first | rfl | (simp; done) | (simp [*]; done), by repeat (first | exact Drawn0.refl _ | apply Drawn0.step)⟩
  · rw [if_neg c3] at H
    have c3b0 : ((l0.length : Int) == (l1.length : Int)) = false := beq_eq_false_iff_ne.mpr c3
    have c3b1 : ((l0.length : Int) != (l1.length : Int)) = true := bne_iff_ne.mpr c3
    have c3b2 : (l0.length == l1.length) = false := by first | simpa using c3 | (simp at c3 ⊢; omega)
    obtain rfl := Option.some.inj H
    go_enter Try.func16, Try.ntmps16
    go_wp2
    repeat (go_quiet (fail); try go_wp2)
    go_ret
    exact ⟨by first | rfl | (simp; done) | (simp [*]; done), by repeat (first | exact Drawn0.refl _ | apply Drawn0.step)⟩

/-! ### dancestudiolaw26_awake: function 5 -/
mutual
def dancestudiolaw26_awake.j0 : Nat → List (S43) → List (S39) → Bool → Option (Bool)
  | 0, _, _, _ => none
  | k + 1, x1, x2, x57 => if x57 = true then (some false) else ((repeats_Source.f x1 12 x2 9).bind fun bt256 => ((repeats_Source.f x1 12 x2 17).bind fun bt258 => (if bt256.1 = 1 then (if bt256.2 = 0 then (if bt258.1 = 9 then (if bt258.2 = 0 then ((dancestudiolaw26_twice.f 4 4 2).bind fun bt260 => ((repeats_Check.f x1 12 (([(⟨(⟨bt260.1, bt260.2.1⟩ : S37), bt260.2.2⟩ : S39)] : List (S39)))).bind fun t266 => (dancestudiolaw26_awake.j1 k (t266 != 1)))) else (dancestudiolaw26_awake.j1 k true)) else (dancestudiolaw26_awake.j1 k true)) else (dancestudiolaw26_awake.j1 k true)) else (dancestudiolaw26_awake.j1 k true))))
def dancestudiolaw26_awake.j1 : Nat → Bool → Option (Bool)
  | 0, _ => none
  | k + 1, x90 => if x90 = true then (some false) else ((dancestudiolaw26_hold.f 0 4).bind fun bt267 => ((dancestudiolaw26_hold.f 4 8).bind fun bt274 => ((dancestudiolaw26_hold.f 8 12).bind fun bt281 => ((repeats_Find.f k (([(⟨bt267.1, bt267.2.1, bt267.2.2.1, bt267.2.2.2.1, bt267.2.2.2.2.1, bt267.2.2.2.2.2.1, bt267.2.2.2.2.2.2⟩ : S43), (⟨bt274.1, bt274.2.1, bt274.2.2.1, bt274.2.2.2.1, bt274.2.2.2.2.1, bt274.2.2.2.2.2.1, bt274.2.2.2.2.2.2⟩ : S43), (⟨bt281.1, bt281.2.1, bt281.2.2.1, bt281.2.2.2.1, bt281.2.2.2.2.1, bt281.2.2.2.2.2.1, bt281.2.2.2.2.2.2⟩ : S43)] : List (S43))) 12 4).bind fun bt291 => ((dancestudiolaw26_hold.f 0 4).bind fun bt299 => ((dancestudiolaw26_hold.f 4 8).bind fun bt306 => ((dancestudiolaw26_hold.f 8 11).bind fun bt313 => ((repeats_Find.f k (([(⟨bt299.1, bt299.2.1, bt299.2.2.1, bt299.2.2.2.1, bt299.2.2.2.2.1, bt299.2.2.2.2.2.1, bt299.2.2.2.2.2.2⟩ : S43), (⟨bt306.1, bt306.2.1, bt306.2.2.1, bt306.2.2.2.1, bt306.2.2.2.2.1, bt306.2.2.2.2.2.1, bt306.2.2.2.2.2.2⟩ : S43), (⟨bt313.1, bt313.2.1, bt313.2.2.1, bt313.2.2.2.1, bt313.2.2.2.2.1, bt313.2.2.2.2.2.1, bt313.2.2.2.2.2.2⟩ : S43)] : List (S43))) 11 4).bind fun bt323 => (if bt291.2.2.2 = 0 then (if bt291.2.1 = 4 then ((dancestudiolaw26_hold.f 0 4).bind fun bt331 => ((dancestudioref26_Same.f k bt291.1 (([(⟨bt331.1, bt331.2.1, bt331.2.2.1, bt331.2.2.2.1, bt331.2.2.2.2.1, bt331.2.2.2.2.2.1, bt331.2.2.2.2.2.2⟩ : S43)] : List (S43)))).bind fun t341 => (if t341 = true then ((dancestudiolaw26_twice.f 0 4 3).bind fun bt342 => ((dancestudioref26_SameRepeats.f k bt291.2.2.1 (([(⟨(⟨bt342.1, bt342.2.1⟩ : S37), bt342.2.2⟩ : S39)] : List (S39)))).bind fun t348 => (dancestudiolaw26_awake.j2 k bt323.2.2.2 bt323.1 bt323.2.1 bt323.2.2.1 (!t348)))) else (dancestudiolaw26_awake.j2 k bt323.2.2.2 bt323.1 bt323.2.1 bt323.2.2.1 true)))) else (dancestudiolaw26_awake.j2 k bt323.2.2.2 bt323.1 bt323.2.1 bt323.2.2.1 true)) else (dancestudiolaw26_awake.j2 k bt323.2.2.2 bt323.1 bt323.2.1 bt323.2.2.1 true))))))))))
def dancestudiolaw26_awake.j2 : Nat → Int → List (S43) → Int → List (S39) → Bool → Option (Bool)
  | 0, _, _, _, _, _ => none
  | k + 1, x6, x12, x13, x14, x130 => if x130 = true then (some false) else (if x6 = 0 then (if x13 = 7 then ((dancestudiolaw26_hold.f 0 4).bind fun bt349 => ((dancestudiolaw26_hold.f 4 7).bind fun bt356 => ((dancestudioref26_Same.f k x12 (([(⟨bt349.1, bt349.2.1, bt349.2.2.1, bt349.2.2.2.1, bt349.2.2.2.2.1, bt349.2.2.2.2.2.1, bt349.2.2.2.2.2.2⟩ : S43), (⟨bt356.1, bt356.2.1, bt356.2.2.1, bt356.2.2.2.1, bt356.2.2.2.2.1, bt356.2.2.2.2.2.1, bt356.2.2.2.2.2.2⟩ : S43)] : List (S43)))).bind fun t366 => (if t366 = true then ((dancestudiolaw26_twice.f 0 4 2).bind fun bt367 => ((dancestudioref26_SameRepeats.f k x14 (([(⟨(⟨bt367.1, bt367.2.1⟩ : S37), bt367.2.2⟩ : S39)] : List (S39)))).bind fun t373 => (some t373))) else (some false))))) else (some false)) else (some false))
end
def dancestudiolaw26_awake.f (k : Nat)  : Option (Bool) := (dancestudiolaw26_hold.f 0 8).bind fun bt191 => ((dancestudiolaw26_hold.f 8 12).bind fun bt198 => ((some (([(⟨bt191.1, bt191.2.1, bt191.2.2.1, bt191.2.2.2.1, bt191.2.2.2.2.1, bt191.2.2.2.2.2.1, bt191.2.2.2.2.2.2⟩ : S43), (⟨bt198.1, bt198.2.1, bt198.2.2.1, bt198.2.2.2.1, bt198.2.2.2.2.1, bt198.2.2.2.2.2.1, bt198.2.2.2.2.2.2⟩ : S43)] : List (S43)) : List (S43))).bind fun y205 => ((dancestudiolaw26_twice.f 0 8 2).bind fun bt208 => ((some (([(⟨(⟨bt208.1, bt208.2.1⟩ : S37), bt208.2.2⟩ : S39)] : List (S39)) : List (S39))).bind fun y211 => ((repeats_Perform.f y205 12 y211).bind fun bt214 => ((repeats_Length.f y205 12 y211).bind fun bt218 => (if bt214.2 = 0 then (if bt218.2 = 0 then (if bt218.1 = 20 then ((dancestudiolaw26_hold.f 0 8).bind fun bt220 => ((dancestudiolaw26_hold.f 8 16).bind fun bt227 => ((dancestudiolaw26_hold.f 16 20).bind fun bt234 => ((dancestudioref26_Same.f k bt214.1 (([(⟨bt220.1, bt220.2.1, bt220.2.2.1, bt220.2.2.2.1, bt220.2.2.2.2.1, bt220.2.2.2.2.2.1, bt220.2.2.2.2.2.2⟩ : S43), (⟨bt227.1, bt227.2.1, bt227.2.2.1, bt227.2.2.2.1, bt227.2.2.2.2.1, bt227.2.2.2.2.2.1, bt227.2.2.2.2.2.2⟩ : S43), (⟨bt234.1, bt234.2.1, bt234.2.2.1, bt234.2.2.2.1, bt234.2.2.2.2.1, bt234.2.2.2.2.2.1, bt234.2.2.2.2.2.2⟩ : S43)] : List (S43)))).bind fun t244 => (if t244 = true then ((dancestudiolaw26_hold.f 0 12).bind fun bt245 => ((repeats_Check.f (([(⟨bt245.1, bt245.2.1, bt245.2.2.1, bt245.2.2.2.1, bt245.2.2.2.2.1, bt245.2.2.2.2.2.1, bt245.2.2.2.2.2.2⟩ : S43)] : List (S43))) 12 y211).bind fun t255 => (dancestudiolaw26_awake.j0 k y205 y211 (t255 != 17)))) else (dancestudiolaw26_awake.j0 k y205 y211 true)))))) else (dancestudiolaw26_awake.j0 k y205 y211 true)) else (dancestudiolaw26_awake.j0 k y205 y211 true)) else (dancestudiolaw26_awake.j0 k y205 y211 true))))))))
theorem dancestudiolaw26_awake.mono_l : ∀ k, (∀ y0 y1 y2, LeO (dancestudiolaw26_awake.j0 k y0 y1 y2) (dancestudiolaw26_awake.j0 (k + 1) y0 y1 y2)) ∧ (∀ y0, LeO (dancestudiolaw26_awake.j1 k y0) (dancestudiolaw26_awake.j1 (k + 1) y0)) ∧ (∀ y0 y1 y2 y3 y4, LeO (dancestudiolaw26_awake.j2 k y0 y1 y2 y3 y4) (dancestudiolaw26_awake.j2 (k + 1) y0 y1 y2 y3 y4))
  | 0 => ⟨fun _ _ _ r h => by simp [dancestudiolaw26_awake.j0] at h, fun _ r h => by simp [dancestudiolaw26_awake.j1] at h, fun _ _ _ _ _ r h => by simp [dancestudiolaw26_awake.j2] at h⟩
  | k + 1 => by
    obtain ⟨ih0, ih1, ih2⟩ := dancestudiolaw26_awake.mono_l k
    refine ⟨?_, ?_, ?_⟩
    · intro y0 y1 y2
      unfold dancestudiolaw26_awake.j0
      repeat' first
      | (with_reducible exact ih0 _ _ _)
      | (with_reducible exact ih1 _)
      | (with_reducible exact ih2 _ _ _ _ _)
      | (with_reducible exact dancestudioref26_Same.mono _ _ _)
      | (with_reducible exact dancestudioref26_SameRepeats.mono _ _ _)
      | (with_reducible exact repeats_Find.mono _ _ _ _)
      | (with_reducible exact LeO.refl _)
      | (with_reducible exact LeO.none _)
      | (with_reducible refine LeO.ite ?_ ?_)
      | (with_reducible refine LeO.bind ?_ (fun _ => ?_))
      | exact ih0 _ _ _
      | exact ih1 _
      | exact ih2 _ _ _ _ _
      | exact dancestudioref26_Same.mono _ _ _
      | exact dancestudioref26_SameRepeats.mono _ _ _
      | exact repeats_Find.mono _ _ _ _
      | exact LeO.none _
      | refine LeO.ite ?_ ?_
      | refine LeO.bind ?_ (fun _ => ?_)
    · intro y0
      unfold dancestudiolaw26_awake.j1
      repeat' first
      | (with_reducible exact ih0 _ _ _)
      | (with_reducible exact ih1 _)
      | (with_reducible exact ih2 _ _ _ _ _)
      | (with_reducible exact dancestudioref26_Same.mono _ _ _)
      | (with_reducible exact dancestudioref26_SameRepeats.mono _ _ _)
      | (with_reducible exact repeats_Find.mono _ _ _ _)
      | (with_reducible exact LeO.refl _)
      | (with_reducible exact LeO.none _)
      | (with_reducible refine LeO.ite ?_ ?_)
      | (with_reducible refine LeO.bind ?_ (fun _ => ?_))
      | exact ih0 _ _ _
      | exact ih1 _
      | exact ih2 _ _ _ _ _
      | exact dancestudioref26_Same.mono _ _ _
      | exact dancestudioref26_SameRepeats.mono _ _ _
      | exact repeats_Find.mono _ _ _ _
      | exact LeO.none _
      | refine LeO.ite ?_ ?_
      | refine LeO.bind ?_ (fun _ => ?_)
    · intro y0 y1 y2 y3 y4
      unfold dancestudiolaw26_awake.j2
      repeat' first
      | (with_reducible exact ih0 _ _ _)
      | (with_reducible exact ih1 _)
      | (with_reducible exact ih2 _ _ _ _ _)
      | (with_reducible exact dancestudioref26_Same.mono _ _ _)
      | (with_reducible exact dancestudioref26_SameRepeats.mono _ _ _)
      | (with_reducible exact repeats_Find.mono _ _ _ _)
      | (with_reducible exact LeO.refl _)
      | (with_reducible exact LeO.none _)
      | (with_reducible refine LeO.ite ?_ ?_)
      | (with_reducible refine LeO.bind ?_ (fun _ => ?_))
      | exact ih0 _ _ _
      | exact ih1 _
      | exact ih2 _ _ _ _ _
      | exact dancestudioref26_Same.mono _ _ _
      | exact dancestudioref26_SameRepeats.mono _ _ _
      | exact repeats_Find.mono _ _ _ _
      | exact LeO.none _
      | refine LeO.ite ?_ ?_
      | refine LeO.bind ?_ (fun _ => ?_)
theorem dancestudiolaw26_awake.mono : ∀ k, LeO (dancestudiolaw26_awake.f k ) (dancestudiolaw26_awake.f (k + 1) ) := by
  intro  k
  obtain ⟨ih0, ih1, ih2⟩ := dancestudiolaw26_awake.mono_l k
  unfold dancestudiolaw26_awake.f
  repeat' first
      | (with_reducible exact ih0 _ _ _)
      | (with_reducible exact ih1 _)
      | (with_reducible exact ih2 _ _ _ _ _)
      | (with_reducible exact dancestudioref26_Same.mono _ _ _)
      | (with_reducible exact dancestudioref26_SameRepeats.mono _ _ _)
      | (with_reducible exact repeats_Find.mono _ _ _ _)
      | (with_reducible exact LeO.refl _)
      | (with_reducible exact LeO.none _)
      | (with_reducible refine LeO.ite ?_ ?_)
      | (with_reducible refine LeO.bind ?_ (fun _ => ?_))
      | exact ih0 _ _ _
      | exact ih1 _
      | exact ih2 _ _ _ _ _
      | exact dancestudioref26_Same.mono _ _ _
      | exact dancestudioref26_SameRepeats.mono _ _ _
      | exact repeats_Find.mono _ _ _ _
      | exact LeO.none _
      | refine LeO.ite ?_ ?_
      | refine LeO.bind ?_ (fun _ => ?_)
set_option maxHeartbeats 8000000 in
set_option maxRecDepth 100000 in
theorem dancestudiolaw26_awake.calls (k : Nat)  (r : Bool) (w : World) (h : dancestudiolaw26_awake.f k  = some r) :
    Calls Try.prog 5 #[] w fun e w' => e = .returned (.bool r) ∧ Below w.heap.size w w' := by
  have HB := Aside0.mk (Below.refl w.heap.size w)
  have H : ((dancestudiolaw26_hold.f 0 8).bind fun bt191 => ((dancestudiolaw26_hold.f 8 12).bind fun bt198 => ((some (([(⟨bt191.1, bt191.2.1, bt191.2.2.1, bt191.2.2.2.1, bt191.2.2.2.2.1, bt191.2.2.2.2.2.1, bt191.2.2.2.2.2.2⟩ : S43), (⟨bt198.1, bt198.2.1, bt198.2.2.1, bt198.2.2.2.1, bt198.2.2.2.2.1, bt198.2.2.2.2.2.1, bt198.2.2.2.2.2.2⟩ : S43)] : List (S43)) : List (S43))).bind fun y205 => ((dancestudiolaw26_twice.f 0 8 2).bind fun bt208 => ((some (([(⟨(⟨bt208.1, bt208.2.1⟩ : S37), bt208.2.2⟩ : S39)] : List (S39)) : List (S39))).bind fun y211 => ((repeats_Perform.f y205 12 y211).bind fun bt214 => ((repeats_Length.f y205 12 y211).bind fun bt218 => (if bt214.2 = 0 then (if bt218.2 = 0 then (if bt218.1 = 20 then ((dancestudiolaw26_hold.f 0 8).bind fun bt220 => ((dancestudiolaw26_hold.f 8 16).bind fun bt227 => ((dancestudiolaw26_hold.f 16 20).bind fun bt234 => ((dancestudioref26_Same.f k bt214.1 (([(⟨bt220.1, bt220.2.1, bt220.2.2.1, bt220.2.2.2.1, bt220.2.2.2.2.1, bt220.2.2.2.2.2.1, bt220.2.2.2.2.2.2⟩ : S43), (⟨bt227.1, bt227.2.1, bt227.2.2.1, bt227.2.2.2.1, bt227.2.2.2.2.1, bt227.2.2.2.2.2.1, bt227.2.2.2.2.2.2⟩ : S43), (⟨bt234.1, bt234.2.1, bt234.2.2.1, bt234.2.2.2.1, bt234.2.2.2.2.1, bt234.2.2.2.2.2.1, bt234.2.2.2.2.2.2⟩ : S43)] : List (S43)))).bind fun t244 => (if t244 = true then ((dancestudiolaw26_hold.f 0 12).bind fun bt245 => ((repeats_Check.f (([(⟨bt245.1, bt245.2.1, bt245.2.2.1, bt245.2.2.2.1, bt245.2.2.2.2.1, bt245.2.2.2.2.2.1, bt245.2.2.2.2.2.2⟩ : S43)] : List (S43))) 12 y211).bind fun t255 => (dancestudiolaw26_awake.j0 k y205 y211 (t255 != 17)))) else (dancestudiolaw26_awake.j0 k y205 y211 true)))))) else (dancestudiolaw26_awake.j0 k y205 y211 true)) else (dancestudiolaw26_awake.j0 k y205 y211 true)) else (dancestudiolaw26_awake.j0 k y205 y211 true))))))))) = some r := h
  clear h
  replace H := Option.bind_eq_some_iff.mp H
  obtain ⟨⟨t191, t192, t193, t194, t195, t196, t197⟩, A10, H⟩ := H
  replace H : ((dancestudiolaw26_hold.f 8 12).bind fun bt198 => ((some (([(⟨t191, t192, t193, t194, t195, t196, t197⟩ : S43), (⟨bt198.1, bt198.2.1, bt198.2.2.1, bt198.2.2.2.1, bt198.2.2.2.2.1, bt198.2.2.2.2.2.1, bt198.2.2.2.2.2.2⟩ : S43)] : List (S43)) : List (S43))).bind fun y205 => ((dancestudiolaw26_twice.f 0 8 2).bind fun bt208 => ((some (([(⟨(⟨bt208.1, bt208.2.1⟩ : S37), bt208.2.2⟩ : S39)] : List (S39)) : List (S39))).bind fun y211 => ((repeats_Perform.f y205 12 y211).bind fun bt214 => ((repeats_Length.f y205 12 y211).bind fun bt218 => (if bt214.2 = 0 then (if bt218.2 = 0 then (if bt218.1 = 20 then ((dancestudiolaw26_hold.f 0 8).bind fun bt220 => ((dancestudiolaw26_hold.f 8 16).bind fun bt227 => ((dancestudiolaw26_hold.f 16 20).bind fun bt234 => ((dancestudioref26_Same.f k bt214.1 (([(⟨bt220.1, bt220.2.1, bt220.2.2.1, bt220.2.2.2.1, bt220.2.2.2.2.1, bt220.2.2.2.2.2.1, bt220.2.2.2.2.2.2⟩ : S43), (⟨bt227.1, bt227.2.1, bt227.2.2.1, bt227.2.2.2.1, bt227.2.2.2.2.1, bt227.2.2.2.2.2.1, bt227.2.2.2.2.2.2⟩ : S43), (⟨bt234.1, bt234.2.1, bt234.2.2.1, bt234.2.2.2.1, bt234.2.2.2.2.1, bt234.2.2.2.2.2.1, bt234.2.2.2.2.2.2⟩ : S43)] : List (S43)))).bind fun t244 => (if t244 = true then ((dancestudiolaw26_hold.f 0 12).bind fun bt245 => ((repeats_Check.f (([(⟨bt245.1, bt245.2.1, bt245.2.2.1, bt245.2.2.2.1, bt245.2.2.2.2.1, bt245.2.2.2.2.2.1, bt245.2.2.2.2.2.2⟩ : S43)] : List (S43))) 12 y211).bind fun t255 => (dancestudiolaw26_awake.j0 k y205 y211 (t255 != 17)))) else (dancestudiolaw26_awake.j0 k y205 y211 true)))))) else (dancestudiolaw26_awake.j0 k y205 y211 true)) else (dancestudiolaw26_awake.j0 k y205 y211 true)) else (dancestudiolaw26_awake.j0 k y205 y211 true)))))))) = some r := H
  have A1 := Aside0.mk A10
  clear A10
  replace H := Option.bind_eq_some_iff.mp H
  obtain ⟨⟨t198, t199, t200, t201, t202, t203, t204⟩, A20, H⟩ := H
  replace H : ((some (([(⟨t191, t192, t193, t194, t195, t196, t197⟩ : S43), (⟨t198, t199, t200, t201, t202, t203, t204⟩ : S43)] : List (S43)) : List (S43))).bind fun y205 => ((dancestudiolaw26_twice.f 0 8 2).bind fun bt208 => ((some (([(⟨(⟨bt208.1, bt208.2.1⟩ : S37), bt208.2.2⟩ : S39)] : List (S39)) : List (S39))).bind fun y211 => ((repeats_Perform.f y205 12 y211).bind fun bt214 => ((repeats_Length.f y205 12 y211).bind fun bt218 => (if bt214.2 = 0 then (if bt218.2 = 0 then (if bt218.1 = 20 then ((dancestudiolaw26_hold.f 0 8).bind fun bt220 => ((dancestudiolaw26_hold.f 8 16).bind fun bt227 => ((dancestudiolaw26_hold.f 16 20).bind fun bt234 => ((dancestudioref26_Same.f k bt214.1 (([(⟨bt220.1, bt220.2.1, bt220.2.2.1, bt220.2.2.2.1, bt220.2.2.2.2.1, bt220.2.2.2.2.2.1, bt220.2.2.2.2.2.2⟩ : S43), (⟨bt227.1, bt227.2.1, bt227.2.2.1, bt227.2.2.2.1, bt227.2.2.2.2.1, bt227.2.2.2.2.2.1, bt227.2.2.2.2.2.2⟩ : S43), (⟨bt234.1, bt234.2.1, bt234.2.2.1, bt234.2.2.2.1, bt234.2.2.2.2.1, bt234.2.2.2.2.2.1, bt234.2.2.2.2.2.2⟩ : S43)] : List (S43)))).bind fun t244 => (if t244 = true then ((dancestudiolaw26_hold.f 0 12).bind fun bt245 => ((repeats_Check.f (([(⟨bt245.1, bt245.2.1, bt245.2.2.1, bt245.2.2.2.1, bt245.2.2.2.2.1, bt245.2.2.2.2.2.1, bt245.2.2.2.2.2.2⟩ : S43)] : List (S43))) 12 y211).bind fun t255 => (dancestudiolaw26_awake.j0 k y205 y211 (t255 != 17)))) else (dancestudiolaw26_awake.j0 k y205 y211 true)))))) else (dancestudiolaw26_awake.j0 k y205 y211 true)) else (dancestudiolaw26_awake.j0 k y205 y211 true)) else (dancestudiolaw26_awake.j0 k y205 y211 true))))))) = some r := H
  have A2 := Aside0.mk A20
  clear A20
  obtain ⟨y205, hy205⟩ : ∃ y_ : List (S43), y_ = (([(⟨t191, t192, t193, t194, t195, t196, t197⟩ : S43), (⟨t198, t199, t200, t201, t202, t203, t204⟩ : S43)] : List (S43))) := ⟨_, rfl⟩
  replace H : ((dancestudiolaw26_twice.f 0 8 2).bind fun bt208 => ((some (([(⟨(⟨bt208.1, bt208.2.1⟩ : S37), bt208.2.2⟩ : S39)] : List (S39)) : List (S39))).bind fun y211 => ((repeats_Perform.f y205 12 y211).bind fun bt214 => ((repeats_Length.f y205 12 y211).bind fun bt218 => (if bt214.2 = 0 then (if bt218.2 = 0 then (if bt218.1 = 20 then ((dancestudiolaw26_hold.f 0 8).bind fun bt220 => ((dancestudiolaw26_hold.f 8 16).bind fun bt227 => ((dancestudiolaw26_hold.f 16 20).bind fun bt234 => ((dancestudioref26_Same.f k bt214.1 (([(⟨bt220.1, bt220.2.1, bt220.2.2.1, bt220.2.2.2.1, bt220.2.2.2.2.1, bt220.2.2.2.2.2.1, bt220.2.2.2.2.2.2⟩ : S43), (⟨bt227.1, bt227.2.1, bt227.2.2.1, bt227.2.2.2.1, bt227.2.2.2.2.1, bt227.2.2.2.2.2.1, bt227.2.2.2.2.2.2⟩ : S43), (⟨bt234.1, bt234.2.1, bt234.2.2.1, bt234.2.2.2.1, bt234.2.2.2.2.1, bt234.2.2.2.2.2.1, bt234.2.2.2.2.2.2⟩ : S43)] : List (S43)))).bind fun t244 => (if t244 = true then ((dancestudiolaw26_hold.f 0 12).bind fun bt245 => ((repeats_Check.f (([(⟨bt245.1, bt245.2.1, bt245.2.2.1, bt245.2.2.2.1, bt245.2.2.2.2.1, bt245.2.2.2.2.2.1, bt245.2.2.2.2.2.2⟩ : S43)] : List (S43))) 12 y211).bind fun t255 => (dancestudiolaw26_awake.j0 k y205 y211 (t255 != 17)))) else (dancestudiolaw26_awake.j0 k y205 y211 true)))))) else (dancestudiolaw26_awake.j0 k y205 y211 true)) else (dancestudiolaw26_awake.j0 k y205 y211 true)) else (dancestudiolaw26_awake.j0 k y205 y211 true)))))) = some r := by first | (rw [hy205]; with_reducible exact H) | (have H2_ := (Option.bind_some _ _).symm.trans H; rw [hy205]; with_reducible exact H2_) | (have H2_ := (Option.bind_some _ _).symm.trans H; with_reducible exact H2_) | with_reducible exact H | (rw [hy205]; exact H) | exact H
  have Ny205 := Aside0.mk hy205
  clear hy205
  replace H := Option.bind_eq_some_iff.mp H
  obtain ⟨⟨t208, t209, t210⟩, A30, H⟩ := H
  replace H : ((some (([(⟨(⟨t208, t209⟩ : S37), t210⟩ : S39)] : List (S39)) : List (S39))).bind fun y211 => ((repeats_Perform.f y205 12 y211).bind fun bt214 => ((repeats_Length.f y205 12 y211).bind fun bt218 => (if bt214.2 = 0 then (if bt218.2 = 0 then (if bt218.1 = 20 then ((dancestudiolaw26_hold.f 0 8).bind fun bt220 => ((dancestudiolaw26_hold.f 8 16).bind fun bt227 => ((dancestudiolaw26_hold.f 16 20).bind fun bt234 => ((dancestudioref26_Same.f k bt214.1 (([(⟨bt220.1, bt220.2.1, bt220.2.2.1, bt220.2.2.2.1, bt220.2.2.2.2.1, bt220.2.2.2.2.2.1, bt220.2.2.2.2.2.2⟩ : S43), (⟨bt227.1, bt227.2.1, bt227.2.2.1, bt227.2.2.2.1, bt227.2.2.2.2.1, bt227.2.2.2.2.2.1, bt227.2.2.2.2.2.2⟩ : S43), (⟨bt234.1, bt234.2.1, bt234.2.2.1, bt234.2.2.2.1, bt234.2.2.2.2.1, bt234.2.2.2.2.2.1, bt234.2.2.2.2.2.2⟩ : S43)] : List (S43)))).bind fun t244 => (if t244 = true then ((dancestudiolaw26_hold.f 0 12).bind fun bt245 => ((repeats_Check.f (([(⟨bt245.1, bt245.2.1, bt245.2.2.1, bt245.2.2.2.1, bt245.2.2.2.2.1, bt245.2.2.2.2.2.1, bt245.2.2.2.2.2.2⟩ : S43)] : List (S43))) 12 y211).bind fun t255 => (dancestudiolaw26_awake.j0 k y205 y211 (t255 != 17)))) else (dancestudiolaw26_awake.j0 k y205 y211 true)))))) else (dancestudiolaw26_awake.j0 k y205 y211 true)) else (dancestudiolaw26_awake.j0 k y205 y211 true)) else (dancestudiolaw26_awake.j0 k y205 y211 true))))) = some r := H
  have A3 := Aside0.mk A30
  clear A30
  obtain ⟨y211, hy211⟩ : ∃ y_ : List (S39), y_ = (([(⟨(⟨t208, t209⟩ : S37), t210⟩ : S39)] : List (S39))) := ⟨_, rfl⟩
  replace H : ((repeats_Perform.f y205 12 y211).bind fun bt214 => ((repeats_Length.f y205 12 y211).bind fun bt218 => (if bt214.2 = 0 then (if bt218.2 = 0 then (if bt218.1 = 20 then ((dancestudiolaw26_hold.f 0 8).bind fun bt220 => ((dancestudiolaw26_hold.f 8 16).bind fun bt227 => ((dancestudiolaw26_hold.f 16 20).bind fun bt234 => ((dancestudioref26_Same.f k bt214.1 (([(⟨bt220.1, bt220.2.1, bt220.2.2.1, bt220.2.2.2.1, bt220.2.2.2.2.1, bt220.2.2.2.2.2.1, bt220.2.2.2.2.2.2⟩ : S43), (⟨bt227.1, bt227.2.1, bt227.2.2.1, bt227.2.2.2.1, bt227.2.2.2.2.1, bt227.2.2.2.2.2.1, bt227.2.2.2.2.2.2⟩ : S43), (⟨bt234.1, bt234.2.1, bt234.2.2.1, bt234.2.2.2.1, bt234.2.2.2.2.1, bt234.2.2.2.2.2.1, bt234.2.2.2.2.2.2⟩ : S43)] : List (S43)))).bind fun t244 => (if t244 = true then ((dancestudiolaw26_hold.f 0 12).bind fun bt245 => ((repeats_Check.f (([(⟨bt245.1, bt245.2.1, bt245.2.2.1, bt245.2.2.2.1, bt245.2.2.2.2.1, bt245.2.2.2.2.2.1, bt245.2.2.2.2.2.2⟩ : S43)] : List (S43))) 12 y211).bind fun t255 => (dancestudiolaw26_awake.j0 k y205 y211 (t255 != 17)))) else (dancestudiolaw26_awake.j0 k y205 y211 true)))))) else (dancestudiolaw26_awake.j0 k y205 y211 true)) else (dancestudiolaw26_awake.j0 k y205 y211 true)) else (dancestudiolaw26_awake.j0 k y205 y211 true)))) = some r := by first | (rw [hy211]; with_reducible exact H) | (have H2_ := (Option.bind_some _ _).symm.trans H; rw [hy211]; with_reducible exact H2_) | (have H2_ := (Option.bind_some _ _).symm.trans H; with_reducible exact H2_) | with_reducible exact H | (rw [hy211]; exact H) | exact H
  have Ny211 := Aside0.mk hy211
  clear hy211
  replace H := Option.bind_eq_some_iff.mp H
  obtain ⟨⟨t214, t215⟩, A40, H⟩ := H
  replace H : ((repeats_Length.f y205 12 y211).bind fun bt218 => (if t215 = 0 then (if bt218.2 = 0 then (if bt218.1 = 20 then ((dancestudiolaw26_hold.f 0 8).bind fun bt220 => ((dancestudiolaw26_hold.f 8 16).bind fun bt227 => ((dancestudiolaw26_hold.f 16 20).bind fun bt234 => ((dancestudioref26_Same.f k t214 (([(⟨bt220.1, bt220.2.1, bt220.2.2.1, bt220.2.2.2.1, bt220.2.2.2.2.1, bt220.2.2.2.2.2.1, bt220.2.2.2.2.2.2⟩ : S43), (⟨bt227.1, bt227.2.1, bt227.2.2.1, bt227.2.2.2.1, bt227.2.2.2.2.1, bt227.2.2.2.2.2.1, bt227.2.2.2.2.2.2⟩ : S43), (⟨bt234.1, bt234.2.1, bt234.2.2.1, bt234.2.2.2.1, bt234.2.2.2.2.1, bt234.2.2.2.2.2.1, bt234.2.2.2.2.2.2⟩ : S43)] : List (S43)))).bind fun t244 => (if t244 = true then ((dancestudiolaw26_hold.f 0 12).bind fun bt245 => ((repeats_Check.f (([(⟨bt245.1, bt245.2.1, bt245.2.2.1, bt245.2.2.2.1, bt245.2.2.2.2.1, bt245.2.2.2.2.2.1, bt245.2.2.2.2.2.2⟩ : S43)] : List (S43))) 12 y211).bind fun t255 => (dancestudiolaw26_awake.j0 k y205 y211 (t255 != 17)))) else (dancestudiolaw26_awake.j0 k y205 y211 true)))))) else (dancestudiolaw26_awake.j0 k y205 y211 true)) else (dancestudiolaw26_awake.j0 k y205 y211 true)) else (dancestudiolaw26_awake.j0 k y205 y211 true))) = some r := H
  have A4 := Aside0.mk A40
  clear A40
  replace H := Option.bind_eq_some_iff.mp H
  obtain ⟨⟨t218, t219⟩, A50, H⟩ := H
  replace H : (if t215 = 0 then (if t219 = 0 then (if t218 = 20 then ((dancestudiolaw26_hold.f 0 8).bind fun bt220 => ((dancestudiolaw26_hold.f 8 16).bind fun bt227 => ((dancestudiolaw26_hold.f 16 20).bind fun bt234 => ((dancestudioref26_Same.f k t214 (([(⟨bt220.1, bt220.2.1, bt220.2.2.1, bt220.2.2.2.1, bt220.2.2.2.2.1, bt220.2.2.2.2.2.1, bt220.2.2.2.2.2.2⟩ : S43), (⟨bt227.1, bt227.2.1, bt227.2.2.1, bt227.2.2.2.1, bt227.2.2.2.2.1, bt227.2.2.2.2.2.1, bt227.2.2.2.2.2.2⟩ : S43), (⟨bt234.1, bt234.2.1, bt234.2.2.1, bt234.2.2.2.1, bt234.2.2.2.2.1, bt234.2.2.2.2.2.1, bt234.2.2.2.2.2.2⟩ : S43)] : List (S43)))).bind fun t244 => (if t244 = true then ((dancestudiolaw26_hold.f 0 12).bind fun bt245 => ((repeats_Check.f (([(⟨bt245.1, bt245.2.1, bt245.2.2.1, bt245.2.2.2.1, bt245.2.2.2.2.1, bt245.2.2.2.2.2.1, bt245.2.2.2.2.2.2⟩ : S43)] : List (S43))) 12 y211).bind fun t255 => (dancestudiolaw26_awake.j0 k y205 y211 (t255 != 17)))) else (dancestudiolaw26_awake.j0 k y205 y211 true)))))) else (dancestudiolaw26_awake.j0 k y205 y211 true)) else (dancestudiolaw26_awake.j0 k y205 y211 true)) else (dancestudiolaw26_awake.j0 k y205 y211 true)) = some r := H
  have A5 := Aside0.mk A50
  clear A50
  have HC6 := Aside0.mk H
  clear H
  go_enter Try.func5, Try.ntmps5
  go_upto_region 4 with (first | ((with_reducible refine gate_callee (f := 13) rfl ?_); refine goesL_ (some 15) rfl rfl Try.func13 (by kernel_rfl) rfl #[.int .i64 0, .int .i64 8] rfl (by (try simp only [List.map_toArray, List.map_cons, List.map_nil]); first | done | rfl | (simp only [List.length_drop, List.length_take]; rfl)) ?_; (with_reducible refine (dancestudiolaw26_hold.calls 0 8 t191 t192 t193 t194 t195 t196 t197 _ A1.out).mono ?_); rintro e w7 ⟨rfl, hb⟩; refine ⟨_, rfl, ?_⟩; have n0_ := Aside0.mk (below_step (by repeat (first | (with_reducible first | exact HB.out | apply below_alloc | apply pw_below_drewN | apply below_drew1) | exact HB.out)) hb); clear HB; have HB := n0_; clear n0_; (try clear hb); (try clear hb2); (try clear hk); (try clear hi)) | ((with_reducible refine gate_callee (f := 13) rfl ?_); refine goesL_ (some 16) rfl rfl Try.func13 (by kernel_rfl) rfl #[.int .i64 8, .int .i64 12] rfl (by (try simp only [List.map_toArray, List.map_cons, List.map_nil]); first | done | rfl | (simp only [List.length_drop, List.length_take]; rfl)) ?_; (with_reducible refine (dancestudiolaw26_hold.calls 8 12 t198 t199 t200 t201 t202 t203 t204 _ A2.out).mono ?_); rintro e w8 ⟨rfl, hb⟩; refine ⟨_, rfl, ?_⟩; have n0_ := Aside0.mk (below_step (by repeat (first | (with_reducible first | exact HB.out | apply below_alloc | apply pw_below_drewN | apply below_drew1) | exact HB.out)) hb); clear HB; have HB := n0_; clear n0_; (try clear hb); (try clear hb2); (try clear hk); (try clear hi)) | ((with_reducible refine gate_dst (N := 17) rfl ?_); (try (refine gate_guard (by rfl) ?_; dsimp only)); refine Kd.R_lit k43 _ 43 ?hg (N := 17) ?hd (xs := ([(⟨t191, t192, t193, t194, t195, t196, t197⟩ : S43), (⟨t198, t199, t200, t201, t202, t203, t204⟩ : S43)] : List (S43))) (inner := [.int .i64 t191, .int .i64 t192, .int .i64 t193, .int .i64 t194, .int .i64 t195, .int .i64 t196, .int .i64 t197, .int .i64 t198, .int .i64 t199, .int .i64 t200, .int .i64 t201, .int .i64 t202, .int .i64 t203, .int .i64 t204]) (ok := fun _ => True) (okp := fun _ => True) ?hr ?hp (fun _ hk => hk) trivial (Below.refl _ _) (Nat.le_refl _) (by simp) ?_; (case hd => rfl); (case hg => rfl); (case hr => first | (go_simp; done) | (go_simp; rfl)); (case hp => exact (Reps.c7 (show Kd.M k43 _ _ _ (⟨t191, t192, t193, t194, t195, t196, t197⟩ : S43) [.int .i64 t191, .int .i64 t192, .int .i64 t193, .int .i64 t194, .int .i64 t195, .int .i64 t196, .int .i64 t197] from (k43_mkM _ _ _ (⟨t191, t192, t193, t194, t195, t196, t197⟩ : S43) )) (Reps.c7 (show Kd.M k43 _ _ _ (⟨t198, t199, t200, t201, t202, t203, t204⟩ : S43) [.int .i64 t198, .int .i64 t199, .int .i64 t200, .int .i64 t201, .int .i64 t202, .int .i64 t203, .int .i64 t204] from (k43_mkM _ _ _ (⟨t198, t199, t200, t201, t202, t203, t204⟩ : S43) )) (Reps.none _ _)))); intro v206 w9 ho10 hb hg_ hnew_; clear hg_ hnew_; (first | rw [← Ny205.out] at ho10 | (simp only [Int.reduceToNat] at ho10; rw [← Ny205.out] at ho10)); have n0_ := Aside0.mk (Kd.R_lower ho10 (below_size (by repeat (first | (with_reducible first | exact HB.out | apply below_alloc | apply pw_below_drewN | apply below_drew1) | exact HB.out)))); have n1_ := Aside0.mk (below_step (by repeat (first | (with_reducible first | exact HB.out | apply below_alloc | apply pw_below_drewN | apply below_drew1) | exact HB.out)) hb); clear HB; have HO207 := n0_; have HB := n1_; clear n0_ n1_; clear hb ho10) | ((with_reducible refine gate_callee (f := 12) rfl ?_); refine goesL_ (some 18) rfl rfl Try.func12 (by kernel_rfl) rfl #[.int .i64 0, .int .i64 8, .int .i64 2] rfl (by (try simp only [List.map_toArray, List.map_cons, List.map_nil]); first | done | rfl | (simp only [List.length_drop, List.length_take]; rfl)) ?_; (with_reducible refine (dancestudiolaw26_twice.calls 0 8 2 t208 t209 t210 _ A3.out).mono ?_); rintro e w11 ⟨rfl, hb⟩; refine ⟨_, rfl, ?_⟩; have n0_ := Aside0.mk (Kd.R_below (by (with_reducible repeat (first | apply Kd.R_alloc | apply Kd.R_drewN | apply Kd.R_drew)); exact HO207.out) hb); have n1_ := Aside0.mk (below_step (by repeat (first | (with_reducible first | exact HB.out | apply below_alloc | apply pw_below_drewN | apply below_drew1) | exact HB.out)) hb); clear HO207; clear HB; have HO207 := n0_; have HB := n1_; clear n0_ n1_; (try clear hb); (try clear hb2); (try clear hk); (try clear hi)) | ((with_reducible refine gate_dst (N := 19) rfl ?_); (try (refine gate_guard (by rfl) ?_; dsimp only)); refine Kd.R_lit k39 _ 39 ?hg (N := 19) ?hd (xs := ([(⟨(⟨t208, t209⟩ : S37), t210⟩ : S39)] : List (S39))) (inner := [.int .i64 t208, .int .i64 t209, .int .i64 t210]) (ok := fun _ => True) (okp := fun _ => True) ?hr ?hp (fun _ hk => hk) trivial (Below.refl _ _) (Nat.le_refl _) (by simp) ?_; (case hd => rfl); (case hg => rfl); (case hr => first | (go_simp; done) | (go_simp; rfl)); (case hp => exact (Reps.c3 (show Kd.M k39 _ _ _ (⟨(⟨t208, t209⟩ : S37), t210⟩ : S39) [.int .i64 t208, .int .i64 t209, .int .i64 t210] from (k39_mkM _ _ _ (⟨(⟨t208, t209⟩ : S37), t210⟩ : S39) )) (Reps.none _ _))); intro v212 w12 ho13 hb hg_ hnew_; clear hg_ hnew_; (first | rw [← Ny211.out] at ho13 | (simp only [Int.reduceToNat] at ho13; rw [← Ny211.out] at ho13)); have n0_ := Aside0.mk (Kd.R_below (by (with_reducible repeat (first | apply Kd.R_alloc | apply Kd.R_drewN | apply Kd.R_drew)); exact HO207.out) hb); have n1_ := Aside0.mk (Kd.R_lower ho13 (below_size (by repeat (first | (with_reducible first | exact HB.out | apply below_alloc | apply pw_below_drewN | apply below_drew1) | exact HB.out)))); have n2_ := Aside0.mk (below_step (by repeat (first | (with_reducible first | exact HB.out | apply below_alloc | apply pw_below_drewN | apply below_drew1) | exact HB.out)) hb); clear HO207; clear HB; have HO207 := n0_; have HO213 := n1_; have HB := n2_; clear n0_ n1_ n2_; clear hb ho13; obtain ⟨Ao14, co14, eo14⟩ := Kd.R_slice HO207.out; subst eo14; obtain ⟨Ao15, co15, eo15⟩ := Kd.R_slice HO213.out; subst eo15) | ((with_reducible refine gate_callee (f := 8) rfl ?_); refine goesL_ (some 23) rfl rfl Try.func8 (by kernel_rfl) rfl #[.slice Ao14 y205.length co14, .int .i64 12, .slice Ao15 y211.length co15] rfl (by (try simp only [List.map_toArray, List.map_cons, List.map_nil]); first | done | rfl | (simp only [List.length_drop, List.length_take]; rfl)) ?_; (with_reducible refine (repeats_Perform.calls _ _ y205 12 _ _ y211 t214 t215 _ ?side1 ?side2 ?side3 ?side4 A4.out).mono ?_); (case side1 => repeat (first | exact (Kd.R_reads' HO207.out).2.2 | (with_reducible refine Kd.C_alloc ?_ _) | (with_reducible refine Kd.C_drewN ?_ _) | (with_reducible refine Kd.C_drew ?_))); (case side2 => exact (Kd.R_reads' HO207.out).2.1); (case side3 => repeat (first | exact (Kd.R_reads' HO213.out).2.2 | (with_reducible refine Kd.C_alloc ?_ _) | (with_reducible refine Kd.C_drewN ?_ _) | (with_reducible refine Kd.C_drew ?_))); (case side4 => exact (Kd.R_reads' HO213.out).2.1); rintro e w16 ⟨v216, rfl, ho0, hb⟩; refine ⟨_, rfl, ?_⟩; have n0_ := Aside0.mk (Kd.R_elder' (by (with_reducible repeat (first | apply Kd.R_alloc | apply Kd.R_drewN | apply Kd.R_drew)); exact HO207.out) (Kd.R_base ho0) hb); have n1_ := Aside0.mk (Kd.R_below (by (with_reducible repeat (first | apply Kd.R_alloc | apply Kd.R_drewN | apply Kd.R_drew)); exact HO213.out) hb); have n2_ := Aside0.mk (Kd.R_lower (Kd.R_new' ho0 (Kd.R_lt (by (with_reducible repeat (first | apply Kd.R_alloc | apply Kd.R_drewN | apply Kd.R_drew)); exact HO207.out))) (below_size (by repeat (first | (with_reducible first | exact HB.out | apply below_alloc | apply pw_below_drewN | apply below_drew1) | exact HB.out)))); have n3_ := Aside0.mk (below_step (by repeat (first | (with_reducible first | exact HB.out | apply below_alloc | apply pw_below_drewN | apply below_drew1) | exact HB.out)) hb); clear HO207; clear HO213; clear HB; have HO207 := n0_; have HO213 := n1_; have HO217 := n2_; have HB := n3_; clear n0_ n1_ n2_ n3_; (try clear hb); (try clear hb2); (try clear hk); (try clear hi); (try clear ho0)) | ((with_reducible refine gate_callee (f := 9) rfl ?_); refine goesL_ (some 29) rfl rfl Try.func9 (by kernel_rfl) rfl #[.slice Ao14 y205.length co14, .int .i64 12, .slice Ao15 y211.length co15] rfl (by (try simp only [List.map_toArray, List.map_cons, List.map_nil]); first | done | rfl | (simp only [List.length_drop, List.length_take]; rfl)) ?_; (with_reducible refine (repeats_Length.calls _ _ y205 12 _ _ y211 t218 t219 _ ?side1 ?side2 ?side3 ?side4 A5.out).mono ?_); (case side1 => repeat (first | exact (Kd.R_reads' HO207.out).2.2 | (with_reducible refine Kd.C_alloc ?_ _) | (with_reducible refine Kd.C_drewN ?_ _) | (with_reducible refine Kd.C_drew ?_))); (case side2 => exact (Kd.R_reads' HO207.out).2.1); (case side3 => repeat (first | exact (Kd.R_reads' HO213.out).2.2 | (with_reducible refine Kd.C_alloc ?_ _) | (with_reducible refine Kd.C_drewN ?_ _) | (with_reducible refine Kd.C_drew ?_))); (case side4 => exact (Kd.R_reads' HO213.out).2.1); rintro e w17 ⟨rfl, hb⟩; refine ⟨_, rfl, ?_⟩; have n0_ := Aside0.mk (Kd.R_below (by (with_reducible repeat (first | apply Kd.R_alloc | apply Kd.R_drewN | apply Kd.R_drew)); exact HO207.out) hb); have n1_ := Aside0.mk (Kd.R_below (by (with_reducible repeat (first | apply Kd.R_alloc | apply Kd.R_drewN | apply Kd.R_drew)); exact HO213.out) hb); have n2_ := Aside0.mk (Kd.R_below (by (with_reducible repeat (first | apply Kd.R_alloc | apply Kd.R_drewN | apply Kd.R_drew)); exact HO217.out) hb); have n3_ := Aside0.mk (below_step (by repeat (first | (with_reducible first | exact HB.out | apply below_alloc | apply pw_below_drewN | apply below_drew1) | exact HB.out)) hb); clear HO207; clear HO213; clear HO217; clear HB; have HO207 := n0_; have HO213 := n1_; have HO217 := n2_; have HB := n3_; clear n0_ n1_ n2_ n3_; (try clear hb); (try clear hb2); (try clear hk); (try clear hi)))
  (try simp only [Act.put, List.setIfInBounds_toArray, List.set_cons_zero, List.set_cons_succ])
  go_cut [57] (fun v57 wc => ∃ (kq : Nat) (x57_5 : Bool), v57 = .bool x57_5 ∧ Aside0 (dancestudiolaw26_awake.j0 kq y205 y211 x57_5 = some r) ∧ Aside0 (kq ≤ k) ∧ Aside0 (Kd.R k43 43 wc w.heap.size (fun _ => True) (.slice Ao14 y205.length co14) y205) ∧ Aside0 (Kd.R k39 39 wc w.heap.size (fun _ => True) (.slice Ao15 y211.length co15) y211) ∧ Aside0 (Below w.heap.size w wc))
  case first =>
    have H := HC6.out
    clear HC6
    by_cases c18 : t215 = 0
    · rw [if_pos c18] at H
      have c18b0 : (t215 == 0) = true := beq_iff_eq.mpr c18
      have c18b1 : (t215 != 0) = false := bne_eq_false_iff_eq.mpr c18
      clear c18
      (first | rw [c18b0] | (simp only [i64_w, i32_w]; rw [c18b0]) | skip)
      by_cases c19 : t219 = 0
      · rw [if_pos c19] at H
        have c19b0 : (t219 == 0) = true := beq_iff_eq.mpr c19
        have c19b1 : (t219 != 0) = false := bne_eq_false_iff_eq.mpr c19
        clear c19
        by_cases c20 : t218 = 20
        · rw [if_pos c20] at H
          have c20b0 : (t218 == 20) = true := beq_iff_eq.mpr c20
          have c20b1 : (t218 != 20) = false := bne_eq_false_iff_eq.mpr c20
          clear c20
          replace H := Option.bind_eq_some_iff.mp H
          obtain ⟨⟨t220, t221, t222, t223, t224, t225, t226⟩, A210, H⟩ := H
          replace H : ((dancestudiolaw26_hold.f 8 16).bind fun bt227 => ((dancestudiolaw26_hold.f 16 20).bind fun bt234 => ((dancestudioref26_Same.f k t214 (([(⟨t220, t221, t222, t223, t224, t225, t226⟩ : S43), (⟨bt227.1, bt227.2.1, bt227.2.2.1, bt227.2.2.2.1, bt227.2.2.2.2.1, bt227.2.2.2.2.2.1, bt227.2.2.2.2.2.2⟩ : S43), (⟨bt234.1, bt234.2.1, bt234.2.2.1, bt234.2.2.2.1, bt234.2.2.2.2.1, bt234.2.2.2.2.2.1, bt234.2.2.2.2.2.2⟩ : S43)] : List (S43)))).bind fun t244 => (if t244 = true then ((dancestudiolaw26_hold.f 0 12).bind fun bt245 => ((repeats_Check.f (([(⟨bt245.1, bt245.2.1, bt245.2.2.1, bt245.2.2.2.1, bt245.2.2.2.2.1, bt245.2.2.2.2.2.1, bt245.2.2.2.2.2.2⟩ : S43)] : List (S43))) 12 y211).bind fun t255 => (dancestudiolaw26_awake.j0 k y205 y211 (t255 != 17)))) else (dancestudiolaw26_awake.j0 k y205 y211 true))))) = some r := H
          have A21 := Aside0.mk A210
          clear A210
          replace H := Option.bind_eq_some_iff.mp H
          obtain ⟨⟨t227, t228, t229, t230, t231, t232, t233⟩, A220, H⟩ := H
          replace H : ((dancestudiolaw26_hold.f 16 20).bind fun bt234 => ((dancestudioref26_Same.f k t214 (([(⟨t220, t221, t222, t223, t224, t225, t226⟩ : S43), (⟨t227, t228, t229, t230, t231, t232, t233⟩ : S43), (⟨bt234.1, bt234.2.1, bt234.2.2.1, bt234.2.2.2.1, bt234.2.2.2.2.1, bt234.2.2.2.2.2.1, bt234.2.2.2.2.2.2⟩ : S43)] : List (S43)))).bind fun t244 => (if t244 = true then ((dancestudiolaw26_hold.f 0 12).bind fun bt245 => ((repeats_Check.f (([(⟨bt245.1, bt245.2.1, bt245.2.2.1, bt245.2.2.2.1, bt245.2.2.2.2.1, bt245.2.2.2.2.2.1, bt245.2.2.2.2.2.2⟩ : S43)] : List (S43))) 12 y211).bind fun t255 => (dancestudiolaw26_awake.j0 k y205 y211 (t255 != 17)))) else (dancestudiolaw26_awake.j0 k y205 y211 true)))) = some r := H
          have A22 := Aside0.mk A220
          clear A220
          replace H := Option.bind_eq_some_iff.mp H
          obtain ⟨⟨t234, t235, t236, t237, t238, t239, t240⟩, A230, H⟩ := H
          replace H : ((dancestudioref26_Same.f k t214 (([(⟨t220, t221, t222, t223, t224, t225, t226⟩ : S43), (⟨t227, t228, t229, t230, t231, t232, t233⟩ : S43), (⟨t234, t235, t236, t237, t238, t239, t240⟩ : S43)] : List (S43)))).bind fun t244 => (if t244 = true then ((dancestudiolaw26_hold.f 0 12).bind fun bt245 => ((repeats_Check.f (([(⟨bt245.1, bt245.2.1, bt245.2.2.1, bt245.2.2.2.1, bt245.2.2.2.2.1, bt245.2.2.2.2.2.1, bt245.2.2.2.2.2.2⟩ : S43)] : List (S43))) 12 y211).bind fun t255 => (dancestudiolaw26_awake.j0 k y205 y211 (t255 != 17)))) else (dancestudiolaw26_awake.j0 k y205 y211 true))) = some r := H
          have A23 := Aside0.mk A230
          clear A230
          obtain ⟨y241, hy241⟩ : ∃ y_ : List (S43), y_ = (([(⟨t220, t221, t222, t223, t224, t225, t226⟩ : S43), (⟨t227, t228, t229, t230, t231, t232, t233⟩ : S43), (⟨t234, t235, t236, t237, t238, t239, t240⟩ : S43)] : List (S43))) := ⟨_, rfl⟩
          replace H : ((dancestudioref26_Same.f k t214 y241).bind fun t244 => (if t244 = true then ((dancestudiolaw26_hold.f 0 12).bind fun bt245 => ((repeats_Check.f (([(⟨bt245.1, bt245.2.1, bt245.2.2.1, bt245.2.2.2.1, bt245.2.2.2.2.1, bt245.2.2.2.2.2.1, bt245.2.2.2.2.2.2⟩ : S43)] : List (S43))) 12 y211).bind fun t255 => (dancestudiolaw26_awake.j0 k y205 y211 (t255 != 17)))) else (dancestudiolaw26_awake.j0 k y205 y211 true))) = some r := by first | (rw [hy241]; with_reducible exact H) | (have H2_ := (Option.bind_some _ _).symm.trans H; rw [hy241]; with_reducible exact H2_) | (have H2_ := (Option.bind_some _ _).symm.trans H; with_reducible exact H2_) | with_reducible exact H | (rw [hy241]; exact H) | exact H
          have Ny241 := Aside0.mk hy241
          clear hy241
          replace H := Option.bind_eq_some_iff.mp H
          obtain ⟨t244, A240, H⟩ := H
          replace H : (if t244 = true then ((dancestudiolaw26_hold.f 0 12).bind fun bt245 => ((repeats_Check.f (([(⟨bt245.1, bt245.2.1, bt245.2.2.1, bt245.2.2.2.1, bt245.2.2.2.2.1, bt245.2.2.2.2.2.1, bt245.2.2.2.2.2.2⟩ : S43)] : List (S43))) 12 y211).bind fun t255 => (dancestudiolaw26_awake.j0 k y205 y211 (t255 != 17)))) else (dancestudiolaw26_awake.j0 k y205 y211 true)) = some r := H
          have A24 := Aside0.mk A240
          clear A240
          by_cases c25 : t244 = true
          · subst c25
            have H1 : ((dancestudiolaw26_hold.f 0 12).bind fun bt245 => ((repeats_Check.f (([(⟨bt245.1, bt245.2.1, bt245.2.2.1, bt245.2.2.2.1, bt245.2.2.2.2.1, bt245.2.2.2.2.2.1, bt245.2.2.2.2.2.2⟩ : S43)] : List (S43))) 12 y211).bind fun t255 => (dancestudiolaw26_awake.j0 k y205 y211 (t255 != 17)))) = some r := by rw [if_pos rfl] at H; exact H
            clear H
            have H := H1
            clear H1
            replace H := Option.bind_eq_some_iff.mp H
            obtain ⟨⟨t245, t246, t247, t248, t249, t250, t251⟩, A260, H⟩ := H
            replace H : ((repeats_Check.f (([(⟨t245, t246, t247, t248, t249, t250, t251⟩ : S43)] : List (S43))) 12 y211).bind fun t255 => (dancestudiolaw26_awake.j0 k y205 y211 (t255 != 17))) = some r := H
            have A26 := Aside0.mk A260
            clear A260
            obtain ⟨y252, hy252⟩ : ∃ y_ : List (S43), y_ = (([(⟨t245, t246, t247, t248, t249, t250, t251⟩ : S43)] : List (S43))) := ⟨_, rfl⟩
            replace H : ((repeats_Check.f y252 12 y211).bind fun t255 => (dancestudiolaw26_awake.j0 k y205 y211 (t255 != 17))) = some r := by first | (rw [hy252]; with_reducible exact H) | (have H2_ := (Option.bind_some _ _).symm.trans H; rw [hy252]; with_reducible exact H2_) | (have H2_ := (Option.bind_some _ _).symm.trans H; with_reducible exact H2_) | with_reducible exact H | (rw [hy252]; exact H) | exact H
            have Ny252 := Aside0.mk hy252
            clear hy252
            replace H := Option.bind_eq_some_iff.mp H
            obtain ⟨t255, A270, H⟩ := H
            replace H : (dancestudiolaw26_awake.j0 k y205 y211 (t255 != 17)) = some r := H
            have A27 := Aside0.mk A270
            clear A270
            have H' := Aside0.mk H
            clear H
            go_wp2_with (first | (go_at_call 13; (with_reducible refine (dancestudiolaw26_hold.calls 0 8 t220 t221 t222 t223 t224 t225 t226 _ A21.out).mono ?_); rintro e w28 ⟨rfl, hb⟩; have n0_ := Aside0.mk (Kd.R_below (by (with_reducible repeat (first | apply Kd.R_alloc | apply Kd.R_drewN | apply Kd.R_drew)); exact HO207.out) hb); have n1_ := Aside0.mk (Kd.R_below (by (with_reducible repeat (first | apply Kd.R_alloc | apply Kd.R_drewN | apply Kd.R_drew)); exact HO213.out) hb); have n2_ := Aside0.mk (Kd.R_below (by (with_reducible repeat (first | apply Kd.R_alloc | apply Kd.R_drewN | apply Kd.R_drew)); exact HO217.out) hb); have n3_ := Aside0.mk (below_step (by repeat (first | (with_reducible first | exact HB.out | apply below_alloc | apply pw_below_drewN | apply below_drew1) | exact HB.out)) hb); clear HO207; clear HO213; clear HO217; clear HB; have HO207 := n0_; have HO213 := n1_; have HO217 := n2_; have HB := n3_; clear n0_ n1_ n2_ n3_; (try clear hb); (try clear hb2); (try clear hk); (try clear hi)) | (go_at_call 13; (with_reducible refine (dancestudiolaw26_hold.calls 8 16 t227 t228 t229 t230 t231 t232 t233 _ A22.out).mono ?_); rintro e w29 ⟨rfl, hb⟩; have n0_ := Aside0.mk (Kd.R_below (by (with_reducible repeat (first | apply Kd.R_alloc | apply Kd.R_drewN | apply Kd.R_drew)); exact HO207.out) hb); have n1_ := Aside0.mk (Kd.R_below (by (with_reducible repeat (first | apply Kd.R_alloc | apply Kd.R_drewN | apply Kd.R_drew)); exact HO213.out) hb); have n2_ := Aside0.mk (Kd.R_below (by (with_reducible repeat (first | apply Kd.R_alloc | apply Kd.R_drewN | apply Kd.R_drew)); exact HO217.out) hb); have n3_ := Aside0.mk (below_step (by repeat (first | (with_reducible first | exact HB.out | apply below_alloc | apply pw_below_drewN | apply below_drew1) | exact HB.out)) hb); clear HO207; clear HO213; clear HO217; clear HB; have HO207 := n0_; have HO213 := n1_; have HO217 := n2_; have HB := n3_; clear n0_ n1_ n2_ n3_; (try clear hb); (try clear hb2); (try clear hk); (try clear hi)) | (go_at_call 13; (with_reducible refine (dancestudiolaw26_hold.calls 16 20 t234 t235 t236 t237 t238 t239 t240 _ A23.out).mono ?_); rintro e w30 ⟨rfl, hb⟩; have n0_ := Aside0.mk (Kd.R_below (by (with_reducible repeat (first | apply Kd.R_alloc | apply Kd.R_drewN | apply Kd.R_drew)); exact HO207.out) hb); have n1_ := Aside0.mk (Kd.R_below (by (with_reducible repeat (first | apply Kd.R_alloc | apply Kd.R_drewN | apply Kd.R_drew)); exact HO213.out) hb); have n2_ := Aside0.mk (Kd.R_below (by (with_reducible repeat (first | apply Kd.R_alloc | apply Kd.R_drewN | apply Kd.R_drew)); exact HO217.out) hb); have n3_ := Aside0.mk (below_step (by repeat (first | (with_reducible first | exact HB.out | apply below_alloc | apply pw_below_drewN | apply below_drew1) | exact HB.out)) hb); clear HO207; clear HO213; clear HO217; clear HB; have HO207 := n0_; have HO213 := n1_; have HO217 := n2_; have HB := n3_; clear n0_ n1_ n2_ n3_; (try clear hb); (try clear hb2); (try clear hk); (try clear hi)) | ((with_reducible refine gate_dst (N := 47) rfl ?_); (try (refine gate_guard (by rfl) ?_; dsimp only)); refine Kd.R_lit k43 _ 43 ?hg (N := 47) ?hd (xs := ([(⟨t220, t221, t222, t223, t224, t225, t226⟩ : S43), (⟨t227, t228, t229, t230, t231, t232, t233⟩ : S43), (⟨t234, t235, t236, t237, t238, t239, t240⟩ : S43)] : List (S43))) (inner := [.int .i64 t220, .int .i64 t221, .int .i64 t222, .int .i64 t223, .int .i64 t224, .int .i64 t225, .int .i64 t226, .int .i64 t227, .int .i64 t228, .int .i64 t229, .int .i64 t230, .int .i64 t231, .int .i64 t232, .int .i64 t233, .int .i64 t234, .int .i64 t235, .int .i64 t236, .int .i64 t237, .int .i64 t238, .int .i64 t239, .int .i64 t240]) (ok := fun _ => True) (okp := fun _ => True) ?hr ?hp (fun _ hk => hk) trivial (Below.refl _ _) (Nat.le_refl _) (by simp) ?_; (case hd => rfl); (case hg => rfl); (case hr => first | (go_simp; done) | (go_simp; rfl)); (case hp => exact (Reps.c7 (show Kd.M k43 _ _ _ (⟨t220, t221, t222, t223, t224, t225, t226⟩ : S43) [.int .i64 t220, .int .i64 t221, .int .i64 t222, .int .i64 t223, .int .i64 t224, .int .i64 t225, .int .i64 t226] from (k43_mkM _ _ _ (⟨t220, t221, t222, t223, t224, t225, t226⟩ : S43) )) (Reps.c7 (show Kd.M k43 _ _ _ (⟨t227, t228, t229, t230, t231, t232, t233⟩ : S43) [.int .i64 t227, .int .i64 t228, .int .i64 t229, .int .i64 t230, .int .i64 t231, .int .i64 t232, .int .i64 t233] from (k43_mkM _ _ _ (⟨t227, t228, t229, t230, t231, t232, t233⟩ : S43) )) (Reps.c7 (show Kd.M k43 _ _ _ (⟨t234, t235, t236, t237, t238, t239, t240⟩ : S43) [.int .i64 t234, .int .i64 t235, .int .i64 t236, .int .i64 t237, .int .i64 t238, .int .i64 t239, .int .i64 t240] from (k43_mkM _ _ _ (⟨t234, t235, t236, t237, t238, t239, t240⟩ : S43) )) (Reps.none _ _))))); intro v242 w31 ho32 hb hg_ hnew_; clear hg_ hnew_; (first | rw [← Ny241.out] at ho32 | (simp only [Int.reduceToNat] at ho32; rw [← Ny241.out] at ho32)); have n0_ := Aside0.mk (Kd.R_elder' (by (with_reducible repeat (first | apply Kd.R_alloc | apply Kd.R_drewN | apply Kd.R_drew)); exact HO207.out) (Kd.R_base ho32) hb); have n1_ := Aside0.mk (Kd.R_below (by (with_reducible repeat (first | apply Kd.R_alloc | apply Kd.R_drewN | apply Kd.R_drew)); exact HO213.out) hb); have n2_ := Aside0.mk (Kd.R_elder' (by (with_reducible repeat (first | apply Kd.R_alloc | apply Kd.R_drewN | apply Kd.R_drew)); exact HO217.out) (Kd.R_base ho32) hb); have n3_ := Aside0.mk (Kd.R_lower (Kd.R_new' (Kd.R_new' ho32 (Kd.R_lt (by (with_reducible repeat (first | apply Kd.R_alloc | apply Kd.R_drewN | apply Kd.R_drew)); exact HO207.out))) (Kd.R_lt (by (with_reducible repeat (first | apply Kd.R_alloc | apply Kd.R_drewN | apply Kd.R_drew)); exact HO217.out))) (below_size (by repeat (first | (with_reducible first | exact HB.out | apply below_alloc | apply pw_below_drewN | apply below_drew1) | exact HB.out)))); have n4_ := Aside0.mk (below_step (by repeat (first | (with_reducible first | exact HB.out | apply below_alloc | apply pw_below_drewN | apply below_drew1) | exact HB.out)) hb); clear HO207; clear HO213; clear HO217; clear HB; have HO207 := n0_; have HO213 := n1_; have HO217 := n2_; have HO243 := n3_; have HB := n4_; clear n0_ n1_ n2_ n3_ n4_; clear hb ho32; obtain ⟨Ao33, co33, eo33⟩ := Kd.R_slice HO217.out; subst eo33; obtain ⟨Ao34, co34, eo34⟩ := Kd.R_slice HO243.out; subst eo34) | (go_at_call 10; (with_reducible refine (dancestudioref26_Same.calls k _ _ t214 _ _ y241 true _ ?side1 ?side2 ?side3 ?side4 A24.out).mono ?_); (case side1 => repeat (first | exact (Kd.R_reads' HO217.out).2.2 | (with_reducible refine Kd.C_alloc ?_ _) | (with_reducible refine Kd.C_drewN ?_ _) | (with_reducible refine Kd.C_drew ?_))); (case side2 => exact (Kd.R_reads' HO217.out).2.1); (case side3 => repeat (first | exact (Kd.R_reads' HO243.out).2.2 | (with_reducible refine Kd.C_alloc ?_ _) | (with_reducible refine Kd.C_drewN ?_ _) | (with_reducible refine Kd.C_drew ?_))); (case side4 => exact (Kd.R_reads' HO243.out).2.1); rintro e w' ⟨rfl, ⟨nd, rfl⟩⟩) | (go_at_call 13; (with_reducible refine (dancestudiolaw26_hold.calls 0 12 t245 t246 t247 t248 t249 t250 t251 _ A26.out).mono ?_); rintro e w35 ⟨rfl, hb⟩; have n0_ := Aside0.mk (Kd.R_below (by (with_reducible repeat (first | apply Kd.R_alloc | apply Kd.R_drewN | apply Kd.R_drew)); exact HO207.out) hb); have n1_ := Aside0.mk (Kd.R_below (by (with_reducible repeat (first | apply Kd.R_alloc | apply Kd.R_drewN | apply Kd.R_drew)); exact HO213.out) hb); have n2_ := Aside0.mk (Kd.R_below (by (with_reducible repeat (first | apply Kd.R_alloc | apply Kd.R_drewN | apply Kd.R_drew)); exact HO217.out) hb); have n3_ := Aside0.mk (Kd.R_below (by (with_reducible repeat (first | apply Kd.R_alloc | apply Kd.R_drewN | apply Kd.R_drew)); exact HO243.out) hb); have n4_ := Aside0.mk (below_step (by repeat (first | (with_reducible first | exact HB.out | apply below_alloc | apply pw_below_drewN | apply below_drew1) | exact HB.out)) hb); clear HO207; clear HO213; clear HO217; clear HO243; clear HB; have HO207 := n0_; have HO213 := n1_; have HO217 := n2_; have HO243 := n3_; have HB := n4_; clear n0_ n1_ n2_ n3_ n4_; (try clear hb); (try clear hb2); (try clear hk); (try clear hi)) | ((with_reducible refine gate_dst (N := 53) rfl ?_); (try (refine gate_guard (by rfl) ?_; dsimp only)); refine Kd.R_lit k43 _ 43 ?hg (N := 53) ?hd (xs := ([(⟨t245, t246, t247, t248, t249, t250, t251⟩ : S43)] : List (S43))) (inner := [.int .i64 t245, .int .i64 t246, .int .i64 t247, .int .i64 t248, .int .i64 t249, .int .i64 t250, .int .i64 t251]) (ok := fun _ => True) (okp := fun _ => True) ?hr ?hp (fun _ hk => hk) trivial (Below.refl _ _) (Nat.le_refl _) (by simp) ?_; (case hd => rfl); (case hg => rfl); (case hr => first | (go_simp; done) | (go_simp; rfl)); (case hp => exact (Reps.c7 (show Kd.M k43 _ _ _ (⟨t245, t246, t247, t248, t249, t250, t251⟩ : S43) [.int .i64 t245, .int .i64 t246, .int .i64 t247, .int .i64 t248, .int .i64 t249, .int .i64 t250, .int .i64 t251] from (k43_mkM _ _ _ (⟨t245, t246, t247, t248, t249, t250, t251⟩ : S43) )) (Reps.none _ _))); intro v253 w36 ho37 hb hg_ hnew_; clear hg_ hnew_; (first | rw [← Ny252.out] at ho37 | (simp only [Int.reduceToNat] at ho37; rw [← Ny252.out] at ho37)); have n0_ := Aside0.mk (Kd.R_elder' (by (with_reducible repeat (first | apply Kd.R_alloc | apply Kd.R_drewN | apply Kd.R_drew)); exact HO207.out) (Kd.R_base ho37) hb); have n1_ := Aside0.mk (Kd.R_below (by (with_reducible repeat (first | apply Kd.R_alloc | apply Kd.R_drewN | apply Kd.R_drew)); exact HO213.out) hb); have n2_ := Aside0.mk (Kd.R_elder' (by (with_reducible repeat (first | apply Kd.R_alloc | apply Kd.R_drewN | apply Kd.R_drew)); exact HO217.out) (Kd.R_base ho37) hb); have n3_ := Aside0.mk (Kd.R_elder' (by (with_reducible repeat (first | apply Kd.R_alloc | apply Kd.R_drewN | apply Kd.R_drew)); exact HO243.out) (Kd.R_base ho37) hb); have n4_ := Aside0.mk (Kd.R_lower (Kd.R_new' (Kd.R_new' (Kd.R_new' ho37 (Kd.R_lt (by (with_reducible repeat (first | apply Kd.R_alloc | apply Kd.R_drewN | apply Kd.R_drew)); exact HO207.out))) (Kd.R_lt (by (with_reducible repeat (first | apply Kd.R_alloc | apply Kd.R_drewN | apply Kd.R_drew)); exact HO217.out))) (Kd.R_lt (by (with_reducible repeat (first | apply Kd.R_alloc | apply Kd.R_drewN | apply Kd.R_drew)); exact HO243.out))) (below_size (by repeat (first | (with_reducible first | exact HB.out | apply below_alloc | apply pw_below_drewN | apply below_drew1) | exact HB.out)))); have n5_ := Aside0.mk (below_step (by repeat (first | (with_reducible first | exact HB.out | apply below_alloc | apply pw_below_drewN | apply below_drew1) | exact HB.out)) hb); clear HO207; clear HO213; clear HO217; clear HO243; clear HB; have HO207 := n0_; have HO213 := n1_; have HO217 := n2_; have HO243 := n3_; have HO254 := n4_; have HB := n5_; clear n0_ n1_ n2_ n3_ n4_ n5_; clear hb ho37; obtain ⟨Ao38, co38, eo38⟩ := Kd.R_slice HO254.out; subst eo38) | (go_at_call 14; (with_reducible refine (repeats_Check.calls _ _ y252 12 _ _ y211 t255 _ ?side1 ?side2 ?side3 ?side4 A27.out).mono ?_); (case side1 => repeat (first | exact (Kd.R_reads' HO254.out).2.2 | (with_reducible refine Kd.C_alloc ?_ _) | (with_reducible refine Kd.C_drewN ?_ _) | (with_reducible refine Kd.C_drew ?_))); (case side2 => exact (Kd.R_reads' HO254.out).2.1); (case side3 => repeat (first | exact (Kd.R_reads' HO213.out).2.2 | (with_reducible refine Kd.C_alloc ?_ _) | (with_reducible refine Kd.C_drewN ?_ _) | (with_reducible refine Kd.C_drew ?_))); (case side4 => exact (Kd.R_reads' HO213.out).2.1); rintro e w39 ⟨rfl, hb⟩; have n0_ := Aside0.mk (Kd.R_below (by (with_reducible repeat (first | apply Kd.R_alloc | apply Kd.R_drewN | apply Kd.R_drew)); exact HO207.out) hb); have n1_ := Aside0.mk (Kd.R_below (by (with_reducible repeat (first | apply Kd.R_alloc | apply Kd.R_drewN | apply Kd.R_drew)); exact HO213.out) hb); have n2_ := Aside0.mk (Kd.R_below (by (with_reducible repeat (first | apply Kd.R_alloc | apply Kd.R_drewN | apply Kd.R_drew)); exact HO217.out) hb); have n3_ := Aside0.mk (Kd.R_below (by (with_reducible repeat (first | apply Kd.R_alloc | apply Kd.R_drewN | apply Kd.R_drew)); exact HO243.out) hb); have n4_ := Aside0.mk (Kd.R_below (by (with_reducible repeat (first | apply Kd.R_alloc | apply Kd.R_drewN | apply Kd.R_drew)); exact HO254.out) hb); have n5_ := Aside0.mk (below_step (by repeat (first | (with_reducible first | exact HB.out | apply below_alloc | apply pw_below_drewN | apply below_drew1) | exact HB.out)) hb); clear HO207; clear HO213; clear HO217; clear HO243; clear HO254; clear HB; have HO207 := n0_; have HO213 := n1_; have HO217 := n2_; have HO243 := n3_; have HO254 := n4_; have HB := n5_; clear n0_ n1_ n2_ n3_ n4_ n5_; (try clear hb); (try clear hb2); (try clear hk); (try clear hi)))
            go_meet
            case rel => exact ⟨_, ((t255 != 17)), (by first | rfl | (simp; done) | (simp [*]; done)), H', ⟨by first | omega | exact Nat.le_refl _⟩, ⟨by (with_reducible repeat (first | apply Kd.R_alloc | apply Kd.R_drewN | apply Kd.R_drew)); exact Kd.R_mono HO207.out (fun _ hk => trivial)⟩, ⟨by (with_reducible repeat (first | apply Kd.R_alloc | apply Kd.R_drewN | apply Kd.R_drew)); exact HO213.out⟩, ⟨by repeat (first | (with_reducible first | exact HB.out | apply below_alloc | apply pw_below_drewN | apply below_drew1) | exact HB.out)⟩⟩
          · replace c25 := Bool.eq_false_iff.mpr c25
            subst c25
            have H1 : (dancestudiolaw26_awake.j0 k y205 y211 true) = some r := by rw [if_neg (show ¬ (false = true) by decide)] at H; exact H
            clear H
            have H := H1
            clear H1
            have H' := Aside0.mk H
            clear H
            go_wp2_with (first | (go_at_call 13; (with_reducible refine (dancestudiolaw26_hold.calls 0 8 t220 t221 t222 t223 t224 t225 t226 _ A21.out).mono ?_); rintro e w40 ⟨rfl, hb⟩; have n0_ := Aside0.mk (Kd.R_below (by (with_reducible repeat (first | apply Kd.R_alloc | apply Kd.R_drewN | apply Kd.R_drew)); exact HO207.out) hb); have n1_ := Aside0.mk (Kd.R_below (by (with_reducible repeat (first | apply Kd.R_alloc | apply Kd.R_drewN | apply Kd.R_drew)); exact HO213.out) hb); have n2_ := Aside0.mk (Kd.R_below (by (with_reducible repeat (first | apply Kd.R_alloc | apply Kd.R_drewN | apply Kd.R_drew)); exact HO217.out) hb); have n3_ := Aside0.mk (below_step (by repeat (first | (with_reducible first | exact HB.out | apply below_alloc | apply pw_below_drewN | apply below_drew1) | exact HB.out)) hb); clear HO207; clear HO213; clear HO217; clear HB; have HO207 := n0_; have HO213 := n1_; have HO217 := n2_; have HB := n3_; clear n0_ n1_ n2_ n3_; (try clear hb); (try clear hb2); (try clear hk); (try clear hi)) | (go_at_call 13; (with_reducible refine (dancestudiolaw26_hold.calls 8 16 t227 t228 t229 t230 t231 t232 t233 _ A22.out).mono ?_); rintro e w41 ⟨rfl, hb⟩; have n0_ := Aside0.mk (Kd.R_below (by (with_reducible repeat (first | apply Kd.R_alloc | apply Kd.R_drewN | apply Kd.R_drew)); exact HO207.out) hb); have n1_ := Aside0.mk (Kd.R_below (by (with_reducible repeat (first | apply Kd.R_alloc | apply Kd.R_drewN | apply Kd.R_drew)); exact HO213.out) hb); have n2_ := Aside0.mk (Kd.R_below (by (with_reducible repeat (first | apply Kd.R_alloc | apply Kd.R_drewN | apply Kd.R_drew)); exact HO217.out) hb); have n3_ := Aside0.mk (below_step (by repeat (first | (with_reducible first | exact HB.out | apply below_alloc | apply pw_below_drewN | apply below_drew1) | exact HB.out)) hb); clear HO207; clear HO213; clear HO217; clear HB; have HO207 := n0_; have HO213 := n1_; have HO217 := n2_; have HB := n3_; clear n0_ n1_ n2_ n3_; (try clear hb); (try clear hb2); (try clear hk); (try clear hi)) | (go_at_call 13; (with_reducible refine (dancestudiolaw26_hold.calls 16 20 t234 t235 t236 t237 t238 t239 t240 _ A23.out).mono ?_); rintro e w42 ⟨rfl, hb⟩; have n0_ := Aside0.mk (Kd.R_below (by (with_reducible repeat (first | apply Kd.R_alloc | apply Kd.R_drewN | apply Kd.R_drew)); exact HO207.out) hb); have n1_ := Aside0.mk (Kd.R_below (by (with_reducible repeat (first | apply Kd.R_alloc | apply Kd.R_drewN | apply Kd.R_drew)); exact HO213.out) hb); have n2_ := Aside0.mk (Kd.R_below (by (with_reducible repeat (first | apply Kd.R_alloc | apply Kd.R_drewN | apply Kd.R_drew)); exact HO217.out) hb); have n3_ := Aside0.mk (below_step (by repeat (first | (with_reducible first | exact HB.out | apply below_alloc | apply pw_below_drewN | apply below_drew1) | exact HB.out)) hb); clear HO207; clear HO213; clear HO217; clear HB; have HO207 := n0_; have HO213 := n1_; have HO217 := n2_; have HB := n3_; clear n0_ n1_ n2_ n3_; (try clear hb); (try clear hb2); (try clear hk); (try clear hi)) | ((with_reducible refine gate_dst (N := 47) rfl ?_); (try (refine gate_guard (by rfl) ?_; dsimp only)); refine Kd.R_lit k43 _ 43 ?hg (N := 47) ?hd (xs := ([(⟨t220, t221, t222, t223, t224, t225, t226⟩ : S43), (⟨t227, t228, t229, t230, t231, t232, t233⟩ : S43), (⟨t234, t235, t236, t237, t238, t239, t240⟩ : S43)] : List (S43))) (inner := [.int .i64 t220, .int .i64 t221, .int .i64 t222, .int .i64 t223, .int .i64 t224, .int .i64 t225, .int .i64 t226, .int .i64 t227, .int .i64 t228, .int .i64 t229, .int .i64 t230, .int .i64 t231, .int .i64 t232, .int .i64 t233, .int .i64 t234, .int .i64 t235, .int .i64 t236, .int .i64 t237, .int .i64 t238, .int .i64 t239, .int .i64 t240]) (ok := fun _ => True) (okp := fun _ => True) ?hr ?hp (fun _ hk => hk) trivial (Below.refl _ _) (Nat.le_refl _) (by simp) ?_; (case hd => rfl); (case hg => rfl); (case hr => first | (go_simp; done) | (go_simp; rfl)); (case hp => exact (Reps.c7 (show Kd.M k43 _ _ _ (⟨t220, t221, t222, t223, t224, t225, t226⟩ : S43) [.int .i64 t220, .int .i64 t221, .int .i64 t222, .int .i64 t223, .int .i64 t224, .int .i64 t225, .int .i64 t226] from (k43_mkM _ _ _ (⟨t220, t221, t222, t223, t224, t225, t226⟩ : S43) )) (Reps.c7 (show Kd.M k43 _ _ _ (⟨t227, t228, t229, t230, t231, t232, t233⟩ : S43) [.int .i64 t227, .int .i64 t228, .int .i64 t229, .int .i64 t230, .int .i64 t231, .int .i64 t232, .int .i64 t233] from (k43_mkM _ _ _ (⟨t227, t228, t229, t230, t231, t232, t233⟩ : S43) )) (Reps.c7 (show Kd.M k43 _ _ _ (⟨t234, t235, t236, t237, t238, t239, t240⟩ : S43) [.int .i64 t234, .int .i64 t235, .int .i64 t236, .int .i64 t237, .int .i64 t238, .int .i64 t239, .int .i64 t240] from (k43_mkM _ _ _ (⟨t234, t235, t236, t237, t238, t239, t240⟩ : S43) )) (Reps.none _ _))))); intro v242 w43 ho44 hb hg_ hnew_; clear hg_ hnew_; (first | rw [← Ny241.out] at ho44 | (simp only [Int.reduceToNat] at ho44; rw [← Ny241.out] at ho44)); have n0_ := Aside0.mk (Kd.R_elder' (by (with_reducible repeat (first | apply Kd.R_alloc | apply Kd.R_drewN | apply Kd.R_drew)); exact HO207.out) (Kd.R_base ho44) hb); have n1_ := Aside0.mk (Kd.R_below (by (with_reducible repeat (first | apply Kd.R_alloc | apply Kd.R_drewN | apply Kd.R_drew)); exact HO213.out) hb); have n2_ := Aside0.mk (Kd.R_elder' (by (with_reducible repeat (first | apply Kd.R_alloc | apply Kd.R_drewN | apply Kd.R_drew)); exact HO217.out) (Kd.R_base ho44) hb); have n3_ := Aside0.mk (Kd.R_lower (Kd.R_new' (Kd.R_new' ho44 (Kd.R_lt (by (with_reducible repeat (first | apply Kd.R_alloc | apply Kd.R_drewN | apply Kd.R_drew)); exact HO207.out))) (Kd.R_lt (by (with_reducible repeat (first | apply Kd.R_alloc | apply Kd.R_drewN | apply Kd.R_drew)); exact HO217.out))) (below_size (by repeat (first | (with_reducible first | exact HB.out | apply below_alloc | apply pw_below_drewN | apply below_drew1) | exact HB.out)))); have n4_ := Aside0.mk (below_step (by repeat (first | (with_reducible first | exact HB.out | apply below_alloc | apply pw_below_drewN | apply below_drew1) | exact HB.out)) hb); clear HO207; clear HO213; clear HO217; clear HB; have HO207 := n0_; have HO213 := n1_; have HO217 := n2_; have HO243 := n3_; have HB := n4_; clear n0_ n1_ n2_ n3_ n4_; clear hb ho44; obtain ⟨Ao45, co45, eo45⟩ := Kd.R_slice HO217.out; subst eo45; obtain ⟨Ao46, co46, eo46⟩ := Kd.R_slice HO243.out; subst eo46) | (go_at_call 10; (with_reducible refine (dancestudioref26_Same.calls k _ _ t214 _ _ y241 false _ ?side1 ?side2 ?side3 ?side4 A24.out).mono ?_); (case side1 => repeat (first | exact (Kd.R_reads' HO217.out).2.2 | (with_reducible refine Kd.C_alloc ?_ _) | (with_reducible refine Kd.C_drewN ?_ _) | (with_reducible refine Kd.C_drew ?_))); (case side2 => exact (Kd.R_reads' HO217.out).2.1); (case side3 => repeat (first | exact (Kd.R_reads' HO243.out).2.2 | (with_reducible refine Kd.C_alloc ?_ _) | (with_reducible refine Kd.C_drewN ?_ _) | (with_reducible refine Kd.C_drew ?_))); (case side4 => exact (Kd.R_reads' HO243.out).2.1); rintro e w' ⟨rfl, ⟨nd, rfl⟩⟩))
            go_meet
            case rel => exact ⟨_, (true), (by first | rfl | (simp; done) | (simp [*]; done)), H', ⟨by first | omega | exact Nat.le_refl _⟩, ⟨by (with_reducible repeat (first | apply Kd.R_alloc | apply Kd.R_drewN | apply Kd.R_drew)); exact Kd.R_mono HO207.out (fun _ hk => trivial)⟩, ⟨by (with_reducible repeat (first | apply Kd.R_alloc | apply Kd.R_drewN | apply Kd.R_drew)); exact HO213.out⟩, ⟨by repeat (first | (with_reducible first | exact HB.out | apply below_alloc | apply pw_below_drewN | apply below_drew1) | exact HB.out)⟩⟩
        · rw [if_neg c20] at H
          have c20b0 : (t218 == 20) = false := beq_eq_false_iff_ne.mpr c20
          have c20b1 : (t218 != 20) = true := bne_iff_ne.mpr c20
          have H' := Aside0.mk H
          clear H
          go_wp2
          go_meet
          case rel => exact ⟨_, (true), (by first | rfl | (simp; done) | (simp [*]; done)), H', ⟨by first | omega | exact Nat.le_refl _⟩, ⟨by (with_reducible repeat (first | apply Kd.R_alloc | apply Kd.R_drewN | apply Kd.R_drew)); exact Kd.R_mono HO207.out (fun _ hk => trivial)⟩, ⟨by (with_reducible repeat (first | apply Kd.R_alloc | apply Kd.R_drewN | apply Kd.R_drew)); exact HO213.out⟩, ⟨by repeat (first | (with_reducible first | exact HB.out | apply below_alloc | apply pw_below_drewN | apply below_drew1) | exact HB.out)⟩⟩
      · rw [if_neg c19] at H
        have c19b0 : (t219 == 0) = false := beq_eq_false_iff_ne.mpr c19
        have c19b1 : (t219 != 0) = true := bne_iff_ne.mpr c19
        have H' := Aside0.mk H
        clear H
        go_wp2
        go_meet
        case rel => exact ⟨_, (true), (by first | rfl | (simp; done) | (simp [*]; done)), H', ⟨by first | omega | exact Nat.le_refl _⟩, ⟨by (with_reducible repeat (first | apply Kd.R_alloc | apply Kd.R_drewN | apply Kd.R_drew)); exact Kd.R_mono HO207.out (fun _ hk => trivial)⟩, ⟨by (with_reducible repeat (first | apply Kd.R_alloc | apply Kd.R_drewN | apply Kd.R_drew)); exact HO213.out⟩, ⟨by repeat (first | (with_reducible first | exact HB.out | apply below_alloc | apply pw_below_drewN | apply below_drew1) | exact HB.out)⟩⟩
    · rw [if_neg c18] at H
      have c18b0 : (t215 == 0) = false := beq_eq_false_iff_ne.mpr c18
      have c18b1 : (t215 != 0) = true := bne_iff_ne.mpr c18
      (first | rw [c18b0] | (simp only [i64_w, i32_w]; rw [c18b0]) | skip)
      have H' := Aside0.mk H
      clear H
      go_wp2
      go_meet
      case rel => exact ⟨_, (true), (by first | rfl | (simp; done) | (simp [*]; done)), H', ⟨by first | omega | exact Nat.le_refl _⟩, ⟨by (with_reducible repeat (first | apply Kd.R_alloc | apply Kd.R_drewN | apply Kd.R_drew)); exact Kd.R_mono HO207.out (fun _ hk => trivial)⟩, ⟨by (with_reducible repeat (first | apply Kd.R_alloc | apply Kd.R_drewN | apply Kd.R_drew)); exact HO213.out⟩, ⟨by repeat (first | (with_reducible first | exact HB.out | apply below_alloc | apply pw_below_drewN | apply below_drew1) | exact HB.out)⟩⟩
  case rest =>
    clear HC6
    try clear c1
    try clear c2
    try clear p2
    try clear c3
    try clear c5
    try clear c7
    try clear c8
    try clear c9
    try clear c12
    try clear c13
    try clear c18
    try clear c18b0
    try clear c18b1
    try clear c19
    try clear c19b0
    try clear c19b1
    try clear c20
    try clear c20b0
    try clear c20b1
    try clear c25
    obtain ⟨kq, x57_5, rfl, HA, HJ5, HO_1, HO_2, HB⟩ := hcut
    cases kq with
    | zero => exact absurd HA.out (by simp [dancestudiolaw26_awake.j0])
    | succ kj5 =>
      have H := HA.out
      clear HA
      simp only [dancestudiolaw26_awake.j0] at H
      by_cases c47 : x57_5 = true
      · subst c47
        have H1 : (some false) = some r := by rw [if_pos rfl] at H; exact H
        clear H
        have H := H1
        clear H1
        obtain rfl := Option.some.inj H
        go_wp2
        go_ret
        exact ⟨by first | rfl | (simp [errW_none, errW_some] <;> rfl) | (simp [*, errW_none, errW_some] <;> rfl), by repeat (first | (with_reducible first | exact HB.out | apply below_alloc | apply pw_below_drewN | apply below_drew1) | exact HB.out)⟩
      · replace c47 := Bool.eq_false_iff.mpr c47
        subst c47
        have H1 : ((repeats_Source.f y205 12 y211 9).bind fun bt256 => ((repeats_Source.f y205 12 y211 17).bind fun bt258 => (if bt256.1 = 1 then (if bt256.2 = 0 then (if bt258.1 = 9 then (if bt258.2 = 0 then ((dancestudiolaw26_twice.f 4 4 2).bind fun bt260 => ((repeats_Check.f y205 12 (([(⟨(⟨bt260.1, bt260.2.1⟩ : S37), bt260.2.2⟩ : S39)] : List (S39)))).bind fun t266 => (dancestudiolaw26_awake.j1 kj5 (t266 != 1)))) else (dancestudiolaw26_awake.j1 kj5 true)) else (dancestudiolaw26_awake.j1 kj5 true)) else (dancestudiolaw26_awake.j1 kj5 true)) else (dancestudiolaw26_awake.j1 kj5 true)))) = some r := by rw [if_neg (show ¬ (false = true) by decide)] at H; exact H
        clear H
        have H := H1
        clear H1
        replace H := Option.bind_eq_some_iff.mp H
        obtain ⟨⟨t256, t257⟩, A480, H⟩ := H
        replace H : ((repeats_Source.f y205 12 y211 17).bind fun bt258 => (if t256 = 1 then (if t257 = 0 then (if bt258.1 = 9 then (if bt258.2 = 0 then ((dancestudiolaw26_twice.f 4 4 2).bind fun bt260 => ((repeats_Check.f y205 12 (([(⟨(⟨bt260.1, bt260.2.1⟩ : S37), bt260.2.2⟩ : S39)] : List (S39)))).bind fun t266 => (dancestudiolaw26_awake.j1 kj5 (t266 != 1)))) else (dancestudiolaw26_awake.j1 kj5 true)) else (dancestudiolaw26_awake.j1 kj5 true)) else (dancestudiolaw26_awake.j1 kj5 true)) else (dancestudiolaw26_awake.j1 kj5 true))) = some r := H
        have A48 := Aside0.mk A480
        clear A480
        replace H := Option.bind_eq_some_iff.mp H
        obtain ⟨⟨t258, t259⟩, A490, H⟩ := H
        replace H : (if t256 = 1 then (if t257 = 0 then (if t258 = 9 then (if t259 = 0 then ((dancestudiolaw26_twice.f 4 4 2).bind fun bt260 => ((repeats_Check.f y205 12 (([(⟨(⟨bt260.1, bt260.2.1⟩ : S37), bt260.2.2⟩ : S39)] : List (S39)))).bind fun t266 => (dancestudiolaw26_awake.j1 kj5 (t266 != 1)))) else (dancestudiolaw26_awake.j1 kj5 true)) else (dancestudiolaw26_awake.j1 kj5 true)) else (dancestudiolaw26_awake.j1 kj5 true)) else (dancestudiolaw26_awake.j1 kj5 true)) = some r := H
        have A49 := Aside0.mk A490
        clear A490
        have HC50 := Aside0.mk H
        clear H
        go_upto_region 8 with (first | ((with_reducible refine gate_callee (f := 15) rfl ?_); refine goesL_ (some 61) rfl rfl Try.func15 (by kernel_rfl) rfl #[.slice Ao14 y205.length co14, .int .i64 12, .slice Ao15 y211.length co15, .int .i64 9] rfl (by (try simp only [List.map_toArray, List.map_cons, List.map_nil]); first | done | rfl | (simp only [List.length_drop, List.length_take]; rfl)) ?_; (with_reducible refine (repeats_Source.calls _ _ y205 12 _ _ y211 9 t256 t257 _ ?side1 ?side2 ?side3 ?side4 A48.out).mono ?_); (case side1 => repeat (first | exact (Kd.R_reads' HO_1.out).2.2 | (with_reducible refine Kd.C_alloc ?_ _) | (with_reducible refine Kd.C_drewN ?_ _) | (with_reducible refine Kd.C_drew ?_))); (case side2 => exact (Kd.R_reads' HO_1.out).2.1); (case side3 => repeat (first | exact (Kd.R_reads' HO_2.out).2.2 | (with_reducible refine Kd.C_alloc ?_ _) | (with_reducible refine Kd.C_drewN ?_ _) | (with_reducible refine Kd.C_drew ?_))); (case side4 => exact (Kd.R_reads' HO_2.out).2.1); rintro e w51 ⟨rfl, hb⟩; refine ⟨_, rfl, ?_⟩; have n0_ := Aside0.mk (Kd.R_below (by (with_reducible repeat (first | apply Kd.R_alloc | apply Kd.R_drewN | apply Kd.R_drew)); exact HO_1.out) hb); have n1_ := Aside0.mk (Kd.R_below (by (with_reducible repeat (first | apply Kd.R_alloc | apply Kd.R_drewN | apply Kd.R_drew)); exact HO_2.out) hb); have n2_ := Aside0.mk (below_step (by repeat (first | (with_reducible first | exact HB.out | apply below_alloc | apply pw_below_drewN | apply below_drew1) | exact HB.out)) hb); clear HO_1; clear HO_2; clear HB; have HO_1 := n0_; have HO_2 := n1_; have HB := n2_; clear n0_ n1_ n2_; (try clear hb); (try clear hb2); (try clear hk); (try clear hi)) | ((with_reducible refine gate_callee (f := 15) rfl ?_); refine goesL_ (some 67) rfl rfl Try.func15 (by kernel_rfl) rfl #[.slice Ao14 y205.length co14, .int .i64 12, .slice Ao15 y211.length co15, .int .i64 17] rfl (by (try simp only [List.map_toArray, List.map_cons, List.map_nil]); first | done | rfl | (simp only [List.length_drop, List.length_take]; rfl)) ?_; (with_reducible refine (repeats_Source.calls _ _ y205 12 _ _ y211 17 t258 t259 _ ?side1 ?side2 ?side3 ?side4 A49.out).mono ?_); (case side1 => repeat (first | exact (Kd.R_reads' HO_1.out).2.2 | (with_reducible refine Kd.C_alloc ?_ _) | (with_reducible refine Kd.C_drewN ?_ _) | (with_reducible refine Kd.C_drew ?_))); (case side2 => exact (Kd.R_reads' HO_1.out).2.1); (case side3 => repeat (first | exact (Kd.R_reads' HO_2.out).2.2 | (with_reducible refine Kd.C_alloc ?_ _) | (with_reducible refine Kd.C_drewN ?_ _) | (with_reducible refine Kd.C_drew ?_))); (case side4 => exact (Kd.R_reads' HO_2.out).2.1); rintro e w52 ⟨rfl, hb⟩; refine ⟨_, rfl, ?_⟩; have n0_ := Aside0.mk (Kd.R_below (by (with_reducible repeat (first | apply Kd.R_alloc | apply Kd.R_drewN | apply Kd.R_drew)); exact HO_1.out) hb); have n1_ := Aside0.mk (Kd.R_below (by (with_reducible repeat (first | apply Kd.R_alloc | apply Kd.R_drewN | apply Kd.R_drew)); exact HO_2.out) hb); have n2_ := Aside0.mk (below_step (by repeat (first | (with_reducible first | exact HB.out | apply below_alloc | apply pw_below_drewN | apply below_drew1) | exact HB.out)) hb); clear HO_1; clear HO_2; clear HB; have HO_1 := n0_; have HO_2 := n1_; have HB := n2_; clear n0_ n1_ n2_; (try clear hb); (try clear hb2); (try clear hk); (try clear hi)))
        (try simp only [Act.put, List.setIfInBounds_toArray, List.set_cons_zero, List.set_cons_succ])
        go_cut [90] (fun v90 wc => ∃ (kq : Nat) (x90_49 : Bool), v90 = .bool x90_49 ∧ Aside0 (dancestudiolaw26_awake.j1 kq x90_49 = some r) ∧ Aside0 (kq ≤ kj5) ∧ Aside0 (Below w.heap.size w wc))
        case first =>
          have H := HC50.out
          clear HC50
          by_cases c53 : t256 = 1
          · rw [if_pos c53] at H
            have c53b0 : (t256 == 1) = true := beq_iff_eq.mpr c53
            have c53b1 : (t256 != 1) = false := bne_eq_false_iff_eq.mpr c53
            clear c53
            (first | rw [c53b0] | (simp only [i64_w, i32_w]; rw [c53b0]) | skip)
            by_cases c54 : t257 = 0
            · rw [if_pos c54] at H
              have c54b0 : (t257 == 0) = true := beq_iff_eq.mpr c54
              have c54b1 : (t257 != 0) = false := bne_eq_false_iff_eq.mpr c54
              clear c54
              by_cases c55 : t258 = 9
              · rw [if_pos c55] at H
                have c55b0 : (t258 == 9) = true := beq_iff_eq.mpr c55
                have c55b1 : (t258 != 9) = false := bne_eq_false_iff_eq.mpr c55
                clear c55
                by_cases c56 : t259 = 0
                · rw [if_pos c56] at H
                  have c56b0 : (t259 == 0) = true := beq_iff_eq.mpr c56
                  have c56b1 : (t259 != 0) = false := bne_eq_false_iff_eq.mpr c56
                  clear c56
                  replace H := Option.bind_eq_some_iff.mp H
                  obtain ⟨⟨t260, t261, t262⟩, A570, H⟩ := H
                  replace H : ((repeats_Check.f y205 12 (([(⟨(⟨t260, t261⟩ : S37), t262⟩ : S39)] : List (S39)))).bind fun t266 => (dancestudiolaw26_awake.j1 kj5 (t266 != 1))) = some r := H
                  have A57 := Aside0.mk A570
                  clear A570
                  obtain ⟨y263, hy263⟩ : ∃ y_ : List (S39), y_ = (([(⟨(⟨t260, t261⟩ : S37), t262⟩ : S39)] : List (S39))) := ⟨_, rfl⟩
                  replace H : ((repeats_Check.f y205 12 y263).bind fun t266 => (dancestudiolaw26_awake.j1 kj5 (t266 != 1))) = some r := by first | (rw [hy263]; with_reducible exact H) | (have H2_ := (Option.bind_some _ _).symm.trans H; rw [hy263]; with_reducible exact H2_) | (have H2_ := (Option.bind_some _ _).symm.trans H; with_reducible exact H2_) | with_reducible exact H | (rw [hy263]; exact H) | exact H
                  have Ny263 := Aside0.mk hy263
                  clear hy263
                  replace H := Option.bind_eq_some_iff.mp H
                  obtain ⟨t266, A580, H⟩ := H
                  replace H : (dancestudiolaw26_awake.j1 kj5 (t266 != 1)) = some r := H
                  have A58 := Aside0.mk A580
                  clear A580
                  have H' := Aside0.mk H
                  clear H
                  go_wp2_with (first | (go_at_call 12; (with_reducible refine (dancestudiolaw26_twice.calls 4 4 2 t260 t261 t262 _ A57.out).mono ?_); rintro e w59 ⟨rfl, hb⟩; have n0_ := Aside0.mk (Kd.R_below (by (with_reducible repeat (first | apply Kd.R_alloc | apply Kd.R_drewN | apply Kd.R_drew)); exact HO_1.out) hb); have n1_ := Aside0.mk (Kd.R_below (by (with_reducible repeat (first | apply Kd.R_alloc | apply Kd.R_drewN | apply Kd.R_drew)); exact HO_2.out) hb); have n2_ := Aside0.mk (below_step (by repeat (first | (with_reducible first | exact HB.out | apply below_alloc | apply pw_below_drewN | apply below_drew1) | exact HB.out)) hb); clear HO_1; clear HO_2; clear HB; have HO_1 := n0_; have HO_2 := n1_; have HB := n2_; clear n0_ n1_ n2_; (try clear hb); (try clear hb2); (try clear hk); (try clear hi)) | ((with_reducible refine gate_dst (N := 87) rfl ?_); (try (refine gate_guard (by rfl) ?_; dsimp only)); refine Kd.R_lit k39 _ 39 ?hg (N := 87) ?hd (xs := ([(⟨(⟨t260, t261⟩ : S37), t262⟩ : S39)] : List (S39))) (inner := [.int .i64 t260, .int .i64 t261, .int .i64 t262]) (ok := fun _ => True) (okp := fun _ => True) ?hr ?hp (fun _ hk => hk) trivial (Below.refl _ _) (Nat.le_refl _) (by simp) ?_; (case hd => rfl); (case hg => rfl); (case hr => first | (go_simp; done) | (go_simp; rfl)); (case hp => exact (Reps.c3 (show Kd.M k39 _ _ _ (⟨(⟨t260, t261⟩ : S37), t262⟩ : S39) [.int .i64 t260, .int .i64 t261, .int .i64 t262] from (k39_mkM _ _ _ (⟨(⟨t260, t261⟩ : S37), t262⟩ : S39) )) (Reps.none _ _))); intro v264 w60 ho61 hb hg_ hnew_; clear hg_ hnew_; (first | rw [← Ny263.out] at ho61 | (simp only [Int.reduceToNat] at ho61; rw [← Ny263.out] at ho61)); have n0_ := Aside0.mk (Kd.R_below (by (with_reducible repeat (first | apply Kd.R_alloc | apply Kd.R_drewN | apply Kd.R_drew)); exact HO_1.out) hb); have n1_ := Aside0.mk (Kd.R_elder' (by (with_reducible repeat (first | apply Kd.R_alloc | apply Kd.R_drewN | apply Kd.R_drew)); exact HO_2.out) (Kd.R_base ho61) hb); have n2_ := Aside0.mk (Kd.R_lower (Kd.R_new' ho61 (Kd.R_lt (by (with_reducible repeat (first | apply Kd.R_alloc | apply Kd.R_drewN | apply Kd.R_drew)); exact HO_2.out))) (below_size (by repeat (first | (with_reducible first | exact HB.out | apply below_alloc | apply pw_below_drewN | apply below_drew1) | exact HB.out)))); have n3_ := Aside0.mk (below_step (by repeat (first | (with_reducible first | exact HB.out | apply below_alloc | apply pw_below_drewN | apply below_drew1) | exact HB.out)) hb); clear HO_1; clear HO_2; clear HB; have HO_1 := n0_; have HO_2 := n1_; have HO265 := n2_; have HB := n3_; clear n0_ n1_ n2_ n3_; clear hb ho61; obtain ⟨Ao62, co62, eo62⟩ := Kd.R_slice HO265.out; subst eo62) | (go_at_call 14; (with_reducible refine (repeats_Check.calls _ _ y205 12 _ _ y263 t266 _ ?side1 ?side2 ?side3 ?side4 A58.out).mono ?_); (case side1 => repeat (first | exact (Kd.R_reads' HO_1.out).2.2 | (with_reducible refine Kd.C_alloc ?_ _) | (with_reducible refine Kd.C_drewN ?_ _) | (with_reducible refine Kd.C_drew ?_))); (case side2 => exact (Kd.R_reads' HO_1.out).2.1); (case side3 => repeat (first | exact (Kd.R_reads' HO265.out).2.2 | (with_reducible refine Kd.C_alloc ?_ _) | (with_reducible refine Kd.C_drewN ?_ _) | (with_reducible refine Kd.C_drew ?_))); (case side4 => exact (Kd.R_reads' HO265.out).2.1); rintro e w63 ⟨rfl, hb⟩; have n0_ := Aside0.mk (Kd.R_below (by (with_reducible repeat (first | apply Kd.R_alloc | apply Kd.R_drewN | apply Kd.R_drew)); exact HO_1.out) hb); have n1_ := Aside0.mk (Kd.R_below (by (with_reducible repeat (first | apply Kd.R_alloc | apply Kd.R_drewN | apply Kd.R_drew)); exact HO_2.out) hb); have n2_ := Aside0.mk (Kd.R_below (by (with_reducible repeat (first | apply Kd.R_alloc | apply Kd.R_drewN | apply Kd.R_drew)); exact HO265.out) hb); have n3_ := Aside0.mk (below_step (by repeat (first | (with_reducible first | exact HB.out | apply below_alloc | apply pw_below_drewN | apply below_drew1) | exact HB.out)) hb); clear HO_1; clear HO_2; clear HO265; clear HB; have HO_1 := n0_; have HO_2 := n1_; have HO265 := n2_; have HB := n3_; clear n0_ n1_ n2_ n3_; (try clear hb); (try clear hb2); (try clear hk); (try clear hi)))
                  go_meet
                  case rel => exact ⟨_, ((t266 != 1)), (by first | rfl | (simp; done) | (simp [*]; done)), H', ⟨by have := HJ5.out; first | omega | exact Nat.le_refl _⟩, ⟨by repeat (first | (with_reducible first | exact HB.out | apply below_alloc | apply pw_below_drewN | apply below_drew1) | exact HB.out)⟩⟩
                · rw [if_neg c56] at H
                  have c56b0 : (t259 == 0) = false := beq_eq_false_iff_ne.mpr c56
                  have c56b1 : (t259 != 0) = true := bne_iff_ne.mpr c56
                  have H' := Aside0.mk H
                  clear H
                  go_wp2
                  go_meet
                  case rel => exact ⟨_, (true), (by first | rfl | (simp; done) | (simp [*]; done)), H', ⟨by have := HJ5.out; first | omega | exact Nat.le_refl _⟩, ⟨by repeat (first | (with_reducible first | exact HB.out | apply below_alloc | apply pw_below_drewN | apply below_drew1) | exact HB.out)⟩⟩
              · rw [if_neg c55] at H
                have c55b0 : (t258 == 9) = false := beq_eq_false_iff_ne.mpr c55
                have c55b1 : (t258 != 9) = true := bne_iff_ne.mpr c55
                have H' := Aside0.mk H
                clear H
                go_wp2
                go_meet
                case rel => exact ⟨_, (true), (by first | rfl | (simp; done) | (simp [*]; done)), H', ⟨by have := HJ5.out; first | omega | exact Nat.le_refl _⟩, ⟨by repeat (first | (with_reducible first | exact HB.out | apply below_alloc | apply pw_below_drewN | apply below_drew1) | exact HB.out)⟩⟩
            · rw [if_neg c54] at H
              have c54b0 : (t257 == 0) = false := beq_eq_false_iff_ne.mpr c54
              have c54b1 : (t257 != 0) = true := bne_iff_ne.mpr c54
              have H' := Aside0.mk H
              clear H
              go_wp2
              go_meet
              case rel => exact ⟨_, (true), (by first | rfl | (simp; done) | (simp [*]; done)), H', ⟨by have := HJ5.out; first | omega | exact Nat.le_refl _⟩, ⟨by repeat (first | (with_reducible first | exact HB.out | apply below_alloc | apply pw_below_drewN | apply below_drew1) | exact HB.out)⟩⟩
          · rw [if_neg c53] at H
            have c53b0 : (t256 == 1) = false := beq_eq_false_iff_ne.mpr c53
            have c53b1 : (t256 != 1) = true := bne_iff_ne.mpr c53
            (first | rw [c53b0] | (simp only [i64_w, i32_w]; rw [c53b0]) | skip)
            have H' := Aside0.mk H
            clear H
            go_wp2
            go_meet
            case rel => exact ⟨_, (true), (by first | rfl | (simp; done) | (simp [*]; done)), H', ⟨by have := HJ5.out; first | omega | exact Nat.le_refl _⟩, ⟨by repeat (first | (with_reducible first | exact HB.out | apply below_alloc | apply pw_below_drewN | apply below_drew1) | exact HB.out)⟩⟩
        case rest =>
          clear HC50
          try clear c1
          try clear c2
          try clear p2
          try clear c3
          try clear c4
          try clear c5
          try clear c7
          try clear c8
          try clear c9
          try clear c12
          try clear c13
          try clear c15
          try clear c18
          try clear c18b0
          try clear c18b1
          try clear c19
          try clear c19b0
          try clear c19b1
          try clear c20
          try clear c20b0
          try clear c20b1
          try clear c25
          try clear c47
          try clear c53
          try clear c53b0
          try clear c53b1
          try clear c54
          try clear c54b0
          try clear c54b1
          try clear c55
          try clear c55b0
          try clear c55b1
          try clear c56
          try clear c56b0
          try clear c56b1
          try clear p2
          obtain ⟨kq, x90_49, rfl, HA, HJ49, HB⟩ := hcut
          cases kq with
          | zero => exact absurd HA.out (by simp [dancestudiolaw26_awake.j1])
          | succ kj49 =>
            have H := HA.out
            clear HA
            simp only [dancestudiolaw26_awake.j1] at H
            by_cases c64 : x90_49 = true
            · subst c64
              have H1 : (some false) = some r := by rw [if_pos rfl] at H; exact H
              clear H
              have H := H1
              clear H1
              obtain rfl := Option.some.inj H
              go_wp2
              go_ret
              exact ⟨by first | rfl | (simp [errW_none, errW_some] <;> rfl) | (simp [*, errW_none, errW_some] <;> rfl), by repeat (first | (with_reducible first | exact HB.out | apply below_alloc | apply pw_below_drewN | apply below_drew1) | exact HB.out)⟩
            · replace c64 := Bool.eq_false_iff.mpr c64
              subst c64
              have H1 : ((dancestudiolaw26_hold.f 0 4).bind fun bt267 => ((dancestudiolaw26_hold.f 4 8).bind fun bt274 => ((dancestudiolaw26_hold.f 8 12).bind fun bt281 => ((repeats_Find.f kj49 (([(⟨bt267.1, bt267.2.1, bt267.2.2.1, bt267.2.2.2.1, bt267.2.2.2.2.1, bt267.2.2.2.2.2.1, bt267.2.2.2.2.2.2⟩ : S43), (⟨bt274.1, bt274.2.1, bt274.2.2.1, bt274.2.2.2.1, bt274.2.2.2.2.1, bt274.2.2.2.2.2.1, bt274.2.2.2.2.2.2⟩ : S43), (⟨bt281.1, bt281.2.1, bt281.2.2.1, bt281.2.2.2.1, bt281.2.2.2.2.1, bt281.2.2.2.2.2.1, bt281.2.2.2.2.2.2⟩ : S43)] : List (S43))) 12 4).bind fun bt291 => ((dancestudiolaw26_hold.f 0 4).bind fun bt299 => ((dancestudiolaw26_hold.f 4 8).bind fun bt306 => ((dancestudiolaw26_hold.f 8 11).bind fun bt313 => ((repeats_Find.f kj49 (([(⟨bt299.1, bt299.2.1, bt299.2.2.1, bt299.2.2.2.1, bt299.2.2.2.2.1, bt299.2.2.2.2.2.1, bt299.2.2.2.2.2.2⟩ : S43), (⟨bt306.1, bt306.2.1, bt306.2.2.1, bt306.2.2.2.1, bt306.2.2.2.2.1, bt306.2.2.2.2.2.1, bt306.2.2.2.2.2.2⟩ : S43), (⟨bt313.1, bt313.2.1, bt313.2.2.1, bt313.2.2.2.1, bt313.2.2.2.2.1, bt313.2.2.2.2.2.1, bt313.2.2.2.2.2.2⟩ : S43)] : List (S43))) 11 4).bind fun bt323 => (if bt291.2.2.2 = 0 then (if bt291.2.1 = 4 then ((dancestudiolaw26_hold.f 0 4).bind fun bt331 => ((dancestudioref26_Same.f kj49 bt291.1 (([(⟨bt331.1, bt331.2.1, bt331.2.2.1, bt331.2.2.2.1, bt331.2.2.2.2.1, bt331.2.2.2.2.2.1, bt331.2.2.2.2.2.2⟩ : S43)] : List (S43)))).bind fun t341 => (if t341 = true then ((dancestudiolaw26_twice.f 0 4 3).bind fun bt342 => ((dancestudioref26_SameRepeats.f kj49 bt291.2.2.1 (([(⟨(⟨bt342.1, bt342.2.1⟩ : S37), bt342.2.2⟩ : S39)] : List (S39)))).bind fun t348 => (dancestudiolaw26_awake.j2 kj49 bt323.2.2.2 bt323.1 bt323.2.1 bt323.2.2.1 (!t348)))) else (dancestudiolaw26_awake.j2 kj49 bt323.2.2.2 bt323.1 bt323.2.1 bt323.2.2.1 true)))) else (dancestudiolaw26_awake.j2 kj49 bt323.2.2.2 bt323.1 bt323.2.1 bt323.2.2.1 true)) else (dancestudiolaw26_awake.j2 kj49 bt323.2.2.2 bt323.1 bt323.2.1 bt323.2.2.1 true)))))))))) = some r := by rw [if_neg (show ¬ (false = true) by decide)] at H; exact H
              clear H
              have H := H1
              clear H1
              replace H := Option.bind_eq_some_iff.mp H
              obtain ⟨⟨t267, t268, t269, t270, t271, t272, t273⟩, A650, H⟩ := H
              replace H : ((dancestudiolaw26_hold.f 4 8).bind fun bt274 => ((dancestudiolaw26_hold.f 8 12).bind fun bt281 => ((repeats_Find.f kj49 (([(⟨t267, t268, t269, t270, t271, t272, t273⟩ : S43), (⟨bt274.1, bt274.2.1, bt274.2.2.1, bt274.2.2.2.1, bt274.2.2.2.2.1, bt274.2.2.2.2.2.1, bt274.2.2.2.2.2.2⟩ : S43), (⟨bt281.1, bt281.2.1, bt281.2.2.1, bt281.2.2.2.1, bt281.2.2.2.2.1, bt281.2.2.2.2.2.1, bt281.2.2.2.2.2.2⟩ : S43)] : List (S43))) 12 4).bind fun bt291 => ((dancestudiolaw26_hold.f 0 4).bind fun bt299 => ((dancestudiolaw26_hold.f 4 8).bind fun bt306 => ((dancestudiolaw26_hold.f 8 11).bind fun bt313 => ((repeats_Find.f kj49 (([(⟨bt299.1, bt299.2.1, bt299.2.2.1, bt299.2.2.2.1, bt299.2.2.2.2.1, bt299.2.2.2.2.2.1, bt299.2.2.2.2.2.2⟩ : S43), (⟨bt306.1, bt306.2.1, bt306.2.2.1, bt306.2.2.2.1, bt306.2.2.2.2.1, bt306.2.2.2.2.2.1, bt306.2.2.2.2.2.2⟩ : S43), (⟨bt313.1, bt313.2.1, bt313.2.2.1, bt313.2.2.2.1, bt313.2.2.2.2.1, bt313.2.2.2.2.2.1, bt313.2.2.2.2.2.2⟩ : S43)] : List (S43))) 11 4).bind fun bt323 => (if bt291.2.2.2 = 0 then (if bt291.2.1 = 4 then ((dancestudiolaw26_hold.f 0 4).bind fun bt331 => ((dancestudioref26_Same.f kj49 bt291.1 (([(⟨bt331.1, bt331.2.1, bt331.2.2.1, bt331.2.2.2.1, bt331.2.2.2.2.1, bt331.2.2.2.2.2.1, bt331.2.2.2.2.2.2⟩ : S43)] : List (S43)))).bind fun t341 => (if t341 = true then ((dancestudiolaw26_twice.f 0 4 3).bind fun bt342 => ((dancestudioref26_SameRepeats.f kj49 bt291.2.2.1 (([(⟨(⟨bt342.1, bt342.2.1⟩ : S37), bt342.2.2⟩ : S39)] : List (S39)))).bind fun t348 => (dancestudiolaw26_awake.j2 kj49 bt323.2.2.2 bt323.1 bt323.2.1 bt323.2.2.1 (!t348)))) else (dancestudiolaw26_awake.j2 kj49 bt323.2.2.2 bt323.1 bt323.2.1 bt323.2.2.1 true)))) else (dancestudiolaw26_awake.j2 kj49 bt323.2.2.2 bt323.1 bt323.2.1 bt323.2.2.1 true)) else (dancestudiolaw26_awake.j2 kj49 bt323.2.2.2 bt323.1 bt323.2.1 bt323.2.2.1 true))))))))) = some r := H
              have A65 := Aside0.mk A650
              clear A650
              replace H := Option.bind_eq_some_iff.mp H
              obtain ⟨⟨t274, t275, t276, t277, t278, t279, t280⟩, A660, H⟩ := H
              replace H : ((dancestudiolaw26_hold.f 8 12).bind fun bt281 => ((repeats_Find.f kj49 (([(⟨t267, t268, t269, t270, t271, t272, t273⟩ : S43), (⟨t274, t275, t276, t277, t278, t279, t280⟩ : S43), (⟨bt281.1, bt281.2.1, bt281.2.2.1, bt281.2.2.2.1, bt281.2.2.2.2.1, bt281.2.2.2.2.2.1, bt281.2.2.2.2.2.2⟩ : S43)] : List (S43))) 12 4).bind fun bt291 => ((dancestudiolaw26_hold.f 0 4).bind fun bt299 => ((dancestudiolaw26_hold.f 4 8).bind fun bt306 => ((dancestudiolaw26_hold.f 8 11).bind fun bt313 => ((repeats_Find.f kj49 (([(⟨bt299.1, bt299.2.1, bt299.2.2.1, bt299.2.2.2.1, bt299.2.2.2.2.1, bt299.2.2.2.2.2.1, bt299.2.2.2.2.2.2⟩ : S43), (⟨bt306.1, bt306.2.1, bt306.2.2.1, bt306.2.2.2.1, bt306.2.2.2.2.1, bt306.2.2.2.2.2.1, bt306.2.2.2.2.2.2⟩ : S43), (⟨bt313.1, bt313.2.1, bt313.2.2.1, bt313.2.2.2.1, bt313.2.2.2.2.1, bt313.2.2.2.2.2.1, bt313.2.2.2.2.2.2⟩ : S43)] : List (S43))) 11 4).bind fun bt323 => (if bt291.2.2.2 = 0 then (if bt291.2.1 = 4 then ((dancestudiolaw26_hold.f 0 4).bind fun bt331 => ((dancestudioref26_Same.f kj49 bt291.1 (([(⟨bt331.1, bt331.2.1, bt331.2.2.1, bt331.2.2.2.1, bt331.2.2.2.2.1, bt331.2.2.2.2.2.1, bt331.2.2.2.2.2.2⟩ : S43)] : List (S43)))).bind fun t341 => (if t341 = true then ((dancestudiolaw26_twice.f 0 4 3).bind fun bt342 => ((dancestudioref26_SameRepeats.f kj49 bt291.2.2.1 (([(⟨(⟨bt342.1, bt342.2.1⟩ : S37), bt342.2.2⟩ : S39)] : List (S39)))).bind fun t348 => (dancestudiolaw26_awake.j2 kj49 bt323.2.2.2 bt323.1 bt323.2.1 bt323.2.2.1 (!t348)))) else (dancestudiolaw26_awake.j2 kj49 bt323.2.2.2 bt323.1 bt323.2.1 bt323.2.2.1 true)))) else (dancestudiolaw26_awake.j2 kj49 bt323.2.2.2 bt323.1 bt323.2.1 bt323.2.2.1 true)) else (dancestudiolaw26_awake.j2 kj49 bt323.2.2.2 bt323.1 bt323.2.1 bt323.2.2.1 true)))))))) = some r := H
              have A66 := Aside0.mk A660
              clear A660
              replace H := Option.bind_eq_some_iff.mp H
              obtain ⟨⟨t281, t282, t283, t284, t285, t286, t287⟩, A670, H⟩ := H
              replace H : ((repeats_Find.f kj49 (([(⟨t267, t268, t269, t270, t271, t272, t273⟩ : S43), (⟨t274, t275, t276, t277, t278, t279, t280⟩ : S43), (⟨t281, t282, t283, t284, t285, t286, t287⟩ : S43)] : List (S43))) 12 4).bind fun bt291 => ((dancestudiolaw26_hold.f 0 4).bind fun bt299 => ((dancestudiolaw26_hold.f 4 8).bind fun bt306 => ((dancestudiolaw26_hold.f 8 11).bind fun bt313 => ((repeats_Find.f kj49 (([(⟨bt299.1, bt299.2.1, bt299.2.2.1, bt299.2.2.2.1, bt299.2.2.2.2.1, bt299.2.2.2.2.2.1, bt299.2.2.2.2.2.2⟩ : S43), (⟨bt306.1, bt306.2.1, bt306.2.2.1, bt306.2.2.2.1, bt306.2.2.2.2.1, bt306.2.2.2.2.2.1, bt306.2.2.2.2.2.2⟩ : S43), (⟨bt313.1, bt313.2.1, bt313.2.2.1, bt313.2.2.2.1, bt313.2.2.2.2.1, bt313.2.2.2.2.2.1, bt313.2.2.2.2.2.2⟩ : S43)] : List (S43))) 11 4).bind fun bt323 => (if bt291.2.2.2 = 0 then (if bt291.2.1 = 4 then ((dancestudiolaw26_hold.f 0 4).bind fun bt331 => ((dancestudioref26_Same.f kj49 bt291.1 (([(⟨bt331.1, bt331.2.1, bt331.2.2.1, bt331.2.2.2.1, bt331.2.2.2.2.1, bt331.2.2.2.2.2.1, bt331.2.2.2.2.2.2⟩ : S43)] : List (S43)))).bind fun t341 => (if t341 = true then ((dancestudiolaw26_twice.f 0 4 3).bind fun bt342 => ((dancestudioref26_SameRepeats.f kj49 bt291.2.2.1 (([(⟨(⟨bt342.1, bt342.2.1⟩ : S37), bt342.2.2⟩ : S39)] : List (S39)))).bind fun t348 => (dancestudiolaw26_awake.j2 kj49 bt323.2.2.2 bt323.1 bt323.2.1 bt323.2.2.1 (!t348)))) else (dancestudiolaw26_awake.j2 kj49 bt323.2.2.2 bt323.1 bt323.2.1 bt323.2.2.1 true)))) else (dancestudiolaw26_awake.j2 kj49 bt323.2.2.2 bt323.1 bt323.2.1 bt323.2.2.1 true)) else (dancestudiolaw26_awake.j2 kj49 bt323.2.2.2 bt323.1 bt323.2.1 bt323.2.2.1 true))))))) = some r := H
              have A67 := Aside0.mk A670
              clear A670
              obtain ⟨y288, hy288⟩ : ∃ y_ : List (S43), y_ = (([(⟨t267, t268, t269, t270, t271, t272, t273⟩ : S43), (⟨t274, t275, t276, t277, t278, t279, t280⟩ : S43), (⟨t281, t282, t283, t284, t285, t286, t287⟩ : S43)] : List (S43))) := ⟨_, rfl⟩
              replace H : ((repeats_Find.f kj49 y288 12 4).bind fun bt291 => ((dancestudiolaw26_hold.f 0 4).bind fun bt299 => ((dancestudiolaw26_hold.f 4 8).bind fun bt306 => ((dancestudiolaw26_hold.f 8 11).bind fun bt313 => ((repeats_Find.f kj49 (([(⟨bt299.1, bt299.2.1, bt299.2.2.1, bt299.2.2.2.1, bt299.2.2.2.2.1, bt299.2.2.2.2.2.1, bt299.2.2.2.2.2.2⟩ : S43), (⟨bt306.1, bt306.2.1, bt306.2.2.1, bt306.2.2.2.1, bt306.2.2.2.2.1, bt306.2.2.2.2.2.1, bt306.2.2.2.2.2.2⟩ : S43), (⟨bt313.1, bt313.2.1, bt313.2.2.1, bt313.2.2.2.1, bt313.2.2.2.2.1, bt313.2.2.2.2.2.1, bt313.2.2.2.2.2.2⟩ : S43)] : List (S43))) 11 4).bind fun bt323 => (if bt291.2.2.2 = 0 then (if bt291.2.1 = 4 then ((dancestudiolaw26_hold.f 0 4).bind fun bt331 => ((dancestudioref26_Same.f kj49 bt291.1 (([(⟨bt331.1, bt331.2.1, bt331.2.2.1, bt331.2.2.2.1, bt331.2.2.2.2.1, bt331.2.2.2.2.2.1, bt331.2.2.2.2.2.2⟩ : S43)] : List (S43)))).bind fun t341 => (if t341 = true then ((dancestudiolaw26_twice.f 0 4 3).bind fun bt342 => ((dancestudioref26_SameRepeats.f kj49 bt291.2.2.1 (([(⟨(⟨bt342.1, bt342.2.1⟩ : S37), bt342.2.2⟩ : S39)] : List (S39)))).bind fun t348 => (dancestudiolaw26_awake.j2 kj49 bt323.2.2.2 bt323.1 bt323.2.1 bt323.2.2.1 (!t348)))) else (dancestudiolaw26_awake.j2 kj49 bt323.2.2.2 bt323.1 bt323.2.1 bt323.2.2.1 true)))) else (dancestudiolaw26_awake.j2 kj49 bt323.2.2.2 bt323.1 bt323.2.1 bt323.2.2.1 true)) else (dancestudiolaw26_awake.j2 kj49 bt323.2.2.2 bt323.1 bt323.2.1 bt323.2.2.1 true))))))) = some r := by first | (rw [hy288]; with_reducible exact H) | (have H2_ := (Option.bind_some _ _).symm.trans H; rw [hy288]; with_reducible exact H2_) | (have H2_ := (Option.bind_some _ _).symm.trans H; with_reducible exact H2_) | with_reducible exact H | (rw [hy288]; exact H) | exact H
              have Ny288 := Aside0.mk hy288
              clear hy288
              replace H := Option.bind_eq_some_iff.mp H
              obtain ⟨⟨t291, t292, t293, t294⟩, A680, H⟩ := H
              replace H : ((dancestudiolaw26_hold.f 0 4).bind fun bt299 => ((dancestudiolaw26_hold.f 4 8).bind fun bt306 => ((dancestudiolaw26_hold.f 8 11).bind fun bt313 => ((repeats_Find.f kj49 (([(⟨bt299.1, bt299.2.1, bt299.2.2.1, bt299.2.2.2.1, bt299.2.2.2.2.1, bt299.2.2.2.2.2.1, bt299.2.2.2.2.2.2⟩ : S43), (⟨bt306.1, bt306.2.1, bt306.2.2.1, bt306.2.2.2.1, bt306.2.2.2.2.1, bt306.2.2.2.2.2.1, bt306.2.2.2.2.2.2⟩ : S43), (⟨bt313.1, bt313.2.1, bt313.2.2.1, bt313.2.2.2.1, bt313.2.2.2.2.1, bt313.2.2.2.2.2.1, bt313.2.2.2.2.2.2⟩ : S43)] : List (S43))) 11 4).bind fun bt323 => (if t294 = 0 then (if t292 = 4 then ((dancestudiolaw26_hold.f 0 4).bind fun bt331 => ((dancestudioref26_Same.f kj49 t291 (([(⟨bt331.1, bt331.2.1, bt331.2.2.1, bt331.2.2.2.1, bt331.2.2.2.2.1, bt331.2.2.2.2.2.1, bt331.2.2.2.2.2.2⟩ : S43)] : List (S43)))).bind fun t341 => (if t341 = true then ((dancestudiolaw26_twice.f 0 4 3).bind fun bt342 => ((dancestudioref26_SameRepeats.f kj49 t293 (([(⟨(⟨bt342.1, bt342.2.1⟩ : S37), bt342.2.2⟩ : S39)] : List (S39)))).bind fun t348 => (dancestudiolaw26_awake.j2 kj49 bt323.2.2.2 bt323.1 bt323.2.1 bt323.2.2.1 (!t348)))) else (dancestudiolaw26_awake.j2 kj49 bt323.2.2.2 bt323.1 bt323.2.1 bt323.2.2.1 true)))) else (dancestudiolaw26_awake.j2 kj49 bt323.2.2.2 bt323.1 bt323.2.1 bt323.2.2.1 true)) else (dancestudiolaw26_awake.j2 kj49 bt323.2.2.2 bt323.1 bt323.2.1 bt323.2.2.1 true)))))) = some r := H
              have A68 := Aside0.mk A680
              clear A680
              replace H := Option.bind_eq_some_iff.mp H
              obtain ⟨⟨t299, t300, t301, t302, t303, t304, t305⟩, A690, H⟩ := H
              replace H : ((dancestudiolaw26_hold.f 4 8).bind fun bt306 => ((dancestudiolaw26_hold.f 8 11).bind fun bt313 => ((repeats_Find.f kj49 (([(⟨t299, t300, t301, t302, t303, t304, t305⟩ : S43), (⟨bt306.1, bt306.2.1, bt306.2.2.1, bt306.2.2.2.1, bt306.2.2.2.2.1, bt306.2.2.2.2.2.1, bt306.2.2.2.2.2.2⟩ : S43), (⟨bt313.1, bt313.2.1, bt313.2.2.1, bt313.2.2.2.1, bt313.2.2.2.2.1, bt313.2.2.2.2.2.1, bt313.2.2.2.2.2.2⟩ : S43)] : List (S43))) 11 4).bind fun bt323 => (if t294 = 0 then (if t292 = 4 then ((dancestudiolaw26_hold.f 0 4).bind fun bt331 => ((dancestudioref26_Same.f kj49 t291 (([(⟨bt331.1, bt331.2.1, bt331.2.2.1, bt331.2.2.2.1, bt331.2.2.2.2.1, bt331.2.2.2.2.2.1, bt331.2.2.2.2.2.2⟩ : S43)] : List (S43)))).bind fun t341 => (if t341 = true then ((dancestudiolaw26_twice.f 0 4 3).bind fun bt342 => ((dancestudioref26_SameRepeats.f kj49 t293 (([(⟨(⟨bt342.1, bt342.2.1⟩ : S37), bt342.2.2⟩ : S39)] : List (S39)))).bind fun t348 => (dancestudiolaw26_awake.j2 kj49 bt323.2.2.2 bt323.1 bt323.2.1 bt323.2.2.1 (!t348)))) else (dancestudiolaw26_awake.j2 kj49 bt323.2.2.2 bt323.1 bt323.2.1 bt323.2.2.1 true)))) else (dancestudiolaw26_awake.j2 kj49 bt323.2.2.2 bt323.1 bt323.2.1 bt323.2.2.1 true)) else (dancestudiolaw26_awake.j2 kj49 bt323.2.2.2 bt323.1 bt323.2.1 bt323.2.2.1 true))))) = some r := H
              have A69 := Aside0.mk A690
              clear A690
              replace H := Option.bind_eq_some_iff.mp H
              obtain ⟨⟨t306, t307, t308, t309, t310, t311, t312⟩, A700, H⟩ := H
              replace H : ((dancestudiolaw26_hold.f 8 11).bind fun bt313 => ((repeats_Find.f kj49 (([(⟨t299, t300, t301, t302, t303, t304, t305⟩ : S43), (⟨t306, t307, t308, t309, t310, t311, t312⟩ : S43), (⟨bt313.1, bt313.2.1, bt313.2.2.1, bt313.2.2.2.1, bt313.2.2.2.2.1, bt313.2.2.2.2.2.1, bt313.2.2.2.2.2.2⟩ : S43)] : List (S43))) 11 4).bind fun bt323 => (if t294 = 0 then (if t292 = 4 then ((dancestudiolaw26_hold.f 0 4).bind fun bt331 => ((dancestudioref26_Same.f kj49 t291 (([(⟨bt331.1, bt331.2.1, bt331.2.2.1, bt331.2.2.2.1, bt331.2.2.2.2.1, bt331.2.2.2.2.2.1, bt331.2.2.2.2.2.2⟩ : S43)] : List (S43)))).bind fun t341 => (if t341 = true then ((dancestudiolaw26_twice.f 0 4 3).bind fun bt342 => ((dancestudioref26_SameRepeats.f kj49 t293 (([(⟨(⟨bt342.1, bt342.2.1⟩ : S37), bt342.2.2⟩ : S39)] : List (S39)))).bind fun t348 => (dancestudiolaw26_awake.j2 kj49 bt323.2.2.2 bt323.1 bt323.2.1 bt323.2.2.1 (!t348)))) else (dancestudiolaw26_awake.j2 kj49 bt323.2.2.2 bt323.1 bt323.2.1 bt323.2.2.1 true)))) else (dancestudiolaw26_awake.j2 kj49 bt323.2.2.2 bt323.1 bt323.2.1 bt323.2.2.1 true)) else (dancestudiolaw26_awake.j2 kj49 bt323.2.2.2 bt323.1 bt323.2.1 bt323.2.2.1 true)))) = some r := H
              have A70 := Aside0.mk A700
              clear A700
              replace H := Option.bind_eq_some_iff.mp H
              obtain ⟨⟨t313, t314, t315, t316, t317, t318, t319⟩, A710, H⟩ := H
              replace H : ((repeats_Find.f kj49 (([(⟨t299, t300, t301, t302, t303, t304, t305⟩ : S43), (⟨t306, t307, t308, t309, t310, t311, t312⟩ : S43), (⟨t313, t314, t315, t316, t317, t318, t319⟩ : S43)] : List (S43))) 11 4).bind fun bt323 => (if t294 = 0 then (if t292 = 4 then ((dancestudiolaw26_hold.f 0 4).bind fun bt331 => ((dancestudioref26_Same.f kj49 t291 (([(⟨bt331.1, bt331.2.1, bt331.2.2.1, bt331.2.2.2.1, bt331.2.2.2.2.1, bt331.2.2.2.2.2.1, bt331.2.2.2.2.2.2⟩ : S43)] : List (S43)))).bind fun t341 => (if t341 = true then ((dancestudiolaw26_twice.f 0 4 3).bind fun bt342 => ((dancestudioref26_SameRepeats.f kj49 t293 (([(⟨(⟨bt342.1, bt342.2.1⟩ : S37), bt342.2.2⟩ : S39)] : List (S39)))).bind fun t348 => (dancestudiolaw26_awake.j2 kj49 bt323.2.2.2 bt323.1 bt323.2.1 bt323.2.2.1 (!t348)))) else (dancestudiolaw26_awake.j2 kj49 bt323.2.2.2 bt323.1 bt323.2.1 bt323.2.2.1 true)))) else (dancestudiolaw26_awake.j2 kj49 bt323.2.2.2 bt323.1 bt323.2.1 bt323.2.2.1 true)) else (dancestudiolaw26_awake.j2 kj49 bt323.2.2.2 bt323.1 bt323.2.1 bt323.2.2.1 true))) = some r := H
              have A71 := Aside0.mk A710
              clear A710
              obtain ⟨y320, hy320⟩ : ∃ y_ : List (S43), y_ = (([(⟨t299, t300, t301, t302, t303, t304, t305⟩ : S43), (⟨t306, t307, t308, t309, t310, t311, t312⟩ : S43), (⟨t313, t314, t315, t316, t317, t318, t319⟩ : S43)] : List (S43))) := ⟨_, rfl⟩
              replace H : ((repeats_Find.f kj49 y320 11 4).bind fun bt323 => (if t294 = 0 then (if t292 = 4 then ((dancestudiolaw26_hold.f 0 4).bind fun bt331 => ((dancestudioref26_Same.f kj49 t291 (([(⟨bt331.1, bt331.2.1, bt331.2.2.1, bt331.2.2.2.1, bt331.2.2.2.2.1, bt331.2.2.2.2.2.1, bt331.2.2.2.2.2.2⟩ : S43)] : List (S43)))).bind fun t341 => (if t341 = true then ((dancestudiolaw26_twice.f 0 4 3).bind fun bt342 => ((dancestudioref26_SameRepeats.f kj49 t293 (([(⟨(⟨bt342.1, bt342.2.1⟩ : S37), bt342.2.2⟩ : S39)] : List (S39)))).bind fun t348 => (dancestudiolaw26_awake.j2 kj49 bt323.2.2.2 bt323.1 bt323.2.1 bt323.2.2.1 (!t348)))) else (dancestudiolaw26_awake.j2 kj49 bt323.2.2.2 bt323.1 bt323.2.1 bt323.2.2.1 true)))) else (dancestudiolaw26_awake.j2 kj49 bt323.2.2.2 bt323.1 bt323.2.1 bt323.2.2.1 true)) else (dancestudiolaw26_awake.j2 kj49 bt323.2.2.2 bt323.1 bt323.2.1 bt323.2.2.1 true))) = some r := by first | (rw [hy320]; with_reducible exact H) | (have H2_ := (Option.bind_some _ _).symm.trans H; rw [hy320]; with_reducible exact H2_) | (have H2_ := (Option.bind_some _ _).symm.trans H; with_reducible exact H2_) | with_reducible exact H | (rw [hy320]; exact H) | exact H
              have Ny320 := Aside0.mk hy320
              clear hy320
              replace H := Option.bind_eq_some_iff.mp H
              obtain ⟨⟨t323, t324, t325, t326⟩, A720, H⟩ := H
              replace H : (if t294 = 0 then (if t292 = 4 then ((dancestudiolaw26_hold.f 0 4).bind fun bt331 => ((dancestudioref26_Same.f kj49 t291 (([(⟨bt331.1, bt331.2.1, bt331.2.2.1, bt331.2.2.2.1, bt331.2.2.2.2.1, bt331.2.2.2.2.2.1, bt331.2.2.2.2.2.2⟩ : S43)] : List (S43)))).bind fun t341 => (if t341 = true then ((dancestudiolaw26_twice.f 0 4 3).bind fun bt342 => ((dancestudioref26_SameRepeats.f kj49 t293 (([(⟨(⟨bt342.1, bt342.2.1⟩ : S37), bt342.2.2⟩ : S39)] : List (S39)))).bind fun t348 => (dancestudiolaw26_awake.j2 kj49 t326 t323 t324 t325 (!t348)))) else (dancestudiolaw26_awake.j2 kj49 t326 t323 t324 t325 true)))) else (dancestudiolaw26_awake.j2 kj49 t326 t323 t324 t325 true)) else (dancestudiolaw26_awake.j2 kj49 t326 t323 t324 t325 true)) = some r := H
              have A72 := Aside0.mk A720
              clear A720
              have HC73 := Aside0.mk H
              clear H
              go_upto_region 12 with (first | ((with_reducible refine gate_callee (f := 13) rfl ?_); refine goesL_ (some 92) rfl rfl Try.func13 (by kernel_rfl) rfl #[.int .i64 0, .int .i64 4] rfl (by (try simp only [List.map_toArray, List.map_cons, List.map_nil]); first | done | rfl | (simp only [List.length_drop, List.length_take]; rfl)) ?_; (with_reducible refine (dancestudiolaw26_hold.calls 0 4 t267 t268 t269 t270 t271 t272 t273 _ A65.out).mono ?_); rintro e w74 ⟨rfl, hb⟩; refine ⟨_, rfl, ?_⟩; have n0_ := Aside0.mk (below_step (by repeat (first | (with_reducible first | exact HB.out | apply below_alloc | apply pw_below_drewN | apply below_drew1) | exact HB.out)) hb); clear HB; have HB := n0_; clear n0_; (try clear hb); (try clear hb2); (try clear hk); (try clear hi)) | ((with_reducible refine gate_callee (f := 13) rfl ?_); refine goesL_ (some 93) rfl rfl Try.func13 (by kernel_rfl) rfl #[.int .i64 4, .int .i64 8] rfl (by (try simp only [List.map_toArray, List.map_cons, List.map_nil]); first | done | rfl | (simp only [List.length_drop, List.length_take]; rfl)) ?_; (with_reducible refine (dancestudiolaw26_hold.calls 4 8 t274 t275 t276 t277 t278 t279 t280 _ A66.out).mono ?_); rintro e w75 ⟨rfl, hb⟩; refine ⟨_, rfl, ?_⟩; have n0_ := Aside0.mk (below_step (by repeat (first | (with_reducible first | exact HB.out | apply below_alloc | apply pw_below_drewN | apply below_drew1) | exact HB.out)) hb); clear HB; have HB := n0_; clear n0_; (try clear hb); (try clear hb2); (try clear hk); (try clear hi)) | ((with_reducible refine gate_callee (f := 13) rfl ?_); refine goesL_ (some 94) rfl rfl Try.func13 (by kernel_rfl) rfl #[.int .i64 8, .int .i64 12] rfl (by (try simp only [List.map_toArray, List.map_cons, List.map_nil]); first | done | rfl | (simp only [List.length_drop, List.length_take]; rfl)) ?_; (with_reducible refine (dancestudiolaw26_hold.calls 8 12 t281 t282 t283 t284 t285 t286 t287 _ A67.out).mono ?_); rintro e w76 ⟨rfl, hb⟩; refine ⟨_, rfl, ?_⟩; have n0_ := Aside0.mk (below_step (by repeat (first | (with_reducible first | exact HB.out | apply below_alloc | apply pw_below_drewN | apply below_drew1) | exact HB.out)) hb); clear HB; have HB := n0_; clear n0_; (try clear hb); (try clear hb2); (try clear hk); (try clear hi)) | ((with_reducible refine gate_dst (N := 95) rfl ?_); (try (refine gate_guard (by rfl) ?_; dsimp only)); refine Kd.R_lit k43 _ 43 ?hg (N := 95) ?hd (xs := ([(⟨t267, t268, t269, t270, t271, t272, t273⟩ : S43), (⟨t274, t275, t276, t277, t278, t279, t280⟩ : S43), (⟨t281, t282, t283, t284, t285, t286, t287⟩ : S43)] : List (S43))) (inner := [.int .i64 t267, .int .i64 t268, .int .i64 t269, .int .i64 t270, .int .i64 t271, .int .i64 t272, .int .i64 t273, .int .i64 t274, .int .i64 t275, .int .i64 t276, .int .i64 t277, .int .i64 t278, .int .i64 t279, .int .i64 t280, .int .i64 t281, .int .i64 t282, .int .i64 t283, .int .i64 t284, .int .i64 t285, .int .i64 t286, .int .i64 t287]) (ok := fun _ => True) (okp := fun _ => True) ?hr ?hp (fun _ hk => hk) trivial (Below.refl _ _) (Nat.le_refl _) (by simp) ?_; (case hd => rfl); (case hg => rfl); (case hr => first | (go_simp; done) | (go_simp; rfl)); (case hp => exact (Reps.c7 (show Kd.M k43 _ _ _ (⟨t267, t268, t269, t270, t271, t272, t273⟩ : S43) [.int .i64 t267, .int .i64 t268, .int .i64 t269, .int .i64 t270, .int .i64 t271, .int .i64 t272, .int .i64 t273] from (k43_mkM _ _ _ (⟨t267, t268, t269, t270, t271, t272, t273⟩ : S43) )) (Reps.c7 (show Kd.M k43 _ _ _ (⟨t274, t275, t276, t277, t278, t279, t280⟩ : S43) [.int .i64 t274, .int .i64 t275, .int .i64 t276, .int .i64 t277, .int .i64 t278, .int .i64 t279, .int .i64 t280] from (k43_mkM _ _ _ (⟨t274, t275, t276, t277, t278, t279, t280⟩ : S43) )) (Reps.c7 (show Kd.M k43 _ _ _ (⟨t281, t282, t283, t284, t285, t286, t287⟩ : S43) [.int .i64 t281, .int .i64 t282, .int .i64 t283, .int .i64 t284, .int .i64 t285, .int .i64 t286, .int .i64 t287] from (k43_mkM _ _ _ (⟨t281, t282, t283, t284, t285, t286, t287⟩ : S43) )) (Reps.none _ _))))); intro v289 w77 ho78 hb hg_ hnew_; clear hg_ hnew_; (first | rw [← Ny288.out] at ho78 | (simp only [Int.reduceToNat] at ho78; rw [← Ny288.out] at ho78)); have n0_ := Aside0.mk (Kd.R_lower ho78 (below_size (by repeat (first | (with_reducible first | exact HB.out | apply below_alloc | apply pw_below_drewN | apply below_drew1) | exact HB.out)))); have n1_ := Aside0.mk (below_step (by repeat (first | (with_reducible first | exact HB.out | apply below_alloc | apply pw_below_drewN | apply below_drew1) | exact HB.out)) hb); clear HB; have HO290 := n0_; have HB := n1_; clear n0_ n1_; clear hb ho78; obtain ⟨Ao79, co79, eo79⟩ := Kd.R_slice HO290.out; subst eo79) | ((with_reducible refine gate_callee (f := 6) rfl ?_); refine goesL_ (some 96) rfl rfl Try.func6 (by kernel_rfl) rfl #[.slice Ao79 y288.length co79, .int .i64 12, .int .i64 4] rfl (by (try simp only [List.map_toArray, List.map_cons, List.map_nil]); first | done | rfl | (simp only [List.length_drop, List.length_take]; rfl)) ?_; (with_reducible refine (repeats_Find.calls kj49 _ _ y288 12 4 t291 t292 t293 t294 _ ?side1 ?side2 A68.out).mono ?_); (case side1 => repeat (first | exact (Kd.R_reads' HO290.out).2.2 | (with_reducible refine Kd.C_alloc ?_ _) | (with_reducible refine Kd.C_drewN ?_ _) | (with_reducible refine Kd.C_drew ?_))); (case side2 => exact (Kd.R_reads' HO290.out).2.1); rintro e w80 ⟨v295, v297, rfl, ho0, ho1, hb⟩; refine ⟨_, rfl, ?_⟩; have n0_ := Aside0.mk (Kd.R_elder' (by (with_reducible repeat (first | apply Kd.R_alloc | apply Kd.R_drewN | apply Kd.R_drew)); exact HO290.out) (Kd.R_base ho0) hb); have n1_ := Aside0.mk (Kd.R_lower (Kd.R_new' ho0 (Kd.R_lt (by (with_reducible repeat (first | apply Kd.R_alloc | apply Kd.R_drewN | apply Kd.R_drew)); exact HO290.out))) (below_size (by repeat (first | (with_reducible first | exact HB.out | apply below_alloc | apply pw_below_drewN | apply below_drew1) | exact HB.out)))); have n2_ := Aside0.mk (Kd.R_lower ho1 (below_size (by repeat (first | (with_reducible first | exact HB.out | apply below_alloc | apply pw_below_drewN | apply below_drew1) | exact HB.out)))); have n3_ := Aside0.mk (below_step (by repeat (first | (with_reducible first | exact HB.out | apply below_alloc | apply pw_below_drewN | apply below_drew1) | exact HB.out)) hb); clear HO290; clear HB; have HO290 := n0_; have HO296 := n1_; have HO298 := n2_; have HB := n3_; clear n0_ n1_ n2_ n3_; (try clear hb); (try clear hb2); (try clear hk); (try clear hi); (try clear ho0); (try clear ho1)) | ((with_reducible refine gate_callee (f := 13) rfl ?_); refine goesL_ (some 102) rfl rfl Try.func13 (by kernel_rfl) rfl #[.int .i64 0, .int .i64 4] rfl (by (try simp only [List.map_toArray, List.map_cons, List.map_nil]); first | done | rfl | (simp only [List.length_drop, List.length_take]; rfl)) ?_; (with_reducible refine (dancestudiolaw26_hold.calls 0 4 t299 t300 t301 t302 t303 t304 t305 _ A69.out).mono ?_); rintro e w81 ⟨rfl, hb⟩; refine ⟨_, rfl, ?_⟩; have n0_ := Aside0.mk (Kd.R_below (by (with_reducible repeat (first | apply Kd.R_alloc | apply Kd.R_drewN | apply Kd.R_drew)); exact HO290.out) hb); have n1_ := Aside0.mk (Kd.R_below (by (with_reducible repeat (first | apply Kd.R_alloc | apply Kd.R_drewN | apply Kd.R_drew)); exact HO296.out) hb); have n2_ := Aside0.mk (Kd.R_below (by (with_reducible repeat (first | apply Kd.R_alloc | apply Kd.R_drewN | apply Kd.R_drew)); exact HO298.out) hb); have n3_ := Aside0.mk (below_step (by repeat (first | (with_reducible first | exact HB.out | apply below_alloc | apply pw_below_drewN | apply below_drew1) | exact HB.out)) hb); clear HO290; clear HO296; clear HO298; clear HB; have HO290 := n0_; have HO296 := n1_; have HO298 := n2_; have HB := n3_; clear n0_ n1_ n2_ n3_; (try clear hb); (try clear hb2); (try clear hk); (try clear hi)) | ((with_reducible refine gate_callee (f := 13) rfl ?_); refine goesL_ (some 103) rfl rfl Try.func13 (by kernel_rfl) rfl #[.int .i64 4, .int .i64 8] rfl (by (try simp only [List.map_toArray, List.map_cons, List.map_nil]); first | done | rfl | (simp only [List.length_drop, List.length_take]; rfl)) ?_; (with_reducible refine (dancestudiolaw26_hold.calls 4 8 t306 t307 t308 t309 t310 t311 t312 _ A70.out).mono ?_); rintro e w82 ⟨rfl, hb⟩; refine ⟨_, rfl, ?_⟩; have n0_ := Aside0.mk (Kd.R_below (by (with_reducible repeat (first | apply Kd.R_alloc | apply Kd.R_drewN | apply Kd.R_drew)); exact HO290.out) hb); have n1_ := Aside0.mk (Kd.R_below (by (with_reducible repeat (first | apply Kd.R_alloc | apply Kd.R_drewN | apply Kd.R_drew)); exact HO296.out) hb); have n2_ := Aside0.mk (Kd.R_below (by (with_reducible repeat (first | apply Kd.R_alloc | apply Kd.R_drewN | apply Kd.R_drew)); exact HO298.out) hb); have n3_ := Aside0.mk (below_step (by repeat (first | (with_reducible first | exact HB.out | apply below_alloc | apply pw_below_drewN | apply below_drew1) | exact HB.out)) hb); clear HO290; clear HO296; clear HO298; clear HB; have HO290 := n0_; have HO296 := n1_; have HO298 := n2_; have HB := n3_; clear n0_ n1_ n2_ n3_; (try clear hb); (try clear hb2); (try clear hk); (try clear hi)) | ((with_reducible refine gate_callee (f := 13) rfl ?_); refine goesL_ (some 104) rfl rfl Try.func13 (by kernel_rfl) rfl #[.int .i64 8, .int .i64 11] rfl (by (try simp only [List.map_toArray, List.map_cons, List.map_nil]); first | done | rfl | (simp only [List.length_drop, List.length_take]; rfl)) ?_; (with_reducible refine (dancestudiolaw26_hold.calls 8 11 t313 t314 t315 t316 t317 t318 t319 _ A71.out).mono ?_); rintro e w83 ⟨rfl, hb⟩; refine ⟨_, rfl, ?_⟩; have n0_ := Aside0.mk (Kd.R_below (by (with_reducible repeat (first | apply Kd.R_alloc | apply Kd.R_drewN | apply Kd.R_drew)); exact HO290.out) hb); have n1_ := Aside0.mk (Kd.R_below (by (with_reducible repeat (first | apply Kd.R_alloc | apply Kd.R_drewN | apply Kd.R_drew)); exact HO296.out) hb); have n2_ := Aside0.mk (Kd.R_below (by (with_reducible repeat (first | apply Kd.R_alloc | apply Kd.R_drewN | apply Kd.R_drew)); exact HO298.out) hb); have n3_ := Aside0.mk (below_step (by repeat (first | (with_reducible first | exact HB.out | apply below_alloc | apply pw_below_drewN | apply below_drew1) | exact HB.out)) hb); clear HO290; clear HO296; clear HO298; clear HB; have HO290 := n0_; have HO296 := n1_; have HO298 := n2_; have HB := n3_; clear n0_ n1_ n2_ n3_; (try clear hb); (try clear hb2); (try clear hk); (try clear hi)) | ((with_reducible refine gate_dst (N := 105) rfl ?_); (try (refine gate_guard (by rfl) ?_; dsimp only)); refine Kd.R_lit k43 _ 43 ?hg (N := 105) ?hd (xs := ([(⟨t299, t300, t301, t302, t303, t304, t305⟩ : S43), (⟨t306, t307, t308, t309, t310, t311, t312⟩ : S43), (⟨t313, t314, t315, t316, t317, t318, t319⟩ : S43)] : List (S43))) (inner := [.int .i64 t299, .int .i64 t300, .int .i64 t301, .int .i64 t302, .int .i64 t303, .int .i64 t304, .int .i64 t305, .int .i64 t306, .int .i64 t307, .int .i64 t308, .int .i64 t309, .int .i64 t310, .int .i64 t311, .int .i64 t312, .int .i64 t313, .int .i64 t314, .int .i64 t315, .int .i64 t316, .int .i64 t317, .int .i64 t318, .int .i64 t319]) (ok := fun _ => True) (okp := fun _ => True) ?hr ?hp (fun _ hk => hk) trivial (Below.refl _ _) (Nat.le_refl _) (by simp) ?_; (case hd => rfl); (case hg => rfl); (case hr => first | (go_simp; done) | (go_simp; rfl)); (case hp => exact (Reps.c7 (show Kd.M k43 _ _ _ (⟨t299, t300, t301, t302, t303, t304, t305⟩ : S43) [.int .i64 t299, .int .i64 t300, .int .i64 t301, .int .i64 t302, .int .i64 t303, .int .i64 t304, .int .i64 t305] from (k43_mkM _ _ _ (⟨t299, t300, t301, t302, t303, t304, t305⟩ : S43) )) (Reps.c7 (show Kd.M k43 _ _ _ (⟨t306, t307, t308, t309, t310, t311, t312⟩ : S43) [.int .i64 t306, .int .i64 t307, .int .i64 t308, .int .i64 t309, .int .i64 t310, .int .i64 t311, .int .i64 t312] from (k43_mkM _ _ _ (⟨t306, t307, t308, t309, t310, t311, t312⟩ : S43) )) (Reps.c7 (show Kd.M k43 _ _ _ (⟨t313, t314, t315, t316, t317, t318, t319⟩ : S43) [.int .i64 t313, .int .i64 t314, .int .i64 t315, .int .i64 t316, .int .i64 t317, .int .i64 t318, .int .i64 t319] from (k43_mkM _ _ _ (⟨t313, t314, t315, t316, t317, t318, t319⟩ : S43) )) (Reps.none _ _))))); intro v321 w84 ho85 hb hg_ hnew_; clear hg_ hnew_; (first | rw [← Ny320.out] at ho85 | (simp only [Int.reduceToNat] at ho85; rw [← Ny320.out] at ho85)); have n0_ := Aside0.mk (Kd.R_elder' (by (with_reducible repeat (first | apply Kd.R_alloc | apply Kd.R_drewN | apply Kd.R_drew)); exact HO290.out) (Kd.R_base ho85) hb); have n1_ := Aside0.mk (Kd.R_elder' (by (with_reducible repeat (first | apply Kd.R_alloc | apply Kd.R_drewN | apply Kd.R_drew)); exact HO296.out) (Kd.R_base ho85) hb); have n2_ := Aside0.mk (Kd.R_below (by (with_reducible repeat (first | apply Kd.R_alloc | apply Kd.R_drewN | apply Kd.R_drew)); exact HO298.out) hb); have n3_ := Aside0.mk (Kd.R_lower (Kd.R_new' (Kd.R_new' ho85 (Kd.R_lt (by (with_reducible repeat (first | apply Kd.R_alloc | apply Kd.R_drewN | apply Kd.R_drew)); exact HO290.out))) (Kd.R_lt (by (with_reducible repeat (first | apply Kd.R_alloc | apply Kd.R_drewN | apply Kd.R_drew)); exact HO296.out))) (below_size (by repeat (first | (with_reducible first | exact HB.out | apply below_alloc | apply pw_below_drewN | apply below_drew1) | exact HB.out)))); have n4_ := Aside0.mk (below_step (by repeat (first | (with_reducible first | exact HB.out | apply below_alloc | apply pw_below_drewN | apply below_drew1) | exact HB.out)) hb); clear HO290; clear HO296; clear HO298; clear HB; have HO290 := n0_; have HO296 := n1_; have HO298 := n2_; have HO322 := n3_; have HB := n4_; clear n0_ n1_ n2_ n3_ n4_; clear hb ho85; obtain ⟨Ao86, co86, eo86⟩ := Kd.R_slice HO322.out; subst eo86) | ((with_reducible refine gate_callee (f := 6) rfl ?_); refine goesL_ (some 106) rfl rfl Try.func6 (by kernel_rfl) rfl #[.slice Ao86 y320.length co86, .int .i64 11, .int .i64 4] rfl (by (try simp only [List.map_toArray, List.map_cons, List.map_nil]); first | done | rfl | (simp only [List.length_drop, List.length_take]; rfl)) ?_; (with_reducible refine (repeats_Find.calls kj49 _ _ y320 11 4 t323 t324 t325 t326 _ ?side1 ?side2 A72.out).mono ?_); (case side1 => repeat (first | exact (Kd.R_reads' HO322.out).2.2 | (with_reducible refine Kd.C_alloc ?_ _) | (with_reducible refine Kd.C_drewN ?_ _) | (with_reducible refine Kd.C_drew ?_))); (case side2 => exact (Kd.R_reads' HO322.out).2.1); rintro e w87 ⟨v327, v329, rfl, ho0, ho1, hb⟩; refine ⟨_, rfl, ?_⟩; have n0_ := Aside0.mk (Kd.R_elder' (by (with_reducible repeat (first | apply Kd.R_alloc | apply Kd.R_drewN | apply Kd.R_drew)); exact HO290.out) (Kd.R_base ho0) hb); have n1_ := Aside0.mk (Kd.R_elder' (by (with_reducible repeat (first | apply Kd.R_alloc | apply Kd.R_drewN | apply Kd.R_drew)); exact HO296.out) (Kd.R_base ho0) hb); have n2_ := Aside0.mk (Kd.R_elder' (by (with_reducible repeat (first | apply Kd.R_alloc | apply Kd.R_drewN | apply Kd.R_drew)); exact HO298.out) (Kd.R_base ho1) hb); have n3_ := Aside0.mk (Kd.R_elder' (by (with_reducible repeat (first | apply Kd.R_alloc | apply Kd.R_drewN | apply Kd.R_drew)); exact HO322.out) (Kd.R_base ho0) hb); have n4_ := Aside0.mk (Kd.R_lower (Kd.R_new' (Kd.R_new' (Kd.R_new' ho0 (Kd.R_lt (by (with_reducible repeat (first | apply Kd.R_alloc | apply Kd.R_drewN | apply Kd.R_drew)); exact HO290.out))) (Kd.R_lt (by (with_reducible repeat (first | apply Kd.R_alloc | apply Kd.R_drewN | apply Kd.R_drew)); exact HO296.out))) (Kd.R_lt (by (with_reducible repeat (first | apply Kd.R_alloc | apply Kd.R_drewN | apply Kd.R_drew)); exact HO322.out))) (below_size (by repeat (first | (with_reducible first | exact HB.out | apply below_alloc | apply pw_below_drewN | apply below_drew1) | exact HB.out)))); have n5_ := Aside0.mk (Kd.R_lower (Kd.R_new' ho1 (Kd.R_lt (by (with_reducible repeat (first | apply Kd.R_alloc | apply Kd.R_drewN | apply Kd.R_drew)); exact HO298.out))) (below_size (by repeat (first | (with_reducible first | exact HB.out | apply below_alloc | apply pw_below_drewN | apply below_drew1) | exact HB.out)))); have n6_ := Aside0.mk (below_step (by repeat (first | (with_reducible first | exact HB.out | apply below_alloc | apply pw_below_drewN | apply below_drew1) | exact HB.out)) hb); clear HO290; clear HO296; clear HO298; clear HO322; clear HB; have HO290 := n0_; have HO296 := n1_; have HO298 := n2_; have HO322 := n3_; have HO328 := n4_; have HO330 := n5_; have HB := n6_; clear n0_ n1_ n2_ n3_ n4_ n5_ n6_; (try clear hb); (try clear hb2); (try clear hk); (try clear hi); (try clear ho0); (try clear ho1)))
              (try simp only [Act.put, List.setIfInBounds_toArray, List.set_cons_zero, List.set_cons_succ])
              go_cut [130] (fun v130 wc => ∃ (kq : Nat) (x130_72 : Bool), v130 = .bool x130_72 ∧ Aside0 (dancestudiolaw26_awake.j2 kq t326 t323 t324 t325 x130_72 = some r) ∧ Aside0 (kq ≤ kj49) ∧ Aside0 (Kd.R k43 43 wc w.heap.size (fun _ => True) v327 t323) ∧ Aside0 (Kd.R k39 39 wc w.heap.size (fun _ => True) v329 t325) ∧ Aside0 (Below w.heap.size w wc))
              case first =>
                have H := HC73.out
                clear HC73
                by_cases c88 : t294 = 0
                · rw [if_pos c88] at H
                  have c88b0 : (t294 == 0) = true := beq_iff_eq.mpr c88
                  have c88b1 : (t294 != 0) = false := bne_eq_false_iff_eq.mpr c88
                  clear c88
                  (first | rw [c88b0] | (simp only [i64_w, i32_w]; rw [c88b0]) | skip)
                  by_cases c89 : t292 = 4
                  · rw [if_pos c89] at H
                    have c89b0 : (t292 == 4) = true := beq_iff_eq.mpr c89
                    have c89b1 : (t292 != 4) = false := bne_eq_false_iff_eq.mpr c89
                    clear c89
                    replace H := Option.bind_eq_some_iff.mp H
                    obtain ⟨⟨t331, t332, t333, t334, t335, t336, t337⟩, A900, H⟩ := H
                    replace H : ((dancestudioref26_Same.f kj49 t291 (([(⟨t331, t332, t333, t334, t335, t336, t337⟩ : S43)] : List (S43)))).bind fun t341 => (if t341 = true then ((dancestudiolaw26_twice.f 0 4 3).bind fun bt342 => ((dancestudioref26_SameRepeats.f kj49 t293 (([(⟨(⟨bt342.1, bt342.2.1⟩ : S37), bt342.2.2⟩ : S39)] : List (S39)))).bind fun t348 => (dancestudiolaw26_awake.j2 kj49 t326 t323 t324 t325 (!t348)))) else (dancestudiolaw26_awake.j2 kj49 t326 t323 t324 t325 true))) = some r := H
                    have A90 := Aside0.mk A900
                    clear A900
                    obtain ⟨y338, hy338⟩ : ∃ y_ : List (S43), y_ = (([(⟨t331, t332, t333, t334, t335, t336, t337⟩ : S43)] : List (S43))) := ⟨_, rfl⟩
                    replace H : ((dancestudioref26_Same.f kj49 t291 y338).bind fun t341 => (if t341 = true then ((dancestudiolaw26_twice.f 0 4 3).bind fun bt342 => ((dancestudioref26_SameRepeats.f kj49 t293 (([(⟨(⟨bt342.1, bt342.2.1⟩ : S37), bt342.2.2⟩ : S39)] : List (S39)))).bind fun t348 => (dancestudiolaw26_awake.j2 kj49 t326 t323 t324 t325 (!t348)))) else (dancestudiolaw26_awake.j2 kj49 t326 t323 t324 t325 true))) = some r := by first | (rw [hy338]; with_reducible exact H) | (have H2_ := (Option.bind_some _ _).symm.trans H; rw [hy338]; with_reducible exact H2_) | (have H2_ := (Option.bind_some _ _).symm.trans H; with_reducible exact H2_) | with_reducible exact H | (rw [hy338]; exact H) | exact H
                    have Ny338 := Aside0.mk hy338
                    clear hy338
                    replace H := Option.bind_eq_some_iff.mp H
                    obtain ⟨t341, A910, H⟩ := H
                    replace H : (if t341 = true then ((dancestudiolaw26_twice.f 0 4 3).bind fun bt342 => ((dancestudioref26_SameRepeats.f kj49 t293 (([(⟨(⟨bt342.1, bt342.2.1⟩ : S37), bt342.2.2⟩ : S39)] : List (S39)))).bind fun t348 => (dancestudiolaw26_awake.j2 kj49 t326 t323 t324 t325 (!t348)))) else (dancestudiolaw26_awake.j2 kj49 t326 t323 t324 t325 true)) = some r := H
                    have A91 := Aside0.mk A910
                    clear A910
                    by_cases c92 : t341 = true
                    · subst c92
                      have H1 : ((dancestudiolaw26_twice.f 0 4 3).bind fun bt342 => ((dancestudioref26_SameRepeats.f kj49 t293 (([(⟨(⟨bt342.1, bt342.2.1⟩ : S37), bt342.2.2⟩ : S39)] : List (S39)))).bind fun t348 => (dancestudiolaw26_awake.j2 kj49 t326 t323 t324 t325 (!t348)))) = some r := by rw [if_pos rfl] at H; exact H
                      clear H
                      have H := H1
                      clear H1
                      replace H := Option.bind_eq_some_iff.mp H
                      obtain ⟨⟨t342, t343, t344⟩, A930, H⟩ := H
                      replace H : ((dancestudioref26_SameRepeats.f kj49 t293 (([(⟨(⟨t342, t343⟩ : S37), t344⟩ : S39)] : List (S39)))).bind fun t348 => (dancestudiolaw26_awake.j2 kj49 t326 t323 t324 t325 (!t348))) = some r := H
                      have A93 := Aside0.mk A930
                      clear A930
                      obtain ⟨y345, hy345⟩ : ∃ y_ : List (S39), y_ = (([(⟨(⟨t342, t343⟩ : S37), t344⟩ : S39)] : List (S39))) := ⟨_, rfl⟩
                      replace H : ((dancestudioref26_SameRepeats.f kj49 t293 y345).bind fun t348 => (dancestudiolaw26_awake.j2 kj49 t326 t323 t324 t325 (!t348))) = some r := by first | (rw [hy345]; with_reducible exact H) | (have H2_ := (Option.bind_some _ _).symm.trans H; rw [hy345]; with_reducible exact H2_) | (have H2_ := (Option.bind_some _ _).symm.trans H; with_reducible exact H2_) | with_reducible exact H | (rw [hy345]; exact H) | exact H
                      have Ny345 := Aside0.mk hy345
                      clear hy345
                      replace H := Option.bind_eq_some_iff.mp H
                      obtain ⟨t348, A940, H⟩ := H
                      replace H : (dancestudiolaw26_awake.j2 kj49 t326 t323 t324 t325 (!t348)) = some r := H
                      have A94 := Aside0.mk A940
                      clear A940
                      have H' := Aside0.mk H
                      clear H
                      go_wp2_with (first | (go_at_call 13; (with_reducible refine (dancestudiolaw26_hold.calls 0 4 t331 t332 t333 t334 t335 t336 t337 _ A90.out).mono ?_); rintro e w95 ⟨rfl, hb⟩; have n0_ := Aside0.mk (Kd.R_below (by (with_reducible repeat (first | apply Kd.R_alloc | apply Kd.R_drewN | apply Kd.R_drew)); exact HO290.out) hb); have n1_ := Aside0.mk (Kd.R_below (by (with_reducible repeat (first | apply Kd.R_alloc | apply Kd.R_drewN | apply Kd.R_drew)); exact HO296.out) hb); have n2_ := Aside0.mk (Kd.R_below (by (with_reducible repeat (first | apply Kd.R_alloc | apply Kd.R_drewN | apply Kd.R_drew)); exact HO298.out) hb); have n3_ := Aside0.mk (Kd.R_below (by (with_reducible repeat (first | apply Kd.R_alloc | apply Kd.R_drewN | apply Kd.R_drew)); exact HO322.out) hb); have n4_ := Aside0.mk (Kd.R_below (by (with_reducible repeat (first | apply Kd.R_alloc | apply Kd.R_drewN | apply Kd.R_drew)); exact HO328.out) hb); have n5_ := Aside0.mk (Kd.R_below (by (with_reducible repeat (first | apply Kd.R_alloc | apply Kd.R_drewN | apply Kd.R_drew)); exact HO330.out) hb); have n6_ := Aside0.mk (below_step (by repeat (first | (with_reducible first | exact HB.out | apply below_alloc | apply pw_below_drewN | apply below_drew1) | exact HB.out)) hb); clear HO290; clear HO296; clear HO298; clear HO322; clear HO328; clear HO330; clear HB; have HO290 := n0_; have HO296 := n1_; have HO298 := n2_; have HO322 := n3_; have HO328 := n4_; have HO330 := n5_; have HB := n6_; clear n0_ n1_ n2_ n3_ n4_ n5_ n6_; (try clear hb); (try clear hb2); (try clear hk); (try clear hi)) | ((with_reducible refine gate_dst (N := 120) rfl ?_); (try (refine gate_guard (by rfl) ?_; dsimp only)); refine Kd.R_lit k43 _ 43 ?hg (N := 120) ?hd (xs := ([(⟨t331, t332, t333, t334, t335, t336, t337⟩ : S43)] : List (S43))) (inner := [.int .i64 t331, .int .i64 t332, .int .i64 t333, .int .i64 t334, .int .i64 t335, .int .i64 t336, .int .i64 t337]) (ok := fun _ => True) (okp := fun _ => True) ?hr ?hp (fun _ hk => hk) trivial (Below.refl _ _) (Nat.le_refl _) (by simp) ?_; (case hd => rfl); (case hg => rfl); (case hr => first | (go_simp; done) | (go_simp; rfl)); (case hp => exact (Reps.c7 (show Kd.M k43 _ _ _ (⟨t331, t332, t333, t334, t335, t336, t337⟩ : S43) [.int .i64 t331, .int .i64 t332, .int .i64 t333, .int .i64 t334, .int .i64 t335, .int .i64 t336, .int .i64 t337] from (k43_mkM _ _ _ (⟨t331, t332, t333, t334, t335, t336, t337⟩ : S43) )) (Reps.none _ _))); intro v339 w96 ho97 hb hg_ hnew_; clear hg_ hnew_; (first | rw [← Ny338.out] at ho97 | (simp only [Int.reduceToNat] at ho97; rw [← Ny338.out] at ho97)); have n0_ := Aside0.mk (Kd.R_elder' (by (with_reducible repeat (first | apply Kd.R_alloc | apply Kd.R_drewN | apply Kd.R_drew)); exact HO290.out) (Kd.R_base ho97) hb); have n1_ := Aside0.mk (Kd.R_elder' (by (with_reducible repeat (first | apply Kd.R_alloc | apply Kd.R_drewN | apply Kd.R_drew)); exact HO296.out) (Kd.R_base ho97) hb); have n2_ := Aside0.mk (Kd.R_below (by (with_reducible repeat (first | apply Kd.R_alloc | apply Kd.R_drewN | apply Kd.R_drew)); exact HO298.out) hb); have n3_ := Aside0.mk (Kd.R_elder' (by (with_reducible repeat (first | apply Kd.R_alloc | apply Kd.R_drewN | apply Kd.R_drew)); exact HO322.out) (Kd.R_base ho97) hb); have n4_ := Aside0.mk (Kd.R_elder' (by (with_reducible repeat (first | apply Kd.R_alloc | apply Kd.R_drewN | apply Kd.R_drew)); exact HO328.out) (Kd.R_base ho97) hb); have n5_ := Aside0.mk (Kd.R_below (by (with_reducible repeat (first | apply Kd.R_alloc | apply Kd.R_drewN | apply Kd.R_drew)); exact HO330.out) hb); have n6_ := Aside0.mk (Kd.R_lower (Kd.R_new' (Kd.R_new' (Kd.R_new' (Kd.R_new' ho97 (Kd.R_lt (by (with_reducible repeat (first | apply Kd.R_alloc | apply Kd.R_drewN | apply Kd.R_drew)); exact HO290.out))) (Kd.R_lt (by (with_reducible repeat (first | apply Kd.R_alloc | apply Kd.R_drewN | apply Kd.R_drew)); exact HO296.out))) (Kd.R_lt (by (with_reducible repeat (first | apply Kd.R_alloc | apply Kd.R_drewN | apply Kd.R_drew)); exact HO322.out))) (Kd.R_lt (by (with_reducible repeat (first | apply Kd.R_alloc | apply Kd.R_drewN | apply Kd.R_drew)); exact HO328.out))) (below_size (by repeat (first | (with_reducible first | exact HB.out | apply below_alloc | apply pw_below_drewN | apply below_drew1) | exact HB.out)))); have n7_ := Aside0.mk (below_step (by repeat (first | (with_reducible first | exact HB.out | apply below_alloc | apply pw_below_drewN | apply below_drew1) | exact HB.out)) hb); clear HO290; clear HO296; clear HO298; clear HO322; clear HO328; clear HO330; clear HB; have HO290 := n0_; have HO296 := n1_; have HO298 := n2_; have HO322 := n3_; have HO328 := n4_; have HO330 := n5_; have HO340 := n6_; have HB := n7_; clear n0_ n1_ n2_ n3_ n4_ n5_ n6_ n7_; clear hb ho97; obtain ⟨Ao98, co98, eo98⟩ := Kd.R_slice HO296.out; subst eo98; obtain ⟨Ao99, co99, eo99⟩ := Kd.R_slice HO340.out; subst eo99) | (go_at_call 10; (with_reducible refine (dancestudioref26_Same.calls kj49 _ _ t291 _ _ y338 true _ ?side1 ?side2 ?side3 ?side4 A91.out).mono ?_); (case side1 => repeat (first | exact (Kd.R_reads' HO296.out).2.2 | (with_reducible refine Kd.C_alloc ?_ _) | (with_reducible refine Kd.C_drewN ?_ _) | (with_reducible refine Kd.C_drew ?_))); (case side2 => exact (Kd.R_reads' HO296.out).2.1); (case side3 => repeat (first | exact (Kd.R_reads' HO340.out).2.2 | (with_reducible refine Kd.C_alloc ?_ _) | (with_reducible refine Kd.C_drewN ?_ _) | (with_reducible refine Kd.C_drew ?_))); (case side4 => exact (Kd.R_reads' HO340.out).2.1); rintro e w' ⟨rfl, ⟨nd, rfl⟩⟩) | (go_at_call 12; (with_reducible refine (dancestudiolaw26_twice.calls 0 4 3 t342 t343 t344 _ A93.out).mono ?_); rintro e w100 ⟨rfl, hb⟩; have n0_ := Aside0.mk (Kd.R_below (by (with_reducible repeat (first | apply Kd.R_alloc | apply Kd.R_drewN | apply Kd.R_drew)); exact HO290.out) hb); have n1_ := Aside0.mk (Kd.R_below (by (with_reducible repeat (first | apply Kd.R_alloc | apply Kd.R_drewN | apply Kd.R_drew)); exact HO296.out) hb); have n2_ := Aside0.mk (Kd.R_below (by (with_reducible repeat (first | apply Kd.R_alloc | apply Kd.R_drewN | apply Kd.R_drew)); exact HO298.out) hb); have n3_ := Aside0.mk (Kd.R_below (by (with_reducible repeat (first | apply Kd.R_alloc | apply Kd.R_drewN | apply Kd.R_drew)); exact HO322.out) hb); have n4_ := Aside0.mk (Kd.R_below (by (with_reducible repeat (first | apply Kd.R_alloc | apply Kd.R_drewN | apply Kd.R_drew)); exact HO328.out) hb); have n5_ := Aside0.mk (Kd.R_below (by (with_reducible repeat (first | apply Kd.R_alloc | apply Kd.R_drewN | apply Kd.R_drew)); exact HO330.out) hb); have n6_ := Aside0.mk (Kd.R_below (by (with_reducible repeat (first | apply Kd.R_alloc | apply Kd.R_drewN | apply Kd.R_drew)); exact HO340.out) hb); have n7_ := Aside0.mk (below_step (by repeat (first | (with_reducible first | exact HB.out | apply below_alloc | apply pw_below_drewN | apply below_drew1) | exact HB.out)) hb); clear HO290; clear HO296; clear HO298; clear HO322; clear HO328; clear HO330; clear HO340; clear HB; have HO290 := n0_; have HO296 := n1_; have HO298 := n2_; have HO322 := n3_; have HO328 := n4_; have HO330 := n5_; have HO340 := n6_; have HB := n7_; clear n0_ n1_ n2_ n3_ n4_ n5_ n6_ n7_; (try clear hb); (try clear hb2); (try clear hk); (try clear hi)) | ((with_reducible refine gate_dst (N := 127) rfl ?_); (try (refine gate_guard (by rfl) ?_; dsimp only)); refine Kd.R_lit k39 _ 39 ?hg (N := 127) ?hd (xs := ([(⟨(⟨t342, t343⟩ : S37), t344⟩ : S39)] : List (S39))) (inner := [.int .i64 t342, .int .i64 t343, .int .i64 t344]) (ok := fun _ => True) (okp := fun _ => True) ?hr ?hp (fun _ hk => hk) trivial (Below.refl _ _) (Nat.le_refl _) (by simp) ?_; (case hd => rfl); (case hg => rfl); (case hr => first | (go_simp; done) | (go_simp; rfl)); (case hp => exact (Reps.c3 (show Kd.M k39 _ _ _ (⟨(⟨t342, t343⟩ : S37), t344⟩ : S39) [.int .i64 t342, .int .i64 t343, .int .i64 t344] from (k39_mkM _ _ _ (⟨(⟨t342, t343⟩ : S37), t344⟩ : S39) )) (Reps.none _ _))); intro v346 w101 ho102 hb hg_ hnew_; clear hg_ hnew_; (first | rw [← Ny345.out] at ho102 | (simp only [Int.reduceToNat] at ho102; rw [← Ny345.out] at ho102)); have n0_ := Aside0.mk (Kd.R_below (by (with_reducible repeat (first | apply Kd.R_alloc | apply Kd.R_drewN | apply Kd.R_drew)); exact HO290.out) hb); have n1_ := Aside0.mk (Kd.R_below (by (with_reducible repeat (first | apply Kd.R_alloc | apply Kd.R_drewN | apply Kd.R_drew)); exact HO296.out) hb); have n2_ := Aside0.mk (Kd.R_elder' (by (with_reducible repeat (first | apply Kd.R_alloc | apply Kd.R_drewN | apply Kd.R_drew)); exact HO298.out) (Kd.R_base ho102) hb); have n3_ := Aside0.mk (Kd.R_below (by (with_reducible repeat (first | apply Kd.R_alloc | apply Kd.R_drewN | apply Kd.R_drew)); exact HO322.out) hb); have n4_ := Aside0.mk (Kd.R_below (by (with_reducible repeat (first | apply Kd.R_alloc | apply Kd.R_drewN | apply Kd.R_drew)); exact HO328.out) hb); have n5_ := Aside0.mk (Kd.R_elder' (by (with_reducible repeat (first | apply Kd.R_alloc | apply Kd.R_drewN | apply Kd.R_drew)); exact HO330.out) (Kd.R_base ho102) hb); have n6_ := Aside0.mk (Kd.R_below (by (with_reducible repeat (first | apply Kd.R_alloc | apply Kd.R_drewN | apply Kd.R_drew)); exact HO340.out) hb); have n7_ := Aside0.mk (Kd.R_lower (Kd.R_new' (Kd.R_new' ho102 (Kd.R_lt (by (with_reducible repeat (first | apply Kd.R_alloc | apply Kd.R_drewN | apply Kd.R_drew)); exact HO298.out))) (Kd.R_lt (by (with_reducible repeat (first | apply Kd.R_alloc | apply Kd.R_drewN | apply Kd.R_drew)); exact HO330.out))) (below_size (by repeat (first | (with_reducible first | exact HB.out | apply below_alloc | apply pw_below_drewN | apply below_drew1) | exact HB.out)))); have n8_ := Aside0.mk (below_step (by repeat (first | (with_reducible first | exact HB.out | apply below_alloc | apply pw_below_drewN | apply below_drew1) | exact HB.out)) hb); clear HO290; clear HO296; clear HO298; clear HO322; clear HO328; clear HO330; clear HO340; clear HB; have HO290 := n0_; have HO296 := n1_; have HO298 := n2_; have HO322 := n3_; have HO328 := n4_; have HO330 := n5_; have HO340 := n6_; have HO347 := n7_; have HB := n8_; clear n0_ n1_ n2_ n3_ n4_ n5_ n6_ n7_ n8_; clear hb ho102; obtain ⟨Ao103, co103, eo103⟩ := Kd.R_slice HO298.out; subst eo103; obtain ⟨Ao104, co104, eo104⟩ := Kd.R_slice HO347.out; subst eo104) | (go_at_call 16; (with_reducible refine (dancestudioref26_SameRepeats.calls kj49 _ _ t293 _ _ y345 t348 _ ?side1 ?side2 ?side3 ?side4 A94.out).mono ?_); (case side1 => repeat (first | exact (Kd.R_reads' HO298.out).2.2 | (with_reducible refine Kd.C_alloc ?_ _) | (with_reducible refine Kd.C_drewN ?_ _) | (with_reducible refine Kd.C_drew ?_))); (case side2 => exact (Kd.R_reads' HO298.out).2.1); (case side3 => repeat (first | exact (Kd.R_reads' HO347.out).2.2 | (with_reducible refine Kd.C_alloc ?_ _) | (with_reducible refine Kd.C_drewN ?_ _) | (with_reducible refine Kd.C_drew ?_))); (case side4 => exact (Kd.R_reads' HO347.out).2.1); rintro e w' ⟨rfl, ⟨nd, rfl⟩⟩))
                      go_meet
                      case rel => exact ⟨_, (!t348), (by first | rfl | (simp; done) | (simp [*]; done)), H', ⟨by have := HJ5.out; have := HJ49.out; first | omega | exact Nat.le_refl _⟩, ⟨by (with_reducible repeat (first | apply Kd.R_alloc | apply Kd.R_drewN | apply Kd.R_drew)); exact Kd.R_mono HO328.out (fun _ hk => trivial)⟩, ⟨by (with_reducible repeat (first | apply Kd.R_alloc | apply Kd.R_drewN | apply Kd.R_drew)); exact Kd.R_mono HO330.out (fun _ hk => trivial)⟩, ⟨by repeat (first | (with_reducible first | exact HB.out | apply below_alloc | apply pw_below_drewN | apply below_drew1) | exact HB.out)⟩⟩
                    · replace c92 := Bool.eq_false_iff.mpr c92
                      subst c92
                      have H1 : (dancestudiolaw26_awake.j2 kj49 t326 t323 t324 t325 true) = some r := by rw [if_neg (show ¬ (false = true) by decide)] at H; exact H
                      clear H
                      have H := H1
                      clear H1
                      have H' := Aside0.mk H
                      clear H
                      go_wp2_with (first | (go_at_call 13; (with_reducible refine (dancestudiolaw26_hold.calls 0 4 t331 t332 t333 t334 t335 t336 t337 _ A90.out).mono ?_); rintro e w105 ⟨rfl, hb⟩; have n0_ := Aside0.mk (Kd.R_below (by (with_reducible repeat (first | apply Kd.R_alloc | apply Kd.R_drewN | apply Kd.R_drew)); exact HO290.out) hb); have n1_ := Aside0.mk (Kd.R_below (by (with_reducible repeat (first | apply Kd.R_alloc | apply Kd.R_drewN | apply Kd.R_drew)); exact HO296.out) hb); have n2_ := Aside0.mk (Kd.R_below (by (with_reducible repeat (first | apply Kd.R_alloc | apply Kd.R_drewN | apply Kd.R_drew)); exact HO298.out) hb); have n3_ := Aside0.mk (Kd.R_below (by (with_reducible repeat (first | apply Kd.R_alloc | apply Kd.R_drewN | apply Kd.R_drew)); exact HO322.out) hb); have n4_ := Aside0.mk (Kd.R_below (by (with_reducible repeat (first | apply Kd.R_alloc | apply Kd.R_drewN | apply Kd.R_drew)); exact HO328.out) hb); have n5_ := Aside0.mk (Kd.R_below (by (with_reducible repeat (first | apply Kd.R_alloc | apply Kd.R_drewN | apply Kd.R_drew)); exact HO330.out) hb); have n6_ := Aside0.mk (below_step (by repeat (first | (with_reducible first | exact HB.out | apply below_alloc | apply pw_below_drewN | apply below_drew1) | exact HB.out)) hb); clear HO290; clear HO296; clear HO298; clear HO322; clear HO328; clear HO330; clear HB; have HO290 := n0_; have HO296 := n1_; have HO298 := n2_; have HO322 := n3_; have HO328 := n4_; have HO330 := n5_; have HB := n6_; clear n0_ n1_ n2_ n3_ n4_ n5_ n6_; (try clear hb); (try clear hb2); (try clear hk); (try clear hi)) | ((with_reducible refine gate_dst (N := 120) rfl ?_); (try (refine gate_guard (by rfl) ?_; dsimp only)); refine Kd.R_lit k43 _ 43 ?hg (N := 120) ?hd (xs := ([(⟨t331, t332, t333, t334, t335, t336, t337⟩ : S43)] : List (S43))) (inner := [.int .i64 t331, .int .i64 t332, .int .i64 t333, .int .i64 t334, .int .i64 t335, .int .i64 t336, .int .i64 t337]) (ok := fun _ => True) (okp := fun _ => True) ?hr ?hp (fun _ hk => hk) trivial (Below.refl _ _) (Nat.le_refl _) (by simp) ?_; (case hd => rfl); (case hg => rfl); (case hr => first | (go_simp; done) | (go_simp; rfl)); (case hp => exact (Reps.c7 (show Kd.M k43 _ _ _ (⟨t331, t332, t333, t334, t335, t336, t337⟩ : S43) [.int .i64 t331, .int .i64 t332, .int .i64 t333, .int .i64 t334, .int .i64 t335, .int .i64 t336, .int .i64 t337] from (k43_mkM _ _ _ (⟨t331, t332, t333, t334, t335, t336, t337⟩ : S43) )) (Reps.none _ _))); intro v339 w106 ho107 hb hg_ hnew_; clear hg_ hnew_; (first | rw [← Ny338.out] at ho107 | (simp only [Int.reduceToNat] at ho107; rw [← Ny338.out] at ho107)); have n0_ := Aside0.mk (Kd.R_elder' (by (with_reducible repeat (first | apply Kd.R_alloc | apply Kd.R_drewN | apply Kd.R_drew)); exact HO290.out) (Kd.R_base ho107) hb); have n1_ := Aside0.mk (Kd.R_elder' (by (with_reducible repeat (first | apply Kd.R_alloc | apply Kd.R_drewN | apply Kd.R_drew)); exact HO296.out) (Kd.R_base ho107) hb); have n2_ := Aside0.mk (Kd.R_below (by (with_reducible repeat (first | apply Kd.R_alloc | apply Kd.R_drewN | apply Kd.R_drew)); exact HO298.out) hb); have n3_ := Aside0.mk (Kd.R_elder' (by (with_reducible repeat (first | apply Kd.R_alloc | apply Kd.R_drewN | apply Kd.R_drew)); exact HO322.out) (Kd.R_base ho107) hb); have n4_ := Aside0.mk (Kd.R_elder' (by (with_reducible repeat (first | apply Kd.R_alloc | apply Kd.R_drewN | apply Kd.R_drew)); exact HO328.out) (Kd.R_base ho107) hb); have n5_ := Aside0.mk (Kd.R_below (by (with_reducible repeat (first | apply Kd.R_alloc | apply Kd.R_drewN | apply Kd.R_drew)); exact HO330.out) hb); have n6_ := Aside0.mk (Kd.R_lower (Kd.R_new' (Kd.R_new' (Kd.R_new' (Kd.R_new' ho107 (Kd.R_lt (by (with_reducible repeat (first | apply Kd.R_alloc | apply Kd.R_drewN | apply Kd.R_drew)); exact HO290.out))) (Kd.R_lt (by (with_reducible repeat (first | apply Kd.R_alloc | apply Kd.R_drewN | apply Kd.R_drew)); exact HO296.out))) (Kd.R_lt (by (with_reducible repeat (first | apply Kd.R_alloc | apply Kd.R_drewN | apply Kd.R_drew)); exact HO322.out))) (Kd.R_lt (by (with_reducible repeat (first | apply Kd.R_alloc | apply Kd.R_drewN | apply Kd.R_drew)); exact HO328.out))) (below_size (by repeat (first | (with_reducible first | exact HB.out | apply below_alloc | apply pw_below_drewN | apply below_drew1) | exact HB.out)))); have n7_ := Aside0.mk (below_step (by repeat (first | (with_reducible first | exact HB.out | apply below_alloc | apply pw_below_drewN | apply below_drew1) | exact HB.out)) hb); clear HO290; clear HO296; clear HO298; clear HO322; clear HO328; clear HO330; clear HB; have HO290 := n0_; have HO296 := n1_; have HO298 := n2_; have HO322 := n3_; have HO328 := n4_; have HO330 := n5_; have HO340 := n6_; have HB := n7_; clear n0_ n1_ n2_ n3_ n4_ n5_ n6_ n7_; clear hb ho107; obtain ⟨Ao108, co108, eo108⟩ := Kd.R_slice HO296.out; subst eo108; obtain ⟨Ao109, co109, eo109⟩ := Kd.R_slice HO340.out; subst eo109) | (go_at_call 10; (with_reducible refine (dancestudioref26_Same.calls kj49 _ _ t291 _ _ y338 false _ ?side1 ?side2 ?side3 ?side4 A91.out).mono ?_); (case side1 => repeat (first | exact (Kd.R_reads' HO296.out).2.2 | (with_reducible refine Kd.C_alloc ?_ _) | (with_reducible refine Kd.C_drewN ?_ _) | (with_reducible refine Kd.C_drew ?_))); (case side2 => exact (Kd.R_reads' HO296.out).2.1); (case side3 => repeat (first | exact (Kd.R_reads' HO340.out).2.2 | (with_reducible refine Kd.C_alloc ?_ _) | (with_reducible refine Kd.C_drewN ?_ _) | (with_reducible refine Kd.C_drew ?_))); (case side4 => exact (Kd.R_reads' HO340.out).2.1); rintro e w' ⟨rfl, ⟨nd, rfl⟩⟩))
                      go_meet
                      case rel => exact ⟨_, (true), (by first | rfl | (simp; done) | (simp [*]; done)), H', ⟨by have := HJ5.out; have := HJ49.out; first | omega | exact Nat.le_refl _⟩, ⟨by (with_reducible repeat (first | apply Kd.R_alloc | apply Kd.R_drewN | apply Kd.R_drew)); exact Kd.R_mono HO328.out (fun _ hk => trivial)⟩, ⟨by (with_reducible repeat (first | apply Kd.R_alloc | apply Kd.R_drewN | apply Kd.R_drew)); exact Kd.R_mono HO330.out (fun _ hk => trivial)⟩, ⟨by repeat (first | (with_reducible first | exact HB.out | apply below_alloc | apply pw_below_drewN | apply below_drew1) | exact HB.out)⟩⟩
                  · rw [if_neg c89] at H
                    have c89b0 : (t292 == 4) = false := beq_eq_false_iff_ne.mpr c89
                    have c89b1 : (t292 != 4) = true := bne_iff_ne.mpr c89
                    have H' := Aside0.mk H
                    clear H
                    go_wp2
                    go_meet
                    case rel => exact ⟨_, (true), (by first | rfl | (simp; done) | (simp [*]; done)), H', ⟨by have := HJ5.out; have := HJ49.out; first | omega | exact Nat.le_refl _⟩, ⟨by (with_reducible repeat (first | apply Kd.R_alloc | apply Kd.R_drewN | apply Kd.R_drew)); exact Kd.R_mono HO328.out (fun _ hk => trivial)⟩, ⟨by (with_reducible repeat (first | apply Kd.R_alloc | apply Kd.R_drewN | apply Kd.R_drew)); exact Kd.R_mono HO330.out (fun _ hk => trivial)⟩, ⟨by repeat (first | (with_reducible first | exact HB.out | apply below_alloc | apply pw_below_drewN | apply below_drew1) | exact HB.out)⟩⟩
                · rw [if_neg c88] at H
                  have c88b0 : (t294 == 0) = false := beq_eq_false_iff_ne.mpr c88
                  have c88b1 : (t294 != 0) = true := bne_iff_ne.mpr c88
                  (first | rw [c88b0] | (simp only [i64_w, i32_w]; rw [c88b0]) | skip)
                  have H' := Aside0.mk H
                  clear H
                  go_wp2
                  go_meet
                  case rel => exact ⟨_, (true), (by first | rfl | (simp; done) | (simp [*]; done)), H', ⟨by have := HJ5.out; have := HJ49.out; first | omega | exact Nat.le_refl _⟩, ⟨by (with_reducible repeat (first | apply Kd.R_alloc | apply Kd.R_drewN | apply Kd.R_drew)); exact Kd.R_mono HO328.out (fun _ hk => trivial)⟩, ⟨by (with_reducible repeat (first | apply Kd.R_alloc | apply Kd.R_drewN | apply Kd.R_drew)); exact Kd.R_mono HO330.out (fun _ hk => trivial)⟩, ⟨by repeat (first | (with_reducible first | exact HB.out | apply below_alloc | apply pw_below_drewN | apply below_drew1) | exact HB.out)⟩⟩
              case rest =>
                clear HC73
                try clear c1
                try clear c2
                try clear p2
                try clear c3
                try clear c4
                try clear c5
                try clear c6
                try clear c7
                try clear c8
                try clear c9
                try clear c12
                try clear c13
                try clear c15
                try clear c18
                try clear c18b0
                try clear c18b1
                try clear c19
                try clear c19b0
                try clear c19b1
                try clear c20
                try clear c20b0
                try clear c20b1
                try clear c25
                try clear c47
                try clear c53
                try clear c53b0
                try clear c53b1
                try clear c54
                try clear c54b0
                try clear c54b1
                try clear c55
                try clear c55b0
                try clear c55b1
                try clear c56
                try clear c56b0
                try clear c56b1
                try clear c64
                try clear c88
                try clear c88b0
                try clear c88b1
                try clear c89
                try clear c89b0
                try clear c89b1
                try clear c92
                try clear p2
                obtain ⟨kq, x130_72, rfl, HA, HJ72, HO_12, HO_14, HB⟩ := hcut
                cases kq with
                | zero => exact absurd HA.out (by simp [dancestudiolaw26_awake.j2])
                | succ kj72 =>
                  have H := HA.out
                  clear HA
                  simp only [dancestudiolaw26_awake.j2] at H
                  by_cases c110 : x130_72 = true
                  · subst c110
                    have H1 : (some false) = some r := by rw [if_pos rfl] at H; exact H
                    clear H
                    have H := H1
                    clear H1
                    obtain rfl := Option.some.inj H
                    go_wp2
                    go_ret
                    exact ⟨by first | rfl | (simp [errW_none, errW_some] <;> rfl) | (simp [*, errW_none, errW_some] <;> rfl), by repeat (first | (with_reducible first | exact HB.out | apply below_alloc | apply pw_below_drewN | apply below_drew1) | exact HB.out)⟩
                  · replace c110 := Bool.eq_false_iff.mpr c110
                    subst c110
                    have H1 : (if t326 = 0 then (if t324 = 7 then ((dancestudiolaw26_hold.f 0 4).bind fun bt349 => ((dancestudiolaw26_hold.f 4 7).bind fun bt356 => ((dancestudioref26_Same.f kj72 t323 (([(⟨bt349.1, bt349.2.1, bt349.2.2.1, bt349.2.2.2.1, bt349.2.2.2.2.1, bt349.2.2.2.2.2.1, bt349.2.2.2.2.2.2⟩ : S43), (⟨bt356.1, bt356.2.1, bt356.2.2.1, bt356.2.2.2.1, bt356.2.2.2.2.1, bt356.2.2.2.2.2.1, bt356.2.2.2.2.2.2⟩ : S43)] : List (S43)))).bind fun t366 => (if t366 = true then ((dancestudiolaw26_twice.f 0 4 2).bind fun bt367 => ((dancestudioref26_SameRepeats.f kj72 t325 (([(⟨(⟨bt367.1, bt367.2.1⟩ : S37), bt367.2.2⟩ : S39)] : List (S39)))).bind fun t373 => (some t373))) else (some false))))) else (some false)) else (some false)) = some r := by rw [if_neg (show ¬ (false = true) by decide)] at H; exact H
                    clear H
                    have H := H1
                    clear H1
                    by_cases c111 : t326 = 0
                    · rw [if_pos c111] at H
                      have c111b0 : (t326 == 0) = true := beq_iff_eq.mpr c111
                      have c111b1 : (t326 != 0) = false := bne_eq_false_iff_eq.mpr c111
                      clear c111
                      by_cases c112 : t324 = 7
                      · rw [if_pos c112] at H
                        have c112b0 : (t324 == 7) = true := beq_iff_eq.mpr c112
                        have c112b1 : (t324 != 7) = false := bne_eq_false_iff_eq.mpr c112
                        clear c112
                        replace H := Option.bind_eq_some_iff.mp H
                        obtain ⟨⟨t349, t350, t351, t352, t353, t354, t355⟩, A1130, H⟩ := H
                        replace H : ((dancestudiolaw26_hold.f 4 7).bind fun bt356 => ((dancestudioref26_Same.f kj72 t323 (([(⟨t349, t350, t351, t352, t353, t354, t355⟩ : S43), (⟨bt356.1, bt356.2.1, bt356.2.2.1, bt356.2.2.2.1, bt356.2.2.2.2.1, bt356.2.2.2.2.2.1, bt356.2.2.2.2.2.2⟩ : S43)] : List (S43)))).bind fun t366 => (if t366 = true then ((dancestudiolaw26_twice.f 0 4 2).bind fun bt367 => ((dancestudioref26_SameRepeats.f kj72 t325 (([(⟨(⟨bt367.1, bt367.2.1⟩ : S37), bt367.2.2⟩ : S39)] : List (S39)))).bind fun t373 => (some t373))) else (some false)))) = some r := H
                        have A113 := Aside0.mk A1130
                        clear A1130
                        replace H := Option.bind_eq_some_iff.mp H
                        obtain ⟨⟨t356, t357, t358, t359, t360, t361, t362⟩, A1140, H⟩ := H
                        replace H : ((dancestudioref26_Same.f kj72 t323 (([(⟨t349, t350, t351, t352, t353, t354, t355⟩ : S43), (⟨t356, t357, t358, t359, t360, t361, t362⟩ : S43)] : List (S43)))).bind fun t366 => (if t366 = true then ((dancestudiolaw26_twice.f 0 4 2).bind fun bt367 => ((dancestudioref26_SameRepeats.f kj72 t325 (([(⟨(⟨bt367.1, bt367.2.1⟩ : S37), bt367.2.2⟩ : S39)] : List (S39)))).bind fun t373 => (some t373))) else (some false))) = some r := H
                        have A114 := Aside0.mk A1140
                        clear A1140
                        obtain ⟨y363, hy363⟩ : ∃ y_ : List (S43), y_ = (([(⟨t349, t350, t351, t352, t353, t354, t355⟩ : S43), (⟨t356, t357, t358, t359, t360, t361, t362⟩ : S43)] : List (S43))) := ⟨_, rfl⟩
                        replace H : ((dancestudioref26_Same.f kj72 t323 y363).bind fun t366 => (if t366 = true then ((dancestudiolaw26_twice.f 0 4 2).bind fun bt367 => ((dancestudioref26_SameRepeats.f kj72 t325 (([(⟨(⟨bt367.1, bt367.2.1⟩ : S37), bt367.2.2⟩ : S39)] : List (S39)))).bind fun t373 => (some t373))) else (some false))) = some r := by first | (rw [hy363]; with_reducible exact H) | (have H2_ := (Option.bind_some _ _).symm.trans H; rw [hy363]; with_reducible exact H2_) | (have H2_ := (Option.bind_some _ _).symm.trans H; with_reducible exact H2_) | with_reducible exact H | (rw [hy363]; exact H) | exact H
                        have Ny363 := Aside0.mk hy363
                        clear hy363
                        replace H := Option.bind_eq_some_iff.mp H
                        obtain ⟨t366, A1150, H⟩ := H
                        replace H : (if t366 = true then ((dancestudiolaw26_twice.f 0 4 2).bind fun bt367 => ((dancestudioref26_SameRepeats.f kj72 t325 (([(⟨(⟨bt367.1, bt367.2.1⟩ : S37), bt367.2.2⟩ : S39)] : List (S39)))).bind fun t373 => (some t373))) else (some false)) = some r := H
                        have A115 := Aside0.mk A1150
                        clear A1150
                        by_cases c116 : t366 = true
                        · subst c116
                          have H1 : ((dancestudiolaw26_twice.f 0 4 2).bind fun bt367 => ((dancestudioref26_SameRepeats.f kj72 t325 (([(⟨(⟨bt367.1, bt367.2.1⟩ : S37), bt367.2.2⟩ : S39)] : List (S39)))).bind fun t373 => (some t373))) = some r := by rw [if_pos rfl] at H; exact H
                          clear H
                          have H := H1
                          clear H1
                          replace H := Option.bind_eq_some_iff.mp H
                          obtain ⟨⟨t367, t368, t369⟩, A1170, H⟩ := H
                          replace H : ((dancestudioref26_SameRepeats.f kj72 t325 (([(⟨(⟨t367, t368⟩ : S37), t369⟩ : S39)] : List (S39)))).bind fun t373 => (some t373)) = some r := H
                          have A117 := Aside0.mk A1170
                          clear A1170
                          obtain ⟨y370, hy370⟩ : ∃ y_ : List (S39), y_ = (([(⟨(⟨t367, t368⟩ : S37), t369⟩ : S39)] : List (S39))) := ⟨_, rfl⟩
                          replace H : ((dancestudioref26_SameRepeats.f kj72 t325 y370).bind fun t373 => (some t373)) = some r := by first | (rw [hy370]; with_reducible exact H) | (have H2_ := (Option.bind_some _ _).symm.trans H; rw [hy370]; with_reducible exact H2_) | (have H2_ := (Option.bind_some _ _).symm.trans H; with_reducible exact H2_) | with_reducible exact H | (rw [hy370]; exact H) | exact H
                          have Ny370 := Aside0.mk hy370
                          clear hy370
                          replace H := Option.bind_eq_some_iff.mp H
                          obtain ⟨t373, A1180, H⟩ := H
                          replace H : (some t373) = some r := H
                          have A118 := Aside0.mk A1180
                          clear A1180
                          obtain rfl := Option.some.inj H
                          go_wp2_with (first | (go_at_call 13; (with_reducible refine (dancestudiolaw26_hold.calls 0 4 t349 t350 t351 t352 t353 t354 t355 _ A113.out).mono ?_); rintro e w119 ⟨rfl, hb⟩; have n0_ := Aside0.mk (Kd.R_below (by (with_reducible repeat (first | apply Kd.R_alloc | apply Kd.R_drewN | apply Kd.R_drew)); exact HO_12.out) hb); have n1_ := Aside0.mk (Kd.R_below (by (with_reducible repeat (first | apply Kd.R_alloc | apply Kd.R_drewN | apply Kd.R_drew)); exact HO_14.out) hb); have n2_ := Aside0.mk (below_step (by repeat (first | (with_reducible first | exact HB.out | apply below_alloc | apply pw_below_drewN | apply below_drew1) | exact HB.out)) hb); clear HO_12; clear HO_14; clear HB; have HO_12 := n0_; have HO_14 := n1_; have HB := n2_; clear n0_ n1_ n2_; (try clear hb); (try clear hb2); (try clear hk); (try clear hi)) | (go_at_call 13; (with_reducible refine (dancestudiolaw26_hold.calls 4 7 t356 t357 t358 t359 t360 t361 t362 _ A114.out).mono ?_); rintro e w120 ⟨rfl, hb⟩; have n0_ := Aside0.mk (Kd.R_below (by (with_reducible repeat (first | apply Kd.R_alloc | apply Kd.R_drewN | apply Kd.R_drew)); exact HO_12.out) hb); have n1_ := Aside0.mk (Kd.R_below (by (with_reducible repeat (first | apply Kd.R_alloc | apply Kd.R_drewN | apply Kd.R_drew)); exact HO_14.out) hb); have n2_ := Aside0.mk (below_step (by repeat (first | (with_reducible first | exact HB.out | apply below_alloc | apply pw_below_drewN | apply below_drew1) | exact HB.out)) hb); clear HO_12; clear HO_14; clear HB; have HO_12 := n0_; have HO_14 := n1_; have HB := n2_; clear n0_ n1_ n2_; (try clear hb); (try clear hb2); (try clear hk); (try clear hi)) | ((with_reducible refine gate_dst (N := 141) rfl ?_); (try (refine gate_guard (by rfl) ?_; dsimp only)); refine Kd.R_lit k43 _ 43 ?hg (N := 141) ?hd (xs := ([(⟨t349, t350, t351, t352, t353, t354, t355⟩ : S43), (⟨t356, t357, t358, t359, t360, t361, t362⟩ : S43)] : List (S43))) (inner := [.int .i64 t349, .int .i64 t350, .int .i64 t351, .int .i64 t352, .int .i64 t353, .int .i64 t354, .int .i64 t355, .int .i64 t356, .int .i64 t357, .int .i64 t358, .int .i64 t359, .int .i64 t360, .int .i64 t361, .int .i64 t362]) (ok := fun _ => True) (okp := fun _ => True) ?hr ?hp (fun _ hk => hk) trivial (Below.refl _ _) (Nat.le_refl _) (by simp) ?_; (case hd => rfl); (case hg => rfl); (case hr => first | (go_simp; done) | (go_simp; rfl)); (case hp => exact (Reps.c7 (show Kd.M k43 _ _ _ (⟨t349, t350, t351, t352, t353, t354, t355⟩ : S43) [.int .i64 t349, .int .i64 t350, .int .i64 t351, .int .i64 t352, .int .i64 t353, .int .i64 t354, .int .i64 t355] from (k43_mkM _ _ _ (⟨t349, t350, t351, t352, t353, t354, t355⟩ : S43) )) (Reps.c7 (show Kd.M k43 _ _ _ (⟨t356, t357, t358, t359, t360, t361, t362⟩ : S43) [.int .i64 t356, .int .i64 t357, .int .i64 t358, .int .i64 t359, .int .i64 t360, .int .i64 t361, .int .i64 t362] from (k43_mkM _ _ _ (⟨t356, t357, t358, t359, t360, t361, t362⟩ : S43) )) (Reps.none _ _)))); intro v364 w121 ho122 hb hg_ hnew_; clear hg_ hnew_; (first | rw [← Ny363.out] at ho122 | (simp only [Int.reduceToNat] at ho122; rw [← Ny363.out] at ho122)); have n0_ := Aside0.mk (Kd.R_elder' (by (with_reducible repeat (first | apply Kd.R_alloc | apply Kd.R_drewN | apply Kd.R_drew)); exact HO_12.out) (Kd.R_base ho122) hb); have n1_ := Aside0.mk (Kd.R_below (by (with_reducible repeat (first | apply Kd.R_alloc | apply Kd.R_drewN | apply Kd.R_drew)); exact HO_14.out) hb); have n2_ := Aside0.mk (Kd.R_lower (Kd.R_new' ho122 (Kd.R_lt (by (with_reducible repeat (first | apply Kd.R_alloc | apply Kd.R_drewN | apply Kd.R_drew)); exact HO_12.out))) (below_size (by repeat (first | (with_reducible first | exact HB.out | apply below_alloc | apply pw_below_drewN | apply below_drew1) | exact HB.out)))); have n3_ := Aside0.mk (below_step (by repeat (first | (with_reducible first | exact HB.out | apply below_alloc | apply pw_below_drewN | apply below_drew1) | exact HB.out)) hb); clear HO_12; clear HO_14; clear HB; have HO_12 := n0_; have HO_14 := n1_; have HO365 := n2_; have HB := n3_; clear n0_ n1_ n2_ n3_; clear hb ho122; obtain ⟨Ao123, co123, eo123⟩ := Kd.R_slice HO_12.out; subst eo123; obtain ⟨Ao124, co124, eo124⟩ := Kd.R_slice HO365.out; subst eo124) | (go_at_call 10; (with_reducible refine (dancestudioref26_Same.calls kj72 _ _ t323 _ _ y363 true _ ?side1 ?side2 ?side3 ?side4 A115.out).mono ?_); (case side1 => repeat (first | exact (Kd.R_reads' HO_12.out).2.2 | (with_reducible refine Kd.C_alloc ?_ _) | (with_reducible refine Kd.C_drewN ?_ _) | (with_reducible refine Kd.C_drew ?_))); (case side2 => exact (Kd.R_reads' HO_12.out).2.1); (case side3 => repeat (first | exact (Kd.R_reads' HO365.out).2.2 | (with_reducible refine Kd.C_alloc ?_ _) | (with_reducible refine Kd.C_drewN ?_ _) | (with_reducible refine Kd.C_drew ?_))); (case side4 => exact (Kd.R_reads' HO365.out).2.1); rintro e w' ⟨rfl, ⟨nd, rfl⟩⟩) | (go_at_call 12; (with_reducible refine (dancestudiolaw26_twice.calls 0 4 2 t367 t368 t369 _ A117.out).mono ?_); rintro e w125 ⟨rfl, hb⟩; have n0_ := Aside0.mk (Kd.R_below (by (with_reducible repeat (first | apply Kd.R_alloc | apply Kd.R_drewN | apply Kd.R_drew)); exact HO_12.out) hb); have n1_ := Aside0.mk (Kd.R_below (by (with_reducible repeat (first | apply Kd.R_alloc | apply Kd.R_drewN | apply Kd.R_drew)); exact HO_14.out) hb); have n2_ := Aside0.mk (Kd.R_below (by (with_reducible repeat (first | apply Kd.R_alloc | apply Kd.R_drewN | apply Kd.R_drew)); exact HO365.out) hb); have n3_ := Aside0.mk (below_step (by repeat (first | (with_reducible first | exact HB.out | apply below_alloc | apply pw_below_drewN | apply below_drew1) | exact HB.out)) hb); clear HO_12; clear HO_14; clear HO365; clear HB; have HO_12 := n0_; have HO_14 := n1_; have HO365 := n2_; have HB := n3_; clear n0_ n1_ n2_ n3_; (try clear hb); (try clear hb2); (try clear hk); (try clear hi)) | ((with_reducible refine gate_dst (N := 147) rfl ?_); (try (refine gate_guard (by rfl) ?_; dsimp only)); refine Kd.R_lit k39 _ 39 ?hg (N := 147) ?hd (xs := ([(⟨(⟨t367, t368⟩ : S37), t369⟩ : S39)] : List (S39))) (inner := [.int .i64 t367, .int .i64 t368, .int .i64 t369]) (ok := fun _ => True) (okp := fun _ => True) ?hr ?hp (fun _ hk => hk) trivial (Below.refl _ _) (Nat.le_refl _) (by simp) ?_; (case hd => rfl); (case hg => rfl); (case hr => first | (go_simp; done) | (go_simp; rfl)); (case hp => exact (Reps.c3 (show Kd.M k39 _ _ _ (⟨(⟨t367, t368⟩ : S37), t369⟩ : S39) [.int .i64 t367, .int .i64 t368, .int .i64 t369] from (k39_mkM _ _ _ (⟨(⟨t367, t368⟩ : S37), t369⟩ : S39) )) (Reps.none _ _))); intro v371 w126 ho127 hb hg_ hnew_; clear hg_ hnew_; (first | rw [← Ny370.out] at ho127 | (simp only [Int.reduceToNat] at ho127; rw [← Ny370.out] at ho127)); have n0_ := Aside0.mk (Kd.R_below (by (with_reducible repeat (first | apply Kd.R_alloc | apply Kd.R_drewN | apply Kd.R_drew)); exact HO_12.out) hb); have n1_ := Aside0.mk (Kd.R_elder' (by (with_reducible repeat (first | apply Kd.R_alloc | apply Kd.R_drewN | apply Kd.R_drew)); exact HO_14.out) (Kd.R_base ho127) hb); have n2_ := Aside0.mk (Kd.R_below (by (with_reducible repeat (first | apply Kd.R_alloc | apply Kd.R_drewN | apply Kd.R_drew)); exact HO365.out) hb); have n3_ := Aside0.mk (Kd.R_lower (Kd.R_new' ho127 (Kd.R_lt (by (with_reducible repeat (first | apply Kd.R_alloc | apply Kd.R_drewN | apply Kd.R_drew)); exact HO_14.out))) (below_size (by repeat (first | (with_reducible first | exact HB.out | apply below_alloc | apply pw_below_drewN | apply below_drew1) | exact HB.out)))); have n4_ := Aside0.mk (below_step (by repeat (first | (with_reducible first | exact HB.out | apply below_alloc | apply pw_below_drewN | apply below_drew1) | exact HB.out)) hb); clear HO_12; clear HO_14; clear HO365; clear HB; have HO_12 := n0_; have HO_14 := n1_; have HO365 := n2_; have HO372 := n3_; have HB := n4_; clear n0_ n1_ n2_ n3_ n4_; clear hb ho127; obtain ⟨Ao128, co128, eo128⟩ := Kd.R_slice HO_14.out; subst eo128; obtain ⟨Ao129, co129, eo129⟩ := Kd.R_slice HO372.out; subst eo129) | (go_at_call 16; (with_reducible refine (dancestudioref26_SameRepeats.calls kj72 _ _ t325 _ _ y370 t373 _ ?side1 ?side2 ?side3 ?side4 A118.out).mono ?_); (case side1 => repeat (first | exact (Kd.R_reads' HO_14.out).2.2 | (with_reducible refine Kd.C_alloc ?_ _) | (with_reducible refine Kd.C_drewN ?_ _) | (with_reducible refine Kd.C_drew ?_))); (case side2 => exact (Kd.R_reads' HO_14.out).2.1); (case side3 => repeat (first | exact (Kd.R_reads' HO372.out).2.2 | (with_reducible refine Kd.C_alloc ?_ _) | (with_reducible refine Kd.C_drewN ?_ _) | (with_reducible refine Kd.C_drew ?_))); (case side4 => exact (Kd.R_reads' HO372.out).2.1); rintro e w' ⟨rfl, ⟨nd, rfl⟩⟩))
                          go_ret
                          exact ⟨by first | rfl | (simp [errW_none, errW_some] <;> rfl) | (simp [*, errW_none, errW_some] <;> rfl), by repeat (first | (with_reducible first | exact HB.out | apply below_alloc | apply pw_below_drewN | apply below_drew1) | exact HB.out)⟩
                        · replace c116 := Bool.eq_false_iff.mpr c116
                          subst c116
                          have H1 : (some false) = some r := by rw [if_neg (show ¬ (false = true) by decide)] at H; exact H
                          clear H
                          have H := H1
                          clear H1
                          obtain rfl := Option.some.inj H
                          go_wp2_with (first | (go_at_call 13; (with_reducible refine (dancestudiolaw26_hold.calls 0 4 t349 t350 t351 t352 t353 t354 t355 _ A113.out).mono ?_); rintro e w130 ⟨rfl, hb⟩; have n0_ := Aside0.mk (Kd.R_below (by (with_reducible repeat (first | apply Kd.R_alloc | apply Kd.R_drewN | apply Kd.R_drew)); exact HO_12.out) hb); have n1_ := Aside0.mk (Kd.R_below (by (with_reducible repeat (first | apply Kd.R_alloc | apply Kd.R_drewN | apply Kd.R_drew)); exact HO_14.out) hb); have n2_ := Aside0.mk (below_step (by repeat (first | (with_reducible first | exact HB.out | apply below_alloc | apply pw_below_drewN | apply below_drew1) | exact HB.out)) hb); clear HO_12; clear HO_14; clear HB; have HO_12 := n0_; have HO_14 := n1_; have HB := n2_; clear n0_ n1_ n2_; (try clear hb); (try clear hb2); (try clear hk); (try clear hi)) | (go_at_call 13; (with_reducible refine (dancestudiolaw26_hold.calls 4 7 t356 t357 t358 t359 t360 t361 t362 _ A114.out).mono ?_); rintro e w131 ⟨rfl, hb⟩; have n0_ := Aside0.mk (Kd.R_below (by (with_reducible repeat (first | apply Kd.R_alloc | apply Kd.R_drewN | apply Kd.R_drew)); exact HO_12.out) hb); have n1_ := Aside0.mk (Kd.R_below (by (with_reducible repeat (first | apply Kd.R_alloc | apply Kd.R_drewN | apply Kd.R_drew)); exact HO_14.out) hb); have n2_ := Aside0.mk (below_step (by repeat (first | (with_reducible first | exact HB.out | apply below_alloc | apply pw_below_drewN | apply below_drew1) | exact HB.out)) hb); clear HO_12; clear HO_14; clear HB; have HO_12 := n0_; have HO_14 := n1_; have HB := n2_; clear n0_ n1_ n2_; (try clear hb); (try clear hb2); (try clear hk); (try clear hi)) | ((with_reducible refine gate_dst (N := 141) rfl ?_); (try (refine gate_guard (by rfl) ?_; dsimp only)); refine Kd.R_lit k43 _ 43 ?hg (N := 141) ?hd (xs := ([(⟨t349, t350, t351, t352, t353, t354, t355⟩ : S43), (⟨t356, t357, t358, t359, t360, t361, t362⟩ : S43)] : List (S43))) (inner := [.int .i64 t349, .int .i64 t350, .int .i64 t351, .int .i64 t352, .int .i64 t353, .int .i64 t354, .int .i64 t355, .int .i64 t356, .int .i64 t357, .int .i64 t358, .int .i64 t359, .int .i64 t360, .int .i64 t361, .int .i64 t362]) (ok := fun _ => True) (okp := fun _ => True) ?hr ?hp (fun _ hk => hk) trivial (Below.refl _ _) (Nat.le_refl _) (by simp) ?_; (case hd => rfl); (case hg => rfl); (case hr => first | (go_simp; done) | (go_simp; rfl)); (case hp => exact (Reps.c7 (show Kd.M k43 _ _ _ (⟨t349, t350, t351, t352, t353, t354, t355⟩ : S43) [.int .i64 t349, .int .i64 t350, .int .i64 t351, .int .i64 t352, .int .i64 t353, .int .i64 t354, .int .i64 t355] from (k43_mkM _ _ _ (⟨t349, t350, t351, t352, t353, t354, t355⟩ : S43) )) (Reps.c7 (show Kd.M k43 _ _ _ (⟨t356, t357, t358, t359, t360, t361, t362⟩ : S43) [.int .i64 t356, .int .i64 t357, .int .i64 t358, .int .i64 t359, .int .i64 t360, .int .i64 t361, .int .i64 t362] from (k43_mkM _ _ _ (⟨t356, t357, t358, t359, t360, t361, t362⟩ : S43) )) (Reps.none _ _)))); intro v364 w132 ho133 hb hg_ hnew_; clear hg_ hnew_; (first | rw [← Ny363.out] at ho133 | (simp only [Int.reduceToNat] at ho133; rw [← Ny363.out] at ho133)); have n0_ := Aside0.mk (Kd.R_elder' (by (with_reducible repeat (first | apply Kd.R_alloc | apply Kd.R_drewN | apply Kd.R_drew)); exact HO_12.out) (Kd.R_base ho133) hb); have n1_ := Aside0.mk (Kd.R_below (by (with_reducible repeat (first | apply Kd.R_alloc | apply Kd.R_drewN | apply Kd.R_drew)); exact HO_14.out) hb); have n2_ := Aside0.mk (Kd.R_lower (Kd.R_new' ho133 (Kd.R_lt (by (with_reducible repeat (first | apply Kd.R_alloc | apply Kd.R_drewN | apply Kd.R_drew)); exact HO_12.out))) (below_size (by repeat (first | (with_reducible first | exact HB.out | apply below_alloc | apply pw_below_drewN | apply below_drew1) | exact HB.out)))); have n3_ := Aside0.mk (below_step (by repeat (first | (with_reducible first | exact HB.out | apply below_alloc | apply pw_below_drewN | apply below_drew1) | exact HB.out)) hb); clear HO_12; clear HO_14; clear HB; have HO_12 := n0_; have HO_14 := n1_; have HO365 := n2_; have HB := n3_; clear n0_ n1_ n2_ n3_; clear hb ho133; obtain ⟨Ao134, co134, eo134⟩ := Kd.R_slice HO_12.out; subst eo134; obtain ⟨Ao135, co135, eo135⟩ := Kd.R_slice HO365.out; subst eo135) | (go_at_call 10; (with_reducible refine (dancestudioref26_Same.calls kj72 _ _ t323 _ _ y363 false _ ?side1 ?side2 ?side3 ?side4 A115.out).mono ?_); (case side1 => repeat (first | exact (Kd.R_reads' HO_12.out).2.2 | (with_reducible refine Kd.C_alloc ?_ _) | (with_reducible refine Kd.C_drewN ?_ _) | (with_reducible refine Kd.C_drew ?_))); (case side2 => exact (Kd.R_reads' HO_12.out).2.1); (case side3 => repeat (first | exact (Kd.R_reads' HO365.out).2.2 | (with_reducible refine Kd.C_alloc ?_ _) | (with_reducible refine Kd.C_drewN ?_ _) | (with_reducible refine Kd.C_drew ?_))); (case side4 => exact (Kd.R_reads' HO365.out).2.1); rintro e w' ⟨rfl, ⟨nd, rfl⟩⟩))
                          go_ret
                          exact ⟨by first | rfl | (simp [errW_none, errW_some] <;> rfl) | (simp [*, errW_none, errW_some] <;> rfl), by repeat (first | (with_reducible first | exact HB.out | apply below_alloc | apply pw_below_drewN | apply below_drew1) | exact HB.out)⟩
                      · rw [if_neg c112] at H
                        have c112b0 : (t324 == 7) = false := beq_eq_false_iff_ne.mpr c112
                        have c112b1 : (t324 != 7) = true := bne_iff_ne.mpr c112
                        obtain rfl := Option.some.inj H
                        go_wp2
                        go_ret
                        exact ⟨by first | rfl | (simp [errW_none, errW_some] <;> rfl) | (simp [*, errW_none, errW_some] <;> rfl), by repeat (first | (with_reducible first | exact HB.out | apply below_alloc | apply pw_below_drewN | apply below_drew1) | exact HB.out)⟩
                    · rw [if_neg c111] at H
                      have c111b0 : (t326 == 0) = false := beq_eq_false_iff_ne.mpr c111
                      have c111b1 : (t326 != 0) = true := bne_iff_ne.mpr c111
                      obtain rfl := Option.some.inj H
                      go_wp2
                      go_ret
                      exact ⟨by first | rfl | (simp [errW_none, errW_some] <;> rfl) | (simp [*, errW_none, errW_some] <;> rfl), by repeat (first | (with_reducible first | exact HB.out | apply below_alloc | apply pw_below_drewN | apply below_drew1) | exact HB.out)⟩

end Go.Proofs.Ytkipahflihobeaa.X
