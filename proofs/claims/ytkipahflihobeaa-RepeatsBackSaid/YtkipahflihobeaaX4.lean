/- Contracts of functions over this seat, written by a program of this claim (xprint.py). -/
import Derived.Test.YtkipahflihobeaaX0
import Derived.Test.YtkipahflihobeaaX3
namespace Go.Proofs.Ytkipahflihobeaa.X
open Go.RowKit Go.Proofs.YtkipahflihobeaaW.PrintWords Go.Proofs.YtkipahflihobeaaW.PrintLast Go.Proofs.YtkipahflihobeaaW.PrintMore
attribute [local go_sem] max2_int min2_int max_two min_two max_three min_three max_four min_four   -- for this text's walks alone
set_option linter.unusedVariables false
set_option linter.unusedSimpArgs false

/-! ### cmp_Compare_int: function 34 -/
def cmp_Compare_int.f (a0 : Int) (a1 : Int) : Option (Int) := (cmp_isNaN_int.f a0).bind fun t123 => ((cmp_isNaN_int.f a1).bind fun t124 => (if t123 = true then (if t124 = true then (some 0) else (some (-1))) else (if t124 = true then (some 1) else (if a0 < a1 then (some (-1)) else (if a0 > a1 then (some 1) else (some 0))))))
set_option maxHeartbeats 8000000 in
set_option maxRecDepth 100000 in
theorem cmp_Compare_int.calls (a0 : Int) (a1 : Int) (r : Int) (w : World) (h : cmp_Compare_int.f a0 a1 = some r) :
    Calls Try.prog 34 #[.int .i64 a0, .int .i64 a1] w fun e w' => e = .returned (.int .i64 r) ∧ Drawn0 w w' := by
  have H : ((cmp_isNaN_int.f a0).bind fun t123 => ((cmp_isNaN_int.f a1).bind fun t124 => (if t123 = true then (if t124 = true then (some 0) else (some (-1))) else (if t124 = true then (some 1) else (if a0 < a1 then (some (-1)) else (if a0 > a1 then (some 1) else (some 0))))))) = some r := h
  clear h
  replace H := Option.bind_eq_some_iff.mp H
  obtain ⟨t123, A30, H⟩ := H
  replace H : ((cmp_isNaN_int.f a1).bind fun t124 => (if t123 = true then (if t124 = true then (some 0) else (some (-1))) else (if t124 = true then (some 1) else (if a0 < a1 then (some (-1)) else (if a0 > a1 then (some 1) else (some 0)))))) = some r := H
  have A3 := Aside0.mk A30
  clear A30
  replace H := Option.bind_eq_some_iff.mp H
  obtain ⟨t124, A40, H⟩ := H
  replace H : (if t123 = true then (if t124 = true then (some 0) else (some (-1))) else (if t124 = true then (some 1) else (if a0 < a1 then (some (-1)) else (if a0 > a1 then (some 1) else (some 0))))) = some r := H
  have A4 := Aside0.mk A40
  clear A40
  by_cases c5 : t123 = true
  · subst c5
    have H1 : (if t124 = true then (some 0) else (some (-1))) = some r := by rw [if_pos rfl] at H; exact H
    clear H
    have H := H1
    clear H1
    by_cases c6 : t124 = true
    · subst c6
      have H1 : (some 0) = some r := by rw [if_pos rfl] at H; exact H
      clear H
      have H := H1
      clear H1
      obtain rfl := Option.some.inj H
      go_enter Try.func34, Try.ntmps34
      go_wp2_with (first | ((with_reducible refine gate_callee (f := 41) rfl ?_); refine goesL_ (some 8) rfl rfl Try.func41 (by kernel_rfl) rfl #[.int .i64 a0] rfl (by (try simp only [List.map_toArray, List.map_cons, List.map_nil]); first | done | rfl | (simp only [List.length_drop, List.length_take]; rfl)) ?_; (with_reducible refine (cmp_isNaN_int.calls a0 true _ A3.out).mono ?_); rintro e w' ⟨rfl, ⟨nd, rfl⟩⟩; refine ⟨_, rfl, ?_⟩) | ((with_reducible refine gate_callee (f := 41) rfl ?_); refine goesL_ (some 10) rfl rfl Try.func41 (by kernel_rfl) rfl #[.int .i64 a1] rfl (by (try simp only [List.map_toArray, List.map_cons, List.map_nil]); first | done | rfl | (simp only [List.length_drop, List.length_take]; rfl)) ?_; (with_reducible refine (cmp_isNaN_int.calls a1 true _ A4.out).mono ?_); rintro e w' ⟨rfl, ⟨nd, rfl⟩⟩; refine ⟨_, rfl, ?_⟩))
      go_ret
      exact ⟨by first | rfl | (simp; done) | (simp [*]; done), by repeat (first | exact Drawn0.refl _ | apply Drawn0.step)⟩
    · replace c6 := Bool.eq_false_iff.mpr c6
      subst c6
      have H1 : (some (-1)) = some r := by rw [if_neg (show ¬ (false = true) by decide)] at H; exact H
      clear H
      have H := H1
      clear H1
      obtain rfl := Option.some.inj H
      go_enter Try.func34, Try.ntmps34
      go_wp2_with (first | ((with_reducible refine gate_callee (f := 41) rfl ?_); refine goesL_ (some 8) rfl rfl Try.func41 (by kernel_rfl) rfl #[.int .i64 a0] rfl (by (try simp only [List.map_toArray, List.map_cons, List.map_nil]); first | done | rfl | (simp only [List.length_drop, List.length_take]; rfl)) ?_; (with_reducible refine (cmp_isNaN_int.calls a0 true _ A3.out).mono ?_); rintro e w' ⟨rfl, ⟨nd, rfl⟩⟩; refine ⟨_, rfl, ?_⟩) | ((with_reducible refine gate_callee (f := 41) rfl ?_); refine goesL_ (some 10) rfl rfl Try.func41 (by kernel_rfl) rfl #[.int .i64 a1] rfl (by (try simp only [List.map_toArray, List.map_cons, List.map_nil]); first | done | rfl | (simp only [List.length_drop, List.length_take]; rfl)) ?_; (with_reducible refine (cmp_isNaN_int.calls a1 false _ A4.out).mono ?_); rintro e w' ⟨rfl, ⟨nd, rfl⟩⟩; refine ⟨_, rfl, ?_⟩))
      go_ret
      exact ⟨by first | rfl | (simp; done) | (simp [*]; done), by repeat (first | exact Drawn0.refl _ | apply Drawn0.step)⟩
  · replace c5 := Bool.eq_false_iff.mpr c5
    subst c5
    have H1 : (if t124 = true then (some 1) else (if a0 < a1 then (some (-1)) else (if a0 > a1 then (some 1) else (some 0)))) = some r := by rw [if_neg (show ¬ (false = true) by decide)] at H; exact H
    clear H
    have H := H1
    clear H1
    by_cases c7 : t124 = true
    · subst c7
      have H1 : (some 1) = some r := by rw [if_pos rfl] at H; exact H
      clear H
      have H := H1
      clear H1
      obtain rfl := Option.some.inj H
      go_enter Try.func34, Try.ntmps34
      go_wp2_with (first | ((with_reducible refine gate_callee (f := 41) rfl ?_); refine goesL_ (some 8) rfl rfl Try.func41 (by kernel_rfl) rfl #[.int .i64 a0] rfl (by (try simp only [List.map_toArray, List.map_cons, List.map_nil]); first | done | rfl | (simp only [List.length_drop, List.length_take]; rfl)) ?_; (with_reducible refine (cmp_isNaN_int.calls a0 false _ A3.out).mono ?_); rintro e w' ⟨rfl, ⟨nd, rfl⟩⟩; refine ⟨_, rfl, ?_⟩) | ((with_reducible refine gate_callee (f := 41) rfl ?_); refine goesL_ (some 10) rfl rfl Try.func41 (by kernel_rfl) rfl #[.int .i64 a1] rfl (by (try simp only [List.map_toArray, List.map_cons, List.map_nil]); first | done | rfl | (simp only [List.length_drop, List.length_take]; rfl)) ?_; (with_reducible refine (cmp_isNaN_int.calls a1 true _ A4.out).mono ?_); rintro e w' ⟨rfl, ⟨nd, rfl⟩⟩; refine ⟨_, rfl, ?_⟩))
      go_ret
      exact ⟨by first | rfl | (simp; done) | (simp [*]; done), by repeat (first | exact Drawn0.refl _ | apply Drawn0.step)⟩
    · replace c7 := Bool.eq_false_iff.mpr c7
      subst c7
      have H1 : (if a0 < a1 then (some (-1)) else (if a0 > a1 then (some 1) else (some 0))) = some r := by rw [if_neg (show ¬ (false = true) by decide)] at H; exact H
      clear H
      have H := H1
      clear H1
      by_cases c8 : a0 < a1
      · rw [if_pos c8] at H
        have c8b0 : decide (a0 < a1) = true := decide_eq_true c8
        clear c8
        obtain rfl := Option.some.inj H
        go_enter Try.func34, Try.ntmps34
        go_wp2_with (first | ((with_reducible refine gate_callee (f := 41) rfl ?_); refine goesL_ (some 8) rfl rfl Try.func41 (by kernel_rfl) rfl #[.int .i64 a0] rfl (by (try simp only [List.map_toArray, List.map_cons, List.map_nil]); first | done | rfl | (simp only [List.length_drop, List.length_take]; rfl)) ?_; (with_reducible refine (cmp_isNaN_int.calls a0 false _ A3.out).mono ?_); rintro e w' ⟨rfl, ⟨nd, rfl⟩⟩; refine ⟨_, rfl, ?_⟩) | ((with_reducible refine gate_callee (f := 41) rfl ?_); refine goesL_ (some 10) rfl rfl Try.func41 (by kernel_rfl) rfl #[.int .i64 a1] rfl (by (try simp only [List.map_toArray, List.map_cons, List.map_nil]); first | done | rfl | (simp only [List.length_drop, List.length_take]; rfl)) ?_; (with_reducible refine (cmp_isNaN_int.calls a1 false _ A4.out).mono ?_); rintro e w' ⟨rfl, ⟨nd, rfl⟩⟩; refine ⟨_, rfl, ?_⟩))
        go_ret
        exact ⟨by first | rfl | (simp; done) | (simp [*]; done), by repeat (first | exact Drawn0.refl _ | apply Drawn0.step)⟩
      · rw [if_neg c8] at H
        have c8b0 : decide (a0 < a1) = false := decide_eq_false c8
        clear c8
        by_cases c9 : a0 > a1
        · rw [if_pos c9] at H
          have c9b0 : decide (a1 < a0) = true := decide_eq_true c9
          clear c9
          obtain rfl := Option.some.inj H
          go_enter Try.func34, Try.ntmps34
          go_wp2_with (first | ((with_reducible refine gate_callee (f := 41) rfl ?_); refine goesL_ (some 8) rfl rfl Try.func41 (by kernel_rfl) rfl #[.int .i64 a0] rfl (by (try simp only [List.map_toArray, List.map_cons, List.map_nil]); first | done | rfl | (simp only [List.length_drop, List.length_take]; rfl)) ?_; (with_reducible refine (cmp_isNaN_int.calls a0 false _ A3.out).mono ?_); rintro e w' ⟨rfl, ⟨nd, rfl⟩⟩; refine ⟨_, rfl, ?_⟩) | ((with_reducible refine gate_callee (f := 41) rfl ?_); refine goesL_ (some 10) rfl rfl Try.func41 (by kernel_rfl) rfl #[.int .i64 a1] rfl (by (try simp only [List.map_toArray, List.map_cons, List.map_nil]); first | done | rfl | (simp only [List.length_drop, List.length_take]; rfl)) ?_; (with_reducible refine (cmp_isNaN_int.calls a1 false _ A4.out).mono ?_); rintro e w' ⟨rfl, ⟨nd, rfl⟩⟩; refine ⟨_, rfl, ?_⟩))
          go_ret
          exact ⟨by first | rfl | (simp; done) | (simp [*]; done), by repeat (first | exact Drawn0.refl _ | apply Drawn0.step)⟩
        · rw [if_neg c9] at H
          have c9b0 : decide (a1 < a0) = false := decide_eq_false c9
          clear c9
          obtain rfl := Option.some.inj H
          go_enter Try.func34, Try.ntmps34
          go_wp2_with (first | ((with_reducible refine gate_callee (f := 41) rfl ?_); refine goesL_ (some 8) rfl rfl Try.func41 (by kernel_rfl) rfl #[.int .i64 a0] rfl (by (try simp only [List.map_toArray, List.map_cons, List.map_nil]); first | done | rfl | (simp only [List.length_drop, List.length_take]; rfl)) ?_; (with_reducible refine (cmp_isNaN_int.calls a0 false _ A3.out).mono ?_); rintro e w' ⟨rfl, ⟨nd, rfl⟩⟩; refine ⟨_, rfl, ?_⟩) | ((with_reducible refine gate_callee (f := 41) rfl ?_); refine goesL_ (some 10) rfl rfl Try.func41 (by kernel_rfl) rfl #[.int .i64 a1] rfl (by (try simp only [List.map_toArray, List.map_cons, List.map_nil]); first | done | rfl | (simp only [List.length_drop, List.length_take]; rfl)) ?_; (with_reducible refine (cmp_isNaN_int.calls a1 false _ A4.out).mono ?_); rintro e w' ⟨rfl, ⟨nd, rfl⟩⟩; refine ⟨_, rfl, ?_⟩))
          go_ret
          exact ⟨by first | rfl | (simp; done) | (simp [*]; done), by repeat (first | exact Drawn0.refl _ | apply Drawn0.step)⟩

/-! ### symbol_Less: function 21 -/
def symbol_Less.f (k : Nat) (a0_0 : Int) (a0_1 : Int) (a0_2 : Int) (a0_3 : Int) (a0_4 : Int) (a0_5 : Int) (a0_6 : Int) (a1_0 : Int) (a1_1 : Int) (a1_2 : Int) (a1_3 : Int) (a1_4 : Int) (a1_5 : Int) (a1_6 : Int) : Option (Bool) := (cmp_Compare_int.f a0_2 a1_2).bind fun t127 => ((cmp_Compare_int.f a0_1 a1_1).bind fun t128 => ((cmp_Or_int.f k (([t127, t128] : List Int))).bind fun t132 => (some (decide (t132 < 0)))))
theorem symbol_Less.mono : ∀ a0 a1 a2 a3 a4 a5 a6 a7 a8 a9 a10 a11 a12 a13 k, LeO (symbol_Less.f k a0 a1 a2 a3 a4 a5 a6 a7 a8 a9 a10 a11 a12 a13) (symbol_Less.f (k + 1) a0 a1 a2 a3 a4 a5 a6 a7 a8 a9 a10 a11 a12 a13) := by
  intro a0 a1 a2 a3 a4 a5 a6 a7 a8 a9 a10 a11 a12 a13 k
  unfold symbol_Less.f
  repeat' first
      | (with_reducible exact cmp_Or_int.mono _ _)
      | (with_reducible exact LeO.refl _)
      | (with_reducible exact LeO.none _)
      | (with_reducible refine LeO.ite ?_ ?_)
      | (with_reducible refine LeO.bind ?_ (fun _ => ?_))
      | exact cmp_Or_int.mono _ _
      | exact LeO.none _
      | refine LeO.ite ?_ ?_
      | refine LeO.bind ?_ (fun _ => ?_)
def symbol_Less.T1 : Bool × List (List Nat × List Nat) := (true, [([], []), ([0], [0]), ([], []), ([2], [2]), ([1, 3], [1, 3]), ([], []), ([5], [5]), ([], []), ([7], [7]), ([6, 8, 4], [6, 8]), ([4, 9], [4, 9]), ([10, 9], [10]), ([11], [11]), ([12, 11, 0, 1, 2, 3, 4, 5, 6, 7, 8, 9, 10, 11, 12], [12])])
def symbol_Less.B1 : List Nat := [0, 1, 0, 4, 15, 0, 32, 0, 128, 511, 1023, 2047, 4095, 8191]
theorem symbol_Less.tab1 : rtab .any (opsOf Try.f21 1) = symbol_Less.T1 := by kernel_rfl
theorem symbol_Less.bits1 : waitsOk symbol_Less.T1.2 symbol_Less.B1 = true := by kernel_rfl
set_option maxHeartbeats 8000000 in
set_option maxRecDepth 100000 in
theorem symbol_Less.calls (k : Nat) (a0_0 : Int) (a0_1 : Int) (a0_2 : Int) (a0_3 : Int) (a0_4 : Int) (a0_5 : Int) (a0_6 : Int) (a1_0 : Int) (a1_1 : Int) (a1_2 : Int) (a1_3 : Int) (a1_4 : Int) (a1_5 : Int) (a1_6 : Int) (r : Bool) (w : World) (h : symbol_Less.f k a0_0 a0_1 a0_2 a0_3 a0_4 a0_5 a0_6 a1_0 a1_1 a1_2 a1_3 a1_4 a1_5 a1_6 = some r) :
    Calls Try.prog 21 #[.agg #[.int .i64 a0_0, .int .i64 a0_1, .int .i64 a0_2, .int .i64 a0_3, .int .i64 a0_4, .int .i64 a0_5, .int .i64 a0_6], .agg #[.int .i64 a1_0, .int .i64 a1_1, .int .i64 a1_2, .int .i64 a1_3, .int .i64 a1_4, .int .i64 a1_5, .int .i64 a1_6]] w fun e w' => e = .returned (.bool r) ∧ Below w.heap.size w w' := by
  have hu43 := Try.underlying43
  have HB := Aside0.mk (Below.refl w.heap.size w)
  have H : ((cmp_Compare_int.f a0_2 a1_2).bind fun t127 => ((cmp_Compare_int.f a0_1 a1_1).bind fun t128 => ((cmp_Or_int.f k (([t127, t128] : List Int))).bind fun t132 => (some (decide (t132 < 0)))))) = some r := h
  clear h
  replace H := Option.bind_eq_some_iff.mp H
  obtain ⟨t127, A30, H⟩ := H
  replace H : ((cmp_Compare_int.f a0_1 a1_1).bind fun t128 => ((cmp_Or_int.f k (([t127, t128] : List Int))).bind fun t132 => (some (decide (t132 < 0))))) = some r := H
  have A3 := Aside0.mk A30
  clear A30
  replace H := Option.bind_eq_some_iff.mp H
  obtain ⟨t128, A40, H⟩ := H
  replace H : ((cmp_Or_int.f k (([t127, t128] : List Int))).bind fun t132 => (some (decide (t132 < 0)))) = some r := H
  have A4 := Aside0.mk A40
  clear A40
  obtain ⟨y129, hy129⟩ : ∃ y_ : List Int, y_ = (([t127, t128] : List Int)) := ⟨_, rfl⟩
  replace H : ((cmp_Or_int.f k y129).bind fun t132 => (some (decide (t132 < 0)))) = some r := by first | (rw [hy129]; with_reducible exact H) | (have H2_ := (Option.bind_some _ _).symm.trans H; rw [hy129]; with_reducible exact H2_) | (have H2_ := (Option.bind_some _ _).symm.trans H; with_reducible exact H2_) | with_reducible exact H | (rw [hy129]; exact H) | exact H
  have Ny129 := Aside0.mk hy129
  clear hy129
  replace H := Option.bind_eq_some_iff.mp H
  obtain ⟨t132, A50, H⟩ := H
  replace H : (some (decide (t132 < 0))) = some r := H
  have A5 := Aside0.mk A50
  clear A50
  obtain rfl := Option.some.inj H
  go_enter Try.func21, Try.ntmps21
  try go_wp2_with (first | ((with_reducible refine gate_dst (N := 2) rfl ?_); refine box_event ?hg (N := 2) ?hd (cs := #[.int .i64 a0_0, .int .i64 a0_1, .int .i64 a0_2, .int .i64 a0_3, .int .i64 a0_4, .int .i64 a0_5, .int .i64 a0_6]) (t := 43) ?hr ?_; (case hd => rfl); (case hg => rfl); (case hr => first | (go_simp; done) | (go_simp; rfl)); intro gb125 hg w6 hbox hb; have n0_ := Aside0.mk (below_step (by repeat (first | (with_reducible first | exact HB.out | apply below_alloc | apply pw_below_drewN | apply below_drew1) | exact HB.out)) hb); have n1_ := Aside0.mk (hbox); have n2_ := Aside0.mk ((by rw [hg]; exact (below_size (by repeat (first | (with_reducible first | exact HB.out | apply below_alloc | apply pw_below_drewN | apply below_drew1) | exact HB.out))) : w.heap.size ≤ gb125)); have n3_ := Aside0.mk ((by rw [hg]; exact (below_size (by repeat (first | (with_reducible first | exact HB.out | apply below_alloc | apply pw_below_drewN | apply below_drew1) | exact HB.out))) : w.heap.size ≤ gb125)); clear HB; have HB := n0_; have BK125 := n1_; have GW125 := n2_; have GE125 := n3_; clear n0_ n1_ n2_ n3_; clear hb hbox hg) | ((with_reducible refine gate_dst (N := 3) rfl ?_); refine box_event ?hg (N := 3) ?hd (cs := #[.int .i64 a1_0, .int .i64 a1_1, .int .i64 a1_2, .int .i64 a1_3, .int .i64 a1_4, .int .i64 a1_5, .int .i64 a1_6]) (t := 43) ?hr ?_; (case hd => rfl); (case hg => rfl); (case hr => first | (go_simp; done) | (go_simp; rfl)); intro gb126 hg w7 hbox hb; have n0_ := Aside0.mk (blk_below (g := gb125) (o := .cells #[.int .i64 a0_0, .int .i64 a0_1, .int .i64 a0_2, .int .i64 a0_3, .int .i64 a0_4, .int .i64 a0_5, .int .i64 a0_6] 43 (0, 0)) (by (with_reducible repeat (first | refine blk_drewN ?_ _ | refine blk_drew ?_ | refine blk_alloc ?_ _)); exact BK125.out) hb); have n1_ := Aside0.mk (below_step (by repeat (first | (with_reducible first | exact HB.out | apply below_alloc | apply pw_below_drewN | apply below_drew1 | refine below_set ?_ GE125.out) | exact HB.out)) hb); have n2_ := Aside0.mk (hbox); have n3_ := Aside0.mk ((by rw [hg]; exact (below_size (by repeat (first | (with_reducible first | exact HB.out | apply below_alloc | apply pw_below_drewN | apply below_drew1 | refine below_set ?_ GE125.out) | exact HB.out))) : w.heap.size ≤ gb126)); have n4_ := Aside0.mk ((by rw [hg]; exact (below_size (by repeat (first | (with_reducible first | exact HB.out | apply below_alloc | apply pw_below_drewN | apply below_drew1 | refine below_set ?_ GE125.out) | exact HB.out))) : w.heap.size ≤ gb126)); have n5_ := Aside0.mk ((by rw [hg]; exact Nat.ne_of_lt (blk_lt (g := gb125) (o := .cells #[.int .i64 a0_0, .int .i64 a0_1, .int .i64 a0_2, .int .i64 a0_3, .int .i64 a0_4, .int .i64 a0_5, .int .i64 a0_6] 43 (0, 0)) (by (with_reducible repeat (first | refine blk_drewN ?_ _ | refine blk_drew ?_ | refine blk_alloc ?_ _)); exact BK125.out)) : gb125 ≠ gb126)); have n6_ := Aside0.mk ((by rw [hg]; exact Nat.ne_of_gt (blk_lt (g := gb125) (o := .cells #[.int .i64 a0_0, .int .i64 a0_1, .int .i64 a0_2, .int .i64 a0_3, .int .i64 a0_4, .int .i64 a0_5, .int .i64 a0_6] 43 (0, 0)) (by (with_reducible repeat (first | refine blk_drewN ?_ _ | refine blk_drew ?_ | refine blk_alloc ?_ _)); exact BK125.out)) : gb126 ≠ gb125)); clear BK125; clear HB; have BK125 := n0_; have HB := n1_; have BK126 := n2_; have GW126 := n3_; have GE126 := n4_; have NB125_126 := n5_; have NB126_125 := n6_; clear n0_ n1_ n2_ n3_ n4_ n5_ n6_; clear hb hbox hg))
  have n0_ := Aside0.mk (blk_drew BK125.out)
  have n1_ := Aside0.mk (blk_drew BK126.out)
  have n2_ := Aside0.mk (below_drew1 HB.out)
  clear BK125
  clear BK126
  clear HB
  have BK125 := n0_
  have BK126 := n1_
  have HB := n2_
  clear n0_ n1_ n2_
  refine start_ (n := 14) (S := fun w' => w'.cell? ⟨gb125, 0, none⟩ = some (.int .i64 a0_0) ∧ w'.cell? ⟨gb125, 1, none⟩ = some (.int .i64 a0_1) ∧ w'.cell? ⟨gb125, 2, none⟩ = some (.int .i64 a0_2) ∧ w'.cell? ⟨gb125, 3, none⟩ = some (.int .i64 a0_3) ∧ w'.cell? ⟨gb125, 4, none⟩ = some (.int .i64 a0_4) ∧ w'.cell? ⟨gb125, 5, none⟩ = some (.int .i64 a0_5) ∧ w'.cell? ⟨gb125, 6, none⟩ = some (.int .i64 a0_6) ∧ w'.cell? ⟨gb126, 0, none⟩ = some (.int .i64 a1_0) ∧ w'.cell? ⟨gb126, 1, none⟩ = some (.int .i64 a1_1) ∧ w'.cell? ⟨gb126, 2, none⟩ = some (.int .i64 a1_2) ∧ w'.cell? ⟨gb126, 3, none⟩ = some (.int .i64 a1_3) ∧ w'.cell? ⟨gb126, 4, none⟩ = some (.int .i64 a1_4) ∧ w'.cell? ⟨gb126, 5, none⟩ = some (.int .i64 a1_5) ∧ w'.cell? ⟨gb126, 6, none⟩ = some (.int .i64 a1_6)) (ds := []) #[false, false, false, false, false, false, false, false, false, false, false, false, false, false] (by kernel_rfl) rfl rfl ⟨(blk_cell BK125.out 0).trans rfl, (blk_cell BK125.out 1).trans rfl, (blk_cell BK125.out 2).trans rfl, (blk_cell BK125.out 3).trans rfl, (blk_cell BK125.out 4).trans rfl, (blk_cell BK125.out 5).trans rfl, (blk_cell BK125.out 6).trans rfl, (blk_cell BK126.out 0).trans rfl, (blk_cell BK126.out 1).trans rfl, (blk_cell BK126.out 2).trans rfl, (blk_cell BK126.out 3).trans rfl, (blk_cell BK126.out 4).trans rfl, (blk_cell BK126.out 5).trans rfl, (blk_cell BK126.out 6).trans rfl⟩ (fun hHeld => ?_); refine with_tabW symbol_Less.tab1 symbol_Less.bits1 (fun HT_ HW_ => ?_)
  generalize w7.drew = w8 at BK125 BK126 HB hHeld ⊢
  refine pure_ (i := 0) (N := some 5) (v := ?_) (a' := ?_) #[true, false, false, false, false, false, false, false, false, false, false, false, false, false] rfl rfl (any_of HT_.out (by kernel_rfl)) (fun _ _ _ h => h) (Or.inl ⟨by rfl, ?_⟩) ?_ ?_
  rotate_left
  · intro w'
    go_simp
    with_reducible rfl
  rotate_left
  · simp only [Act.put, List.setIfInBounds_toArray, List.set_cons_zero, List.set_cons_succ, i64_w, i32_w]
    rfl
  refine pure_ (i := 2) (N := some 7) (v := ?_) (a' := ?_) #[true, false, true, false, false, false, false, false, false, false, false, false, false, false] rfl rfl (any_of HT_.out (by kernel_rfl)) (fun _ _ _ h => h) (Or.inl ⟨by rfl, ?_⟩) ?_ ?_
  rotate_left
  · intro w'
    go_simp
    with_reducible rfl
  rotate_left
  · simp only [Act.put, List.setIfInBounds_toArray, List.set_cons_zero, List.set_cons_succ, i64_w, i32_w]
    rfl
  refine pure_ (i := 5) (N := some 10) (v := ?_) (a' := ?_) #[true, false, true, false, false, true, false, false, false, false, false, false, false, false] rfl rfl (any_of HT_.out (by kernel_rfl)) (fun _ _ _ h => h) (Or.inl ⟨by rfl, ?_⟩) ?_ ?_
  rotate_left
  · intro w'
    go_simp
    with_reducible rfl
  rotate_left
  · simp only [Act.put, List.setIfInBounds_toArray, List.set_cons_zero, List.set_cons_succ, i64_w, i32_w]
    rfl
  refine pure_ (i := 7) (N := some 12) (v := ?_) (a' := ?_) #[true, false, true, false, false, true, false, true, false, false, false, false, false, false] rfl rfl (any_of HT_.out (by kernel_rfl)) (fun _ _ _ h => h) (Or.inl ⟨by rfl, ?_⟩) ?_ ?_
  rotate_left
  · intro w'
    go_simp
    with_reducible rfl
  rotate_left
  · simp only [Act.put, List.setIfInBounds_toArray, List.set_cons_zero, List.set_cons_succ, i64_w, i32_w]
    rfl
  refine take_ (i := 1) (N := some 6) (v := ?_) (a' := ?_) #[true, true, true, false, false, true, false, true, false, false, false, false, false, false] rfl rfl (take_ofW HT_.out HW_.out (by kernel_rfl)) (fun _ _ _ h => h) (Or.inl ⟨by rfl, ?_⟩) hHeld ?_ ?_
  rotate_left
  · rintro w' ⟨s0, s1, s2, s3, s4, s5, s6, s7, s8, s9, s10, s11, s12, s13⟩
    go_simp
    with_reducible rfl
  rotate_left
  · simp only [Act.put, List.setIfInBounds_toArray, List.set_cons_zero, List.set_cons_succ, i64_w, i32_w]
    rfl
  refine take_ (i := 3) (N := some 8) (v := ?_) (a' := ?_) #[true, true, true, true, false, true, false, true, false, false, false, false, false, false] rfl rfl (take_ofW HT_.out HW_.out (by kernel_rfl)) (fun _ _ _ h => h) (Or.inl ⟨by rfl, ?_⟩) hHeld ?_ ?_
  rotate_left
  · rintro w' ⟨s0, s1, s2, s3, s4, s5, s6, s7, s8, s9, s10, s11, s12, s13⟩
    go_simp
    with_reducible rfl
  rotate_left
  · simp only [Act.put, List.setIfInBounds_toArray, List.set_cons_zero, List.set_cons_succ, i64_w, i32_w]
    rfl
  refine take_ (i := 6) (N := some 11) (v := ?_) (a' := ?_) #[true, true, true, true, false, true, true, true, false, false, false, false, false, false] rfl rfl (take_ofW HT_.out HW_.out (by kernel_rfl)) (fun _ _ _ h => h) (Or.inl ⟨by rfl, ?_⟩) hHeld ?_ ?_
  rotate_left
  · rintro w' ⟨s0, s1, s2, s3, s4, s5, s6, s7, s8, s9, s10, s11, s12, s13⟩
    go_simp
    with_reducible rfl
  rotate_left
  · simp only [Act.put, List.setIfInBounds_toArray, List.set_cons_zero, List.set_cons_succ, i64_w, i32_w]
    rfl
  refine take_ (i := 8) (N := some 13) (v := ?_) (a' := ?_) #[true, true, true, true, false, true, true, true, true, false, false, false, false, false] rfl rfl (take_ofW HT_.out HW_.out (by kernel_rfl)) (fun _ _ _ h => h) (Or.inl ⟨by rfl, ?_⟩) hHeld ?_ ?_
  rotate_left
  · rintro w' ⟨s0, s1, s2, s3, s4, s5, s6, s7, s8, s9, s10, s11, s12, s13⟩
    go_simp
    with_reducible rfl
  rotate_left
  · simp only [Act.put, List.setIfInBounds_toArray, List.set_cons_zero, List.set_cons_succ, i64_w, i32_w]
    rfl
  refine one_ (i := 4) (N := some 9) #[true, true, true, true, true, true, true, true, true, false, false, false, false, false] rfl rfl (one_of HT_.out (by kernel_rfl)) (by decide) (fun K hK => ?_)
  refine goes_ Try.func34 (by kernel_rfl) rfl #[.int .i64 a0_2, .int .i64 a1_2] (by rfl) rfl rfl (by (try simp only [List.map_toArray, List.map_cons, List.map_nil]); first | done | rfl | (simp only [List.length_drop, List.length_take]; rfl)) ?_
  with_reducible refine (cmp_Compare_int.calls a0_2 a1_2 t127 _ A3.out).mono ?_
  rintro e w' ⟨rfl, ⟨nd, rfl⟩⟩
  refine ⟨_, rfl, ?_⟩
  refine hK.out _ _ ⟨(blk_cell BK125.out 0).trans rfl, (blk_cell BK125.out 1).trans rfl, (blk_cell BK125.out 2).trans rfl, (blk_cell BK125.out 3).trans rfl, (blk_cell BK125.out 4).trans rfl, (blk_cell BK125.out 5).trans rfl, (blk_cell BK125.out 6).trans rfl, (blk_cell BK126.out 0).trans rfl, (blk_cell BK126.out 1).trans rfl, (blk_cell BK126.out 2).trans rfl, (blk_cell BK126.out 3).trans rfl, (blk_cell BK126.out 4).trans rfl, (blk_cell BK126.out 5).trans rfl, (blk_cell BK126.out 6).trans rfl⟩ (fun hHeld => ?_)
  clear hK K
  refine norm_ (a' := ?_) ?_ ?_
  rotate_left
  · show Act.put _ (some 9) _ = _
    simp only [Act.put, List.setIfInBounds_toArray, List.set_cons_zero, List.set_cons_succ, i64_w, i32_w]
    rfl
  refine one_ (i := 9) (N := some 14) #[true, true, true, true, true, true, true, true, true, true, false, false, false, false] rfl rfl (one_of HT_.out (by kernel_rfl)) (by decide) (fun K hK => ?_)
  refine goes_ Try.func34 (by kernel_rfl) rfl #[.int .i64 a0_1, .int .i64 a1_1] (by rfl) rfl rfl (by (try simp only [List.map_toArray, List.map_cons, List.map_nil]); first | done | rfl | (simp only [List.length_drop, List.length_take]; rfl)) ?_
  with_reducible refine (cmp_Compare_int.calls a0_1 a1_1 t128 _ A4.out).mono ?_
  rintro e w' ⟨rfl, ⟨nd, rfl⟩⟩
  refine ⟨_, rfl, ?_⟩
  refine hK.out _ _ ⟨(blk_cell BK125.out 0).trans rfl, (blk_cell BK125.out 1).trans rfl, (blk_cell BK125.out 2).trans rfl, (blk_cell BK125.out 3).trans rfl, (blk_cell BK125.out 4).trans rfl, (blk_cell BK125.out 5).trans rfl, (blk_cell BK125.out 6).trans rfl, (blk_cell BK126.out 0).trans rfl, (blk_cell BK126.out 1).trans rfl, (blk_cell BK126.out 2).trans rfl, (blk_cell BK126.out 3).trans rfl, (blk_cell BK126.out 4).trans rfl, (blk_cell BK126.out 5).trans rfl, (blk_cell BK126.out 6).trans rfl⟩ (fun hHeld => ?_)
  clear hK K
  refine norm_ (a' := ?_) ?_ ?_
  rotate_left
  · show Act.put _ (some 14) _ = _
    simp only [Act.put, List.setIfInBounds_toArray, List.set_cons_zero, List.set_cons_succ, i64_w, i32_w]
    rfl
  refine one_ (i := 10) (N := some 15) #[true, true, true, true, true, true, true, true, true, true, true, false, false, false] rfl rfl (one_of HT_.out (by kernel_rfl)) (by decide) (fun K hK => ?_)
  refine Kd.R_lit_step (Kd.int .i64) _ 3 ?hg (N := 15) ?hd (xs := ([t127, t128] : List Int)) (inner := [.int .i64 t127, .int .i64 t128]) (ok := fun _ => True) (okp := fun _ => True) ?hr ?hp (fun _ hk => hk) trivial (Below.refl _ _) (Nat.le_refl _) (by simp) ?_; (case hd => rfl); (case hg => rfl); (case hr => first | (go_simp; done) | (go_simp; rfl)); (case hp => exact (Reps.one (show Kd.M (Kd.int .i64) _ _ _ t127 [.int .i64 t127] from rfl) (Reps.one (show Kd.M (Kd.int .i64) _ _ _ t128 [.int .i64 t128] from rfl) (Reps.none _ _))))
  intro v130 w9 ho10 hb hg_ hnew_
  clear hg_ hnew_
  (first | rw [← Ny129.out] at ho10 | (simp only [Int.reduceToNat] at ho10; rw [← Ny129.out] at ho10))
  have n0_ := Aside0.mk (Kd.R_lower ho10 (below_size (by repeat (first | (with_reducible first | exact HB.out | apply below_alloc | apply pw_below_drewN | apply below_drew1 | refine below_set ?_ GE125.out | refine below_set ?_ GE126.out) | exact HB.out))))
  have n1_ := Aside0.mk (blk_below (g := gb125) (o := .cells #[.int .i64 a0_0, .int .i64 a0_1, .int .i64 a0_2, .int .i64 a0_3, .int .i64 a0_4, .int .i64 a0_5, .int .i64 a0_6] 43 (0, 0)) (by (with_reducible repeat (first | refine blk_drewN ?_ _ | refine blk_drew ?_ | refine blk_alloc ?_ _)); exact BK125.out) hb)
  have n2_ := Aside0.mk (blk_below (g := gb126) (o := .cells #[.int .i64 a1_0, .int .i64 a1_1, .int .i64 a1_2, .int .i64 a1_3, .int .i64 a1_4, .int .i64 a1_5, .int .i64 a1_6] 43 (0, 0)) (by (with_reducible repeat (first | refine blk_drewN ?_ _ | refine blk_drew ?_ | refine blk_alloc ?_ _)); exact BK126.out) hb)
  have n3_ := Aside0.mk (below_step (by repeat (first | (with_reducible first | exact HB.out | apply below_alloc | apply pw_below_drewN | apply below_drew1 | refine below_set ?_ GE125.out | refine below_set ?_ GE126.out) | exact HB.out)) hb)
  clear BK125
  clear BK126
  clear HB
  have HO131 := n0_
  have BK125 := n1_
  have BK126 := n2_
  have HB := n3_
  clear n0_ n1_ n2_ n3_
  clear hb ho10
  obtain ⟨Ao11, co11, eo11⟩ := Kd.R_slice HO131.out
  (first | subst eo11 | (injection eo11 with f1_ f2_ f3_; have f4_ := f1_.symm; have f5_ := f3_.symm; clear f1_ f2_ f3_; subst f4_; subst f5_))
  refine hK.out _ _ ⟨(blk_cell BK125.out 0).trans rfl, (blk_cell BK125.out 1).trans rfl, (blk_cell BK125.out 2).trans rfl, (blk_cell BK125.out 3).trans rfl, (blk_cell BK125.out 4).trans rfl, (blk_cell BK125.out 5).trans rfl, (blk_cell BK125.out 6).trans rfl, (blk_cell BK126.out 0).trans rfl, (blk_cell BK126.out 1).trans rfl, (blk_cell BK126.out 2).trans rfl, (blk_cell BK126.out 3).trans rfl, (blk_cell BK126.out 4).trans rfl, (blk_cell BK126.out 5).trans rfl, (blk_cell BK126.out 6).trans rfl⟩ (fun hHeld => ?_)
  clear hK K
  refine norm_ (a' := ?_) ?_ ?_
  rotate_left
  · show Act.put _ (some 15) _ = _
    simp only [Act.put, List.setIfInBounds_toArray, List.set_cons_zero, List.set_cons_succ, i64_w, i32_w]
    rfl
  refine one_ (i := 11) (N := some 16) #[true, true, true, true, true, true, true, true, true, true, true, true, false, false] rfl rfl (one_of HT_.out (by kernel_rfl)) (by decide) (fun K hK => ?_)
  refine goes_ Try.func33 (by kernel_rfl) rfl #[.slice Ao11 y129.length co11] (by rfl) rfl rfl (by (try simp only [List.map_toArray, List.map_cons, List.map_nil]); first | done | rfl | (simp only [List.length_drop, List.length_take]; rfl)) ?_
  with_reducible refine (cmp_Or_int.calls k _ _ y129 t132 _ ?side1 ?side2 A5.out).mono ?_
  (case side1 => repeat (first | exact (Kd.R_reads' HO131.out).2.2 | (with_reducible refine Kd.C_alloc ?_ _) | (with_reducible refine Kd.C_drewN ?_ _) | (with_reducible refine Kd.C_drew ?_)))
  (case side2 => exact (Kd.R_reads' HO131.out).2.1)
  rintro e w' ⟨rfl, ⟨nd, rfl⟩⟩
  refine ⟨_, rfl, ?_⟩
  refine hK.out _ _ ⟨(blk_cell BK125.out 0).trans rfl, (blk_cell BK125.out 1).trans rfl, (blk_cell BK125.out 2).trans rfl, (blk_cell BK125.out 3).trans rfl, (blk_cell BK125.out 4).trans rfl, (blk_cell BK125.out 5).trans rfl, (blk_cell BK125.out 6).trans rfl, (blk_cell BK126.out 0).trans rfl, (blk_cell BK126.out 1).trans rfl, (blk_cell BK126.out 2).trans rfl, (blk_cell BK126.out 3).trans rfl, (blk_cell BK126.out 4).trans rfl, (blk_cell BK126.out 5).trans rfl, (blk_cell BK126.out 6).trans rfl⟩ (fun hHeld => ?_)
  clear hK K
  refine norm_ (a' := ?_) ?_ ?_
  rotate_left
  · show Act.put _ (some 16) _ = _
    simp only [Act.put, List.setIfInBounds_toArray, List.set_cons_zero, List.set_cons_succ, i64_w, i32_w]
    rfl
  refine pure_ (i := 12) (N := some 17) (v := ?_) (a' := ?_) #[true, true, true, true, true, true, true, true, true, true, true, true, true, false] rfl rfl (any_of HT_.out (by kernel_rfl)) (fun _ _ _ h => h) (Or.inl ⟨by rfl, ?_⟩) ?_ ?_
  rotate_left
  · intro w'
    go_simp
    with_reducible rfl
  rotate_left
  · simp only [Act.put, List.setIfInBounds_toArray, List.set_cons_zero, List.set_cons_succ, i64_w, i32_w]
    rfl
  refine pure_ (i := 13) (N := some 4) (v := ?_) (a' := ?_) #[true, true, true, true, true, true, true, true, true, true, true, true, true, true] rfl rfl (any_of HT_.out (by kernel_rfl)) (fun _ _ _ h => h) (Or.inl ⟨by rfl, ?_⟩) ?_ ?_
  rotate_left
  · intro w'
    go_simp
    with_reducible rfl
  rotate_left
  · simp only [Act.put, List.setIfInBounds_toArray, List.set_cons_zero, List.set_cons_succ, i64_w, i32_w]
    rfl
  refine done_ (done_of HT_.out (by kernel_rfl)) ?_
  try go_wp2
  go_ret
  exact ⟨by first | rfl | (simp [errW_none, errW_some] <;> rfl) | (simp [*, errW_none, errW_some] <;> rfl), by repeat (first | (with_reducible first | exact HB.out | apply below_alloc | apply pw_below_drewN | apply below_drew1 | refine below_set ?_ GE125.out | refine below_set ?_ GE126.out) | exact HB.out)⟩

/-! ### staff_end: function 22 -/
def staff_end.f (a0_0 : Int) (a0_1 : Int) (a0_2 : Int) (a0_3 : Int) (a0_4 : Int) (a0_5 : Int) (a0_6 : Int) : Option (Int) := some (wrap64 (a0_2 + a0_3))
set_option maxHeartbeats 8000000 in
set_option maxRecDepth 100000 in
theorem staff_end.calls (a0_0 : Int) (a0_1 : Int) (a0_2 : Int) (a0_3 : Int) (a0_4 : Int) (a0_5 : Int) (a0_6 : Int) (r : Int) (w : World) (h : staff_end.f a0_0 a0_1 a0_2 a0_3 a0_4 a0_5 a0_6 = some r) :
    Calls Try.prog 22 #[.agg #[.int .i64 a0_0, .int .i64 a0_1, .int .i64 a0_2, .int .i64 a0_3, .int .i64 a0_4, .int .i64 a0_5, .int .i64 a0_6]] w fun e w' => e = .returned (.int .i64 r) ∧ Below w.heap.size w w' := by
  have hu43 := Try.underlying43
  have HB := Aside0.mk (Below.refl w.heap.size w)
  have H : (some (wrap64 (a0_2 + a0_3))) = some r := h
  clear h
  obtain rfl := Option.some.inj H
  go_enter Try.func22, Try.ntmps22
  go_wp2_with (first | ((with_reducible refine gate_dst (N := 1) rfl ?_); refine box_event ?hg (N := 1) ?hd (cs := #[.int .i64 a0_0, .int .i64 a0_1, .int .i64 a0_2, .int .i64 a0_3, .int .i64 a0_4, .int .i64 a0_5, .int .i64 a0_6]) (t := 43) ?hr ?_; (case hd => rfl); (case hg => rfl); (case hr => first | (go_simp; done) | (go_simp; rfl)); intro gb133 hg w2 hbox hb; have n0_ := Aside0.mk (below_step (by repeat (first | (with_reducible first | exact HB.out | apply below_alloc | apply pw_below_drewN | apply below_drew1) | exact HB.out)) hb); have n1_ := Aside0.mk (hbox); have n2_ := Aside0.mk ((by rw [hg]; exact (below_size (by repeat (first | (with_reducible first | exact HB.out | apply below_alloc | apply pw_below_drewN | apply below_drew1) | exact HB.out))) : w.heap.size ≤ gb133)); have n3_ := Aside0.mk ((by rw [hg]; exact (below_size (by repeat (first | (with_reducible first | exact HB.out | apply below_alloc | apply pw_below_drewN | apply below_drew1) | exact HB.out))) : w.heap.size ≤ gb133)); clear HB; have HB := n0_; have BK133 := n1_; have GW133 := n2_; have GE133 := n3_; clear n0_ n1_ n2_ n3_; clear hb hbox hg; have hcz3_0 : w2.cell? ⟨gb133, 0, none⟩ = some (.int .i64 a0_0) := (blk_cell BK133.out 0).trans rfl; have hcz3_1 : w2.cell? ⟨gb133, 1, none⟩ = some (.int .i64 a0_1) := (blk_cell BK133.out 1).trans rfl; have hcz3_2 : w2.cell? ⟨gb133, 2, none⟩ = some (.int .i64 a0_2) := (blk_cell BK133.out 2).trans rfl; have hcz3_3 : w2.cell? ⟨gb133, 3, none⟩ = some (.int .i64 a0_3) := (blk_cell BK133.out 3).trans rfl; have hcz3_4 : w2.cell? ⟨gb133, 4, none⟩ = some (.int .i64 a0_4) := (blk_cell BK133.out 4).trans rfl; have hcz3_5 : w2.cell? ⟨gb133, 5, none⟩ = some (.int .i64 a0_5) := (blk_cell BK133.out 5).trans rfl; have hcz3_6 : w2.cell? ⟨gb133, 6, none⟩ = some (.int .i64 a0_6) := (blk_cell BK133.out 6).trans rfl; have hfz3_0 := blk_frozen BK133.out 0; have hfz3_1 := blk_frozen BK133.out 1; have hfz3_2 := blk_frozen BK133.out 2; have hfz3_3 := blk_frozen BK133.out 3; have hfz3_4 := blk_frozen BK133.out 4; have hfz3_5 := blk_frozen BK133.out 5; have hfz3_6 := blk_frozen BK133.out 6))
  go_ret
  exact ⟨by first | rfl | (simp [errW_none, errW_some] <;> rfl) | (simp [*, errW_none, errW_some] <;> rfl), by repeat (first | (with_reducible first | exact HB.out | apply below_alloc | apply pw_below_drewN | apply below_drew1 | refine below_set ?_ GE133.out) | exact HB.out)⟩

/-! ### staff_Check: function 7 -/
theorem symbol_support_some (a : Int) : ∃ b, symbol_support.f a = some b := by unfold symbol_support.f; split <;> exact ⟨_, rfl⟩
theorem symbol_place_some (a b c d e f g : Int) : ∃ r, symbol_place.f a b c d e f g = some r := by
  obtain ⟨s, hs⟩ := symbol_support_some b
  unfold symbol_place.f; rw [hs]; simp only [Option.bind_some]
  repeat' split
  all_goals exact ⟨_, rfl⟩
theorem dir_valid_some (a : Int) : ∃ b, dir_valid.f a = some b := by unfold dir_valid.f; split <;> exact ⟨_, rfl⟩
theorem dir_Check_some (a b : Int) : ∃ r, dir_Check.f a b = some r := by
  obtain ⟨s, hs⟩ := dir_valid_some a
  unfold dir_Check.f; rw [hs]; simp only [Option.bind_some]
  repeat' split
  all_goals exact ⟨_, rfl⟩
theorem aim_known_some (a : Int) : ∃ b, aim_known.f a = some b := by unfold aim_known.f; split <;> exact ⟨_, rfl⟩
theorem dir_Eighth_some (a : Int) : ∃ r, dir_Eighth.f a = some r := by
  obtain ⟨s, hs⟩ := dir_valid_some a
  unfold dir_Eighth.f; rw [hs]; simp only [Option.bind_some]
  repeat' split
  all_goals exact ⟨_, rfl⟩
theorem aim_Of_some (a b c d : Int) : ∃ r, aim_Of.f a b c d = some r := by
  obtain ⟨s, hs⟩ := aim_known_some a
  obtain ⟨t, ht⟩ := dir_Check_some b c
  obtain ⟨u, hu⟩ := dir_Eighth_some b
  unfold aim_Of.f; rw [hs, ht, hu]; simp only [Option.bind_some]
  repeat' split
  all_goals exact ⟨_, rfl⟩
theorem symbol_says_some (a b c d e f g : Int) : ∃ r, symbol_says.f a b c d e f g = some r := by
  obtain ⟨t, ht⟩ := dir_Check_some e f
  obtain ⟨u, hu⟩ := aim_Of_some (wrap64 (b - 2)) e f g
  unfold symbol_says.f; rw [ht, hu]; simp only [Option.bind_some]
  repeat' split
  all_goals exact ⟨_, rfl⟩
theorem symbol_Check_some (a b c d e f g : Int) : ∃ r, symbol_Check.f a b c d e f g = some r := by
  obtain ⟨t, ht⟩ := symbol_place_some a b c d e f g
  obtain ⟨u, hu⟩ := symbol_says_some a b c d e f g
  unfold symbol_Check.f; rw [ht, hu]; simp only [Option.bind_some]
  repeat' split
  all_goals exact ⟨_, rfl⟩
/-- What symbol.Check says of a symbol. -/
def sE (x : S43) : Int := (symbol_Check.f x.f0 x.f1 x.f2 x.f3 x.f4 x.f5 x.f6).getD 0
theorem sE_some (x : S43) : symbol_Check.f x.f0 x.f1 x.f2 x.f3 x.f4 x.f5 x.f6 = some (sE x) := by
  obtain ⟨r, hr⟩ := symbol_Check_some x.f0 x.f1 x.f2 x.f3 x.f4 x.f5 x.f6
  unfold sE; rw [hr]; rfl
theorem sE_ok {x : S43} (h : sE x = 0) : 1 ≤ x.f0 ∧ x.f0 ≤ 4 ∧ 0 ≤ x.f1 ∧ x.f1 ≤ 8 ∧ 0 ≤ x.f2 ∧ x.f2 ≤ 8191 ∧ 1 ≤ x.f3 ∧ x.f2 + x.f3 ≤ 8192 := by
  have hs := sE_some x
  rw [h] at hs
  unfold symbol_Check.f at hs
  by_cases c0 : x.f0 < 1
  · rw [if_pos c0] at hs; simp at hs
  rw [if_neg c0] at hs
  by_cases c1 : x.f0 > 4
  · rw [if_pos c1] at hs; simp at hs
  rw [if_neg c1] at hs
  obtain ⟨t, ht⟩ := symbol_place_some x.f0 x.f1 x.f2 x.f3 x.f4 x.f5 x.f6
  rw [ht] at hs; simp only [Option.bind_some] at hs
  by_cases c2 : t = true
  · subst c2
    rw [if_pos rfl] at hs
    by_cases c3 : x.f2 < 0
    · rw [if_pos c3] at hs; simp at hs
    rw [if_neg c3] at hs
    by_cases c4 : x.f2 ≥ 8192
    · rw [if_pos c4] at hs; simp at hs
    rw [if_neg c4] at hs
    by_cases c5 : x.f3 < 1
    · rw [if_pos c5] at hs; simp at hs
    rw [if_neg c5] at hs
    have hw : wrap64 (8192 - x.f2) = 8192 - x.f2 := by unfold wrap64; omega
    rw [hw] at hs
    by_cases c6 : x.f3 > 8192 - x.f2
    · rw [if_pos c6] at hs; simp at hs
    have hp : 0 ≤ x.f1 ∧ x.f1 ≤ 8 := by
      unfold symbol_place.f symbol_support.f at ht
      repeat' split at ht
      all_goals simp at ht
      all_goals omega
    omega
  · rw [if_neg c2] at hs; simp at hs
/-- symbol.Less. -/
def sL (x y : S43) : Bool := decide (x.f2 < y.f2) || (decide (x.f2 = y.f2) && decide (x.f1 < y.f1))
theorem cmp_eq (a b : Int) : cmp_Compare_int.f a b = some (if a < b then -1 else if a > b then 1 else 0) := by
  unfold cmp_Compare_int.f cmp_isNaN_int.f
  simp only [Option.bind_some, bne_self_eq_false, Bool.false_eq_true, if_false]
  repeat' split
  all_goals rfl
theorem or_eq (a b : Int) : cmp_Or_int.f 5 [a, b] = some (if a = 0 then b else a) := by
  by_cases h : a = 0
  · subst h
    by_cases h2 : b = 0
    · subst h2; decide +kernel
    · unfold cmp_Or_int.f
      simp only [cmp_Or_int.l0, List.length_cons, List.length_nil]
      simp [rd, wrap64, h2]
  · unfold cmp_Or_int.f
    simp only [cmp_Or_int.l0, List.length_cons, List.length_nil]
    simp [rd, h]
theorem sL_some (x y : S43) : symbol_Less.f 5 x.f0 x.f1 x.f2 x.f3 x.f4 x.f5 x.f6 y.f0 y.f1 y.f2 y.f3 y.f4 y.f5 y.f6 = some (sL x y) := by
  unfold symbol_Less.f
  rw [cmp_eq, cmp_eq]; simp only [Option.bind_some]
  rw [or_eq]; simp only [Option.bind_some, sL]
  congr 1
  repeat' split
  all_goals simp
  all_goals omega

/-- The places of the columns behind the symbols so far; what the last loop comes to. -/
def ov : List S43 → Int → List Int → Int
  | [], _, _ => 0
  | x :: l, n, ends => if x.f2 + x.f3 > n then 1 else if rd ends x.f1 > x.f2 then 17 else ov l n (ends.set x.f1.toNat (x.f2 + x.f3))
def chkOrd : List S43 → Bool
  | x :: y :: l => sL x y && chkOrd (y :: l)
  | _ => true
def firstE : List S43 → Int
  | [] => 0
  | x :: l => if sE x = 0 then firstE l else sE x
/-- staff.Check. -/
def sChk (l : List S43) (n : Int) : Int :=
  if n < 1 then 1 else if n > 8192 then 1 else if (l.length : Int) > 256 then 3 else
  if firstE l = 0 then (if chkOrd l = true then ov l n [0, 0, 0, 0, 0, 0, 0, 0, 0] else 5) else firstE l
theorem firstE_drop (l : List S43) (i : Nat) (h : i < l.length) : firstE (l.drop i) = if sE (l[i]) = 0 then firstE (l.drop (i + 1)) else sE (l[i]) := by
  rw [List.drop_eq_getElem_cons h]; rfl
theorem rdS (l : List S43) (i : Int) (h0 : 0 ≤ i) (h1 : i < l.length) : rd_T43 l i = l[i.toNat]'(by omega) := by
  have hl : i.toNat < l.length := by omega
  simp [rd_T43, List.getD_eq_getElem?_getD, List.getElem?_eq_getElem hl]
theorem firstE_step (l : List S43) (i : Int) (h0 : 0 ≤ i) (h1 : i < l.length) : firstE (l.drop i.toNat) = if sE (rd_T43 l i) = 0 then firstE (l.drop (i + 1).toNat) else sE (rd_T43 l i) := by
  have e : (i + 1).toNat = i.toNat + 1 := by omega
  rw [e, rdS l i h0 h1, firstE_drop]
theorem chkOrd_step (l : List S43) (i : Int) (h0 : 1 ≤ i) (h1 : i < l.length) : chkOrd (l.drop (i - 1).toNat) = (sL (rd_T43 l (i - 1)) (rd_T43 l i) && chkOrd (l.drop i.toNat)) := by
  rw [rdS l i (by omega) h1, rdS l (i - 1) (by omega) (by omega)]
  have e : i.toNat = (i - 1).toNat + 1 := by omega
  have hl : i.toNat < l.length := by omega
  rw [List.drop_eq_getElem_cons (show (i - 1).toNat < l.length by omega), ← e, List.drop_eq_getElem_cons hl]
  rfl
theorem chkOrd_end (l : List S43) (i : Int) (h0 : 1 ≤ i) (h1 : l.length ≤ i) : chkOrd (l.drop (i - 1).toNat) = true := by
  rcases Nat.lt_or_ge (i - 1).toNat l.length with h | h
  · rw [List.drop_eq_getElem_cons h, List.drop_of_length_le (by omega)]; rfl
  · rw [List.drop_of_length_le h]; rfl
theorem ov_step (l : List S43) (n : Int) (ends : List Int) (i : Int) (h0 : 0 ≤ i) (h1 : i < l.length) : ov (l.drop i.toNat) n ends = if (rd_T43 l i).f2 + (rd_T43 l i).f3 > n then 1 else if rd ends (rd_T43 l i).f1 > (rd_T43 l i).f2 then 17 else ov (l.drop (i + 1).toNat) n (ends.set (rd_T43 l i).f1.toNat ((rd_T43 l i).f2 + (rd_T43 l i).f3)) := by
  have e : (i + 1).toNat = i.toNat + 1 := by omega
  rw [e, rdS l i h0 h1, List.drop_eq_getElem_cons (by omega)]; rfl
theorem firstE_all {l : List S43} (h : firstE l = 0) : ∀ x ∈ l, sE x = 0 := by
  induction l with
  | nil => simp
  | cons y l ih =>
    unfold firstE at h
    by_cases hy : sE y = 0
    · rw [if_pos hy] at h
      intro x hx
      rcases List.mem_cons.1 hx with rfl | hx
      · exact hy
      · exact ih h x hx
    · rw [if_neg hy] at h; exact absurd h hy
def staff_Check.f (l0 : List S43) (a1 : Int) : Option Int := some (sChk l0 a1)
set_option maxHeartbeats 4000000 in
set_option maxRecDepth 100000 in
theorem staff_Check.calls (A0 : Option Addr) (c0 : Nat) (l0 : List (S43)) (a1 : Int) (r : Int) (w : World) (hr0 : Kd.C k43 w A0 l0.length l0) (hc0 : l0.length ≤ c0) (h : staff_Check.f l0 a1 = some r) :
    Calls Try.prog 7 #[.slice A0 l0.length c0, .int .i64 a1] w fun e w' => e = .returned (.int .i64 r) ∧ Below w.heap.size w w' := by
  have hu43 := Try.underlying43
  have hu53 := Try.underlying53
  have HR0 := Aside0.mk hr0
  have HC0 := Aside0.mk hc0
  clear hr0 hc0
  have HB := Aside0.mk (Below.refl w.heap.size w)
  obtain rfl : sChk l0 a1 = r := Option.some.inj h
  clear h
  by_cases c1 : a1 < 1
  · have HF : Aside0 (sChk l0 a1 = 1) := ⟨by unfold sChk; rw [if_pos c1]⟩
    have c1b : decide (a1 < 1) = true := decide_eq_true c1
    clear c1
    go_enter Try.func7, Try.ntmps7
    go_wp2
    go_step3
    go_wp2
    rw [Exit.noGoto_ret]
    go_ret
    exact ⟨by rw [HF.out]; rfl, HB.out⟩
  have c1b : decide (a1 < 1) = false := decide_eq_false c1
  by_cases c2 : a1 > 8192
  · have HF : Aside0 (sChk l0 a1 = 1) := ⟨by unfold sChk; rw [if_neg c1, if_pos c2]⟩
    have c2b : decide (8192 < a1) = true := decide_eq_true c2
    clear c1 c2
    go_enter Try.func7, Try.ntmps7
    go_wp2
    go_step3
    go_wp2
    rw [Exit.noGoto_ret]
    go_ret
    exact ⟨by rw [HF.out]; rfl, HB.out⟩
  have c2b : decide (8192 < a1) = false := decide_eq_false c2
  by_cases c3 : (l0.length : Int) > 256
  · have HF : Aside0 (sChk l0 a1 = 3) := ⟨by unfold sChk; rw [if_neg c1, if_neg c2, if_pos c3]⟩
    have c3b : decide (256 < (l0.length : Int)) = true := decide_eq_true c3
    have c3c : decide (256 < l0.length) = true := decide_eq_true (by omega)
    clear c1 c2 c3
    go_enter Try.func7, Try.ntmps7
    go_wp2
    go_step3
    go_wp2
    rw [Exit.noGoto_ret]
    go_ret
    exact ⟨by rw [HF.out]; rfl, HB.out⟩
  have c3b : decide (256 < (l0.length : Int)) = false := decide_eq_false c3
  have c3c : decide (256 < l0.length) = false := decide_eq_false (by omega)
  have HF : Aside0 (sChk l0 a1 = if firstE l0 = 0 then (if chkOrd l0 = true then ov l0 a1 [0, 0, 0, 0, 0, 0, 0, 0, 0] else 5) else firstE l0) := ⟨by unfold sChk; rw [if_neg c1, if_neg c2, if_neg c3]⟩
  have b1 : 1 ≤ a1 := by omega
  have b2 : a1 ≤ 8192 := by omega
  have b3 : (l0.length : Int) ≤ 256 := by omega
  clear c1 c2 c3
  go_enter Try.func7, Try.ntmps7
  go_wp2
  go_step3
  go_wp2
  go_loopw [24] (fun v24 w' => ∃ (i : Int), 0 ≤ i ∧ i ≤ (l0.length : Int) ∧ v24 = .int .i64 i ∧ Aside0 (firstE l0 = firstE (l0.drop i.toNat)) ∧ Aside0 (Below w.heap.size w w')) (fun v24 _ => l0.length - (intOf v24).toNat)
  case atStart => exact ⟨0, by omega, by omega, rfl, ⟨rfl⟩, HB⟩
  case round =>
    clear HB
    obtain ⟨i, hi0, hi1, rfl, HE, HB⟩ := hrel
    by_cases c3 : i < (l0.length : Int)
    · have c3b0 : decide (i < (l0.length : Int)) = true := decide_eq_true c3
      obtain ⟨ad, e0, hx0, hx1, hx2, hx3, hx4, hx5, hx6⟩ := at_T43 HR0.out i hi0 c3
      cases e0
      replace hx0 := (HB.out.cell (World.block_lt_of_cell? w _ hx0)).trans hx0
      replace hx1 := (HB.out.cell (World.block_lt_of_cell? w _ hx1)).trans hx1
      replace hx2 := (HB.out.cell (World.block_lt_of_cell? w _ hx2)).trans hx2
      replace hx3 := (HB.out.cell (World.block_lt_of_cell? w _ hx3)).trans hx3
      replace hx4 := (HB.out.cell (World.block_lt_of_cell? w _ hx4)).trans hx4
      replace hx5 := (HB.out.cell (World.block_lt_of_cell? w _ hx5)).trans hx5
      replace hx6 := (HB.out.cell (World.block_lt_of_cell? w _ hx6)).trans hx6
      have HS := Aside0.mk (firstE_step l0 i hi0 c3)
      by_cases cE : sE (rd_T43 l0 i) = 0
      · have HS2 : Aside0 (firstE l0 = firstE (l0.drop (i + 1).toNat)) := ⟨by rw [HE.out, HS.out, if_pos cE]⟩
        have hcall := sE_some (rd_T43 l0 i)
        rw [cE] at hcall
        have HCALL := Aside0.mk hcall
        clear hcall cE HS
        go_wp2_with (go_at_call 20; refine (symbol_Check.calls _ _ _ _ _ _ _ _ _ HCALL.out).mono ?_; rintro e w1 ⟨rfl, hb⟩; have HB2 := Aside0.mk (below_step (below_alloc HB.out _) hb); clear hb)
        go_roundw
        case rel => exact ⟨i + 1, by omega, by omega, rfl, HS2, HB2⟩
        case measure => simp [intOf]; omega
      · have HS2 : Aside0 (sChk l0 a1 = sE (rd_T43 l0 i)) := ⟨by
          have h1 : firstE l0 = sE (rd_T43 l0 i) := by rw [HE.out, HS.out, if_neg cE]
          rw [HF.out, h1, if_neg cE]⟩
        have HCALL := Aside0.mk (sE_some (rd_T43 l0 i))
        have cE1 : (sE (rd_T43 l0 i) == 0) = false := by simpa using cE
        have cE2 : (sE (rd_T43 l0 i) != 0) = true := by simpa using cE
        clear cE HS
        go_wp2_with (go_at_call 20; refine (symbol_Check.calls _ _ _ _ _ _ _ _ _ HCALL.out).mono ?_; rintro e w1 ⟨rfl, hb⟩; have HB2 := Aside0.mk (below_step (below_alloc HB.out _) hb); clear hb)
        rw [Exit.noGoto_ret]
        go_ret
        exact ⟨by rw [HS2.out]; rfl, HB2.out⟩
    · have c3b0 : decide (i < (l0.length : Int)) = false := decide_eq_false c3
      have HE0 : Aside0 (firstE l0 = 0) := ⟨by rw [HE.out, List.drop_of_length_le (by omega)]; rfl⟩
      have HF2 : Aside0 (sChk l0 a1 = if chkOrd l0 = true then ov l0 a1 [0, 0, 0, 0, 0, 0, 0, 0, 0] else 5) := ⟨by rw [HF.out, if_pos HE0.out]⟩
      clear HE HF c3
      go_wp2
      obtain ⟨wo, rfl⟩ : ∃ wo : World, wo = wr := ⟨_, rfl⟩
      go_loopw [8] (fun v8 w' => ∃ (i : Int), 1 ≤ i ∧ i ≤ 300 ∧ v8 = .int .i64 i ∧ Aside0 (chkOrd l0 = chkOrd (l0.drop (i - 1).toNat)) ∧ Aside0 (Below w.heap.size w w')) (fun v8 _ => 300 - (intOf v8).toNat)
      case atStart => exact ⟨1, by omega, by omega, rfl, ⟨rfl⟩, HB⟩
      case round =>
        clear HB
        obtain ⟨i, hi0, hi1, rfl, HE, HB⟩ := hrel
        by_cases c3 : i < (l0.length : Int)
        · have c3b0 : decide (i < (l0.length : Int)) = true := decide_eq_true c3
          obtain ⟨j, hj⟩ : ∃ j : Int, j = i - 1 := ⟨_, rfl⟩
          have hj0 : 0 ≤ j := by omega
          have hj1 : j < (l0.length : Int) := by omega
          have HS := Aside0.mk (chkOrd_step l0 i hi0 c3)
          rw [← hj] at HS
          have hk0 : 0 ≤ i := by omega
          obtain ⟨ad, e0, hx0, hx1, hx2, hx3, hx4, hx5, hx6⟩ := at_T43 HR0.out j hj0 hj1
          cases e0
          obtain ⟨ad', e0, hy0, hy1, hy2, hy3, hy4, hy5, hy6⟩ := at_T43 HR0.out i hk0 c3
          cases e0
          replace hx0 := (HB.out.cell (World.block_lt_of_cell? w _ hx0)).trans hx0
          replace hx1 := (HB.out.cell (World.block_lt_of_cell? w _ hx1)).trans hx1
          replace hx2 := (HB.out.cell (World.block_lt_of_cell? w _ hx2)).trans hx2
          replace hx3 := (HB.out.cell (World.block_lt_of_cell? w _ hx3)).trans hx3
          replace hx4 := (HB.out.cell (World.block_lt_of_cell? w _ hx4)).trans hx4
          replace hx5 := (HB.out.cell (World.block_lt_of_cell? w _ hx5)).trans hx5
          replace hx6 := (HB.out.cell (World.block_lt_of_cell? w _ hx6)).trans hx6
          replace hy0 := (HB.out.cell (World.block_lt_of_cell? w _ hy0)).trans hy0
          replace hy1 := (HB.out.cell (World.block_lt_of_cell? w _ hy1)).trans hy1
          replace hy2 := (HB.out.cell (World.block_lt_of_cell? w _ hy2)).trans hy2
          replace hy3 := (HB.out.cell (World.block_lt_of_cell? w _ hy3)).trans hy3
          replace hy4 := (HB.out.cell (World.block_lt_of_cell? w _ hy4)).trans hy4
          replace hy5 := (HB.out.cell (World.block_lt_of_cell? w _ hy5)).trans hy5
          replace hy6 := (HB.out.cell (World.block_lt_of_cell? w _ hy6)).trans hy6
          have hq0 := eq_true hj0
          have hq1 := eq_true hj1
          have hq2 := eq_true hk0
          have hq3 := eq_true c3
          have hwr : IntKind.i64.wrap (i - 1) = j := by rw [hj]; exact IntWalk.i64_in _ (by omega)
          rw [← hj] at HE
          clear hj
          cases hL : sL (rd_T43 l0 j) (rd_T43 l0 i) with
          | true =>
            have HS2 : Aside0 (chkOrd l0 = chkOrd (l0.drop (i + 1 - 1).toNat)) := ⟨by rw [HE.out, HS.out, hL, Bool.true_and, Int.add_sub_cancel]⟩
            have hcall := sL_some (rd_T43 l0 j) (rd_T43 l0 i)
            rw [hL] at hcall
            have HCALL := Aside0.mk hcall
            clear hcall hL HS
            go_wp2
            go_region_with (go_at_call 21; refine (symbol_Less.calls 5 _ _ _ _ _ _ _ _ _ _ _ _ _ _ _ _ HCALL.out).mono ?_; rintro e w1 ⟨rfl, hb⟩; have HB2 := Aside0.mk (below_step (by first | exact HB.out | exact below_drew HB.out) hb); clear hb)
            all_goals
              go_wp2
              go_roundw
              case rel => exact ⟨i + 1, by omega, by omega, rfl, HS2, HB2⟩
              case measure => simp [intOf]; omega
          | false =>
            have HS2 : Aside0 (sChk l0 a1 = 5) := ⟨by rw [HF2.out, HE.out, HS.out, hL, Bool.false_and]; rfl⟩
            have hcall := sL_some (rd_T43 l0 j) (rd_T43 l0 i)
            rw [hL] at hcall
            have HCALL := Aside0.mk hcall
            clear hcall hL HS
            go_wp2
            go_region_with (go_at_call 21; refine (symbol_Less.calls 5 _ _ _ _ _ _ _ _ _ _ _ _ _ _ _ _ HCALL.out).mono ?_; rintro e w1 ⟨rfl, hb⟩; have HB2 := Aside0.mk (below_step (by first | exact HB.out | exact below_drew HB.out) hb); clear hb)
            all_goals
              go_wp2
              rw [Exit.noGoto_ret]
              go_ret
              exact ⟨by rw [HS2.out]; rfl, HB2.out⟩
        · have c3b0 : decide (i < (l0.length : Int)) = false := decide_eq_false c3
          have HO0 : Aside0 (chkOrd l0 = true) := ⟨by rw [HE.out]; exact chkOrd_end l0 i hi0 (by omega)⟩
          have HF3 : Aside0 (sChk l0 a1 = ov l0 a1 [0, 0, 0, 0, 0, 0, 0, 0, 0]) := ⟨by rw [HF2.out, if_pos HO0.out]⟩
          have HALL := Aside0.mk (firstE_all HE0.out)
          clear HE HF2 HO0 HE0 c3
          go_wp2
          go_step3
          go_wp2
          obtain ⟨wp, rfl⟩ : ∃ wp : World, wp = wr := ⟨_, rfl⟩
          have hle : w.heap.size ≤ wp.heap.size := HB.out.size
          have HO : Aside0 ((wp.alloc (Obj.cells #[Value.int IntKind.i64 0, Value.int IntKind.i64 0, Value.int IntKind.i64 0, Value.int IntKind.i64 0, Value.int IntKind.i64 0, Value.int IntKind.i64 0, Value.int IntKind.i64 0, Value.int IntKind.i64 0, Value.int IntKind.i64 0] 53)).ownsRow w.heap.size 53 1 (.slice (some ⟨wp.heap.size, 0, none⟩) 9 9) 9 (nums .i64 [0, 0, 0, 0, 0, 0, 0, 0, 0])) := ⟨own_lit wp w.heap.size 53 .i64 [0, 0, 0, 0, 0, 0, 0, 0, 0] hle (by decide)⟩
          have HB1 := Aside0.mk (below_alloc HB.out (Obj.cells #[Value.int IntKind.i64 0, Value.int IntKind.i64 0, Value.int IntKind.i64 0, Value.int IntKind.i64 0, Value.int IntKind.i64 0, Value.int IntKind.i64 0, Value.int IntKind.i64 0, Value.int IntKind.i64 0, Value.int IntKind.i64 0] 53))
          go_loopw [10, 53] (fun v10 v53 w' => ∃ (i : Int) (ends : List Int), 0 ≤ i ∧ i ≤ (l0.length : Int) ∧ v10 = .int .i64 0 ∧ v53 = .int .i64 i ∧ Aside0 (ends.length = 9) ∧ Aside0 (sChk l0 a1 = ov (l0.drop i.toNat) a1 ends) ∧ Aside0 (w'.ownsRow w.heap.size 53 1 (.slice (some ⟨wp.heap.size, 0, none⟩) 9 9) 9 (nums .i64 ends)) ∧ Aside0 (Below w.heap.size w w')) (fun _ v53 _ => l0.length - (intOf v53).toNat)
          case atStart => exact ⟨0, [0, 0, 0, 0, 0, 0, 0, 0, 0], by omega, by omega, rfl, rfl, ⟨rfl⟩, HF3, HO, HB1⟩
          case round =>
            clear HB HB1 HO
            obtain ⟨i, ends, hi0, hi1, rfl, rfl, HN, HE, HO, HB⟩ := hrel
            by_cases c3 : i < (l0.length : Int)
            · have c3b0 : decide (i < (l0.length : Int)) = true := decide_eq_true c3
              obtain ⟨ad, e0, hx0, hx1, hx2, hx3, hx4, hx5, hx6⟩ := at_T43 HR0.out i hi0 c3
              cases e0
              replace hx0 := (HB.out.cell (World.block_lt_of_cell? w _ hx0)).trans hx0
              replace hx1 := (HB.out.cell (World.block_lt_of_cell? w _ hx1)).trans hx1
              replace hx2 := (HB.out.cell (World.block_lt_of_cell? w _ hx2)).trans hx2
              replace hx3 := (HB.out.cell (World.block_lt_of_cell? w _ hx3)).trans hx3
              replace hx4 := (HB.out.cell (World.block_lt_of_cell? w _ hx4)).trans hx4
              replace hx5 := (HB.out.cell (World.block_lt_of_cell? w _ hx5)).trans hx5
              replace hx6 := (HB.out.cell (World.block_lt_of_cell? w _ hx6)).trans hx6
              have HS := Aside0.mk (ov_step l0 a1 ends i hi0 c3)
              obtain ⟨_, _, d0, d1, d2, d3, d4, d5⟩ := sE_ok (HALL.out (rd_T43 l0 i) (by rw [rdS l0 i hi0 c3]; exact List.getElem_mem _))
              have HEND : Aside0 (staff_end.f (rd_T43 l0 i).f0 (rd_T43 l0 i).f1 (rd_T43 l0 i).f2 (rd_T43 l0 i).f3 (rd_T43 l0 i).f4 (rd_T43 l0 i).f5 (rd_T43 l0 i).f6 = some ((rd_T43 l0 i).f2 + (rd_T43 l0 i).f3)) := ⟨by unfold staff_end.f wrap64; congr 1; omega⟩
              by_cases cA : (rd_T43 l0 i).f2 + (rd_T43 l0 i).f3 > a1
              · have HS2 : Aside0 (sChk l0 a1 = 1) := ⟨by rw [HE.out, HS.out, if_pos cA]⟩
                have cAb : decide (a1 < (rd_T43 l0 i).f2 + (rd_T43 l0 i).f3) = true := decide_eq_true cA
                clear HS cA
                go_wp2_with (go_at_call 22; refine (staff_end.calls _ _ _ _ _ _ _ _ _ HEND.out).mono ?_; rintro e w1 ⟨rfl, hb⟩; have HB2 := Aside0.mk (below_step (below_alloc HB.out _) hb); clear hb)
                rw [Exit.noGoto_ret]
                go_ret
                exact ⟨by rw [HS2.out]; rfl, HB2.out⟩
              · have cAb : decide (a1 < (rd_T43 l0 i).f2 + (rd_T43 l0 i).f3) = false := decide_eq_false cA
                go_wp2_with (go_at_call 22; refine (staff_end.calls _ _ _ _ _ _ _ _ _ HEND.out).mono ?_; rintro e w1 ⟨rfl, hb⟩; have HB2 := Aside0.mk (below_step (below_alloc HB.out _) hb); have HO2 := Aside0.mk (pw_own_below (HO.out.alloc _) hb); have BK := Aside0.mk (blk_below (heap_alloc_new wr _) hb); have hcx0 : w1.cell? ⟨wr.heap.size, 0, none⟩ = some (.int .i64 (rd_T43 l0 i).f0) := (blk_cell BK.out 0).trans rfl; have hcx1 : w1.cell? ⟨wr.heap.size, 1, none⟩ = some (.int .i64 (rd_T43 l0 i).f1) := (blk_cell BK.out 1).trans rfl; have hcx2 : w1.cell? ⟨wr.heap.size, 2, none⟩ = some (.int .i64 (rd_T43 l0 i).f2) := (blk_cell BK.out 2).trans rfl; have hcx3 : w1.cell? ⟨wr.heap.size, 3, none⟩ = some (.int .i64 (rd_T43 l0 i).f3) := (blk_cell BK.out 3).trans rfl; have hcx4 : w1.cell? ⟨wr.heap.size, 4, none⟩ = some (.int .i64 (rd_T43 l0 i).f4) := (blk_cell BK.out 4).trans rfl; have hcx5 : w1.cell? ⟨wr.heap.size, 5, none⟩ = some (.int .i64 (rd_T43 l0 i).f5) := (blk_cell BK.out 5).trans rfl; have hcx6 : w1.cell? ⟨wr.heap.size, 6, none⟩ = some (.int .i64 (rd_T43 l0 i).f6) := (blk_cell BK.out 6).trans rfl; obtain ⟨hcr, hfr⟩ := own_at HO2.out (rd_T43 l0 i).f1 d0 (by omega); clear hb)
                have hf9 : (rd_T43 l0 i).f1 < 9 := by omega
                have hq1 := eq_true d0
                have hq2 := eq_true hf9
                by_cases cB : rd ends (rd_T43 l0 i).f1 > (rd_T43 l0 i).f2
                · have HS2 : Aside0 (sChk l0 a1 = 17) := ⟨by rw [HE.out, HS.out, if_neg (by omega), if_pos cB]⟩
                  have cBb : decide ((rd_T43 l0 i).f2 < rd ends (rd_T43 l0 i).f1) = true := decide_eq_true cB
                  clear HS cB
                  go_quiet (fail)
                  go_wp2
                  rw [Exit.noGoto_ret]
                  go_ret
                  exact ⟨by rw [HS2.out]; rfl, pw_below_drewN HB2.out _⟩
                · have HS2 : Aside0 (sChk l0 a1 = ov (l0.drop (i + 1).toNat) a1 (ends.set (rd_T43 l0 i).f1.toNat ((rd_T43 l0 i).f2 + (rd_T43 l0 i).f3))) := ⟨by rw [HE.out, HS.out, if_neg (by omega), if_neg cB]⟩
                  have cBb : decide ((rd_T43 l0 i).f2 < rd ends (rd_T43 l0 i).f1) = false := decide_eq_false cB
                  clear HS cB
                  go_quiet (fail)
                  go_wp2
                  go_region_with (go_at_call 22; refine (staff_end.calls _ _ _ _ _ _ _ _ _ HEND.out).mono ?_; rintro e w2 ⟨rfl, hb⟩; have HB3 := Aside0.mk (below_step (below_drew (pw_below_drewN HB2.out _)) hb); have HO3 := Aside0.mk (pw_own_below (show World.ownsRow (World.drew (World.drewN w1 _)) _ _ _ _ _ _ from HO2.out) hb); have BK3 := Aside0.mk (blk_below (blk_drew (blk_drewN BK.out _)) hb); have hcy1 : w2.cell? ⟨wr.heap.size, 1, none⟩ = some (.int .i64 (rd_T43 l0 i).f1) := (blk_cell BK3.out 1).trans rfl; obtain ⟨hcr3, hfr3⟩ := own_at HO3.out (rd_T43 l0 i).f1 d0 (by omega); clear hb)
                  all_goals
                    go_wp2
                    go_roundw
                    case rel => exact ⟨i + 1, ends.set (rd_T43 l0 i).f1.toNat ((rd_T43 l0 i).f2 + (rd_T43 l0 i).f3), by omega, by omega, rfl, rfl, ⟨by rw [List.length_set]; exact HN.out⟩, HS2, ⟨(own_store HO3.out (rd_T43 l0 i).f1 ((rd_T43 l0 i).f2 + (rd_T43 l0 i).f3)).1⟩, ⟨below_set HB3.out hle⟩⟩
                    case measure => simp [intOf]; omega
            · have c3b0 : decide (i < (l0.length : Int)) = false := decide_eq_false c3
              have HS2 : Aside0 (sChk l0 a1 = 0) := ⟨by rw [HE.out, List.drop_of_length_le (by omega)]; rfl⟩
              clear HE c3
              go_wp2
              rw [Exit.noGoto_ret]
              go_ret
              exact ⟨by rw [HS2.out]; rfl, HB.out⟩

/-! ### repeats_moved: function 18 -/
def mvS43 (a1 : Int) (x : S43) : S43 := ⟨x.f0, x.f1, wrap64 (x.f2 + a1), x.f3, x.f4, x.f5, x.f6⟩
theorem mv_take_succ (a1 : Int) (l : List S43) (i : Int) (h0 : 0 ≤ i) (h1 : i < (l.length : Int)) :
    (l.take (i + 1).toNat).map (mvS43 a1) = (l.take i.toNat).map (mvS43 a1) ++ [mvS43 a1 (rd_T43 l i)] := by
  have e : (i + 1).toNat = i.toNat + 1 := by omega
  have hl : i.toNat < l.length := by omega
  rw [e, List.take_succ_eq_append_getElem hl, List.map_append, List.map_singleton]
  simp [rd_T43, List.getD_eq_getElem?_getD, List.getElem?_eq_getElem hl]
def repeats_moved.f (l0 : List S43) (a1 : Int) : Option (List S43) := if l0.length ≤ 2513169434916 then some (l0.map (mvS43 a1)) else none
set_option maxHeartbeats 2000000 in
set_option maxRecDepth 100000 in
theorem repeats_moved.calls (A0 : Option Addr) (c0 : Nat) (l0 : List (S43)) (a1 : Int) (r : List (S43)) (w : World) (hr0 : Kd.C k43 w A0 l0.length l0) (hc0 : l0.length ≤ c0) (h : repeats_moved.f l0 a1 = some r) :
    Calls Try.prog 18 #[.slice A0 l0.length c0, .int .i64 a1] w fun e w' => ∃ v0_ : Value, e = .returned (v0_) ∧ Kd.R k43 43 w' w.heap.size (fun _ => True) v0_ r ∧ Below w.heap.size w w' := by
  have hu43 := Try.underlying43
  have HR0 := Aside0.mk hr0
  have HC0 := Aside0.mk hc0
  clear hr0 hc0
  have HB := Aside0.mk (Below.refl w.heap.size w)
  have hlen : l0.length ≤ 2513169434916 := by
    rcases Nat.lt_or_ge 2513169434916 l0.length with h1 | h1
    · unfold repeats_moved.f at h; rw [if_neg (by omega)] at h; exact absurd h (by simp)
    · exact h1
  have HE : Aside0 (r = l0.map (mvS43 a1)) := ⟨by unfold repeats_moved.f at h; rw [if_pos hlen] at h; exact (Option.some.inj h).symm⟩
  clear h
  go_enter Try.func18, Try.ntmps18
  go_wp2
  go_loopw [5, 10] (fun v5 v10 w' => ∃ (i : Int), 0 ≤ i ∧ i ≤ (l0.length : Int) ∧ v10 = .int .i64 i ∧ Aside0 (Kd.R k43 43 w' w.heap.size (fun _ => True) v5 ((l0.take i.toNat).map (mvS43 a1))) ∧ Aside0 (Below w.heap.size w w')) (fun _ v10 _ => l0.length - (intOf v10).toNat)
  case atStart => exact ⟨0, by omega, by omega, rfl, ⟨Kd.R_nil _ _ _ _ _⟩, HB⟩
  case round =>
    clear HB
    obtain ⟨i, hi0, hi1, rfl, HO, HB⟩ := hrel
    by_cases c3 : i < (l0.length : Int)
    · have c3b0 : decide (i < (l0.length : Int)) = true := decide_eq_true c3
      obtain ⟨ad, e0, hx0, hx1, hx2, hx3, hx4, hx5, hx6⟩ := at_T43 HR0.out i hi0 c3
      cases e0
      replace hx0 := (HB.out.cell (World.block_lt_of_cell? w _ hx0)).trans hx0
      replace hx1 := (HB.out.cell (World.block_lt_of_cell? w _ hx1)).trans hx1
      replace hx2 := (HB.out.cell (World.block_lt_of_cell? w _ hx2)).trans hx2
      replace hx3 := (HB.out.cell (World.block_lt_of_cell? w _ hx3)).trans hx3
      replace hx4 := (HB.out.cell (World.block_lt_of_cell? w _ hx4)).trans hx4
      replace hx5 := (HB.out.cell (World.block_lt_of_cell? w _ hx5)).trans hx5
      replace hx6 := (HB.out.cell (World.block_lt_of_cell? w _ hx6)).trans hx6
      have HS := Aside0.mk (mv_take_succ a1 l0 i hi0 c3)
      have HL : Aside0 ((((l0.take i.toNat).map (mvS43 a1)).length + 1) * 56 ≤ 140737488355328) := ⟨by rw [List.length_map, List.length_take]; omega⟩
      go_wp2_with ((with_reducible refine gate_builtin (b := .append) (xs := #[.tmp 19, .tmp 21]) rfl ?_); at_builtin; refine Kd.R_append k43 (w0 := w) w.heap.size rfl (.tmp 19) (.tmp 21) 22 43 (.agg #[(.int .i64 0), (.int .i64 0), (.int .i64 0), (.int .i64 0), (.int .i64 0), (.int .i64 0), (.int .i64 0)]) 56 rfl Try.underlying22 info43 rfl (by decide) (by omega) u5 ((l0.take i.toNat).map (mvS43 a1)) (mvS43 a1 (rd_T43 l0 i)) [.int .i64 ((rd_T43 l0 i).f0), .int .i64 ((rd_T43 l0 i).f1), .int .i64 (wrap64 ((rd_T43 l0 i).f2 + a1)), .int .i64 ((rd_T43 l0 i).f3), .int .i64 ((rd_T43 l0 i).f4), .int .i64 ((rd_T43 l0 i).f5), .int .i64 ((rd_T43 l0 i).f6)] (fun _ => True) (fun _ => False) rfl (by first | (go_simp; done) | (go_simp; rfl)) ?aP (fun _ hk => hk.elim) (fun _ _ => trivial) ?aO ?aB ?aS ?aL ?_; (case aP => exact k43_mkM _ _ _ (mvS43 a1 (rd_T43 l0 i))); (case aO => exact Kd.R_alloc HO.out _); (case aB => exact below_alloc HB.out _); (case aS => exact below_size (below_alloc HB.out _)); (case aL => exact HL.out); intro v1 w1 ho hb hg hat; rw [← HS.out] at ho; have HO2 := Aside0.mk ho; have HB2 := Aside0.mk hb; clear ho hb hg hat)
      go_roundw
      case rel => exact ⟨i + 1, by omega, by omega, rfl, HO2, HB2⟩
      case measure => simp [intOf]; omega
    · have c3b0 : decide (i < (l0.length : Int)) = false := decide_eq_false c3
      have HI : Aside0 ((l0.take i.toNat).map (mvS43 a1) = r) := ⟨by rw [HE.out, List.take_of_length_le (by omega)]⟩
      go_wp2
      go_ret
      exact ⟨_, rfl, by rw [← HI.out]; exact HO.out, HB.out⟩

/-! ### staff_moved: function 26 -/
def staff_moved.f (l0 : List S43) (a1 : Int) : Option (List S43) := if l0.length ≤ 2513169434916 then some (l0.map (mvS43 a1)) else none
set_option maxHeartbeats 2000000 in
set_option maxRecDepth 100000 in
theorem staff_moved.calls (A0 : Option Addr) (c0 : Nat) (l0 : List (S43)) (a1 : Int) (r : List (S43)) (w : World) (hr0 : Kd.C k43 w A0 l0.length l0) (hc0 : l0.length ≤ c0) (h : staff_moved.f l0 a1 = some r) :
    Calls Try.prog 26 #[.slice A0 l0.length c0, .int .i64 a1] w fun e w' => ∃ v0_ : Value, e = .returned (v0_) ∧ Kd.R k43 43 w' w.heap.size (fun _ => True) v0_ r ∧ Below w.heap.size w w' := by
  have hu43 := Try.underlying43
  have HR0 := Aside0.mk hr0
  have HC0 := Aside0.mk hc0
  clear hr0 hc0
  have HB := Aside0.mk (Below.refl w.heap.size w)
  have hlen : l0.length ≤ 2513169434916 := by
    rcases Nat.lt_or_ge 2513169434916 l0.length with h1 | h1
    · unfold staff_moved.f at h; rw [if_neg (by omega)] at h; exact absurd h (by simp)
    · exact h1
  have HE : Aside0 (r = l0.map (mvS43 a1)) := ⟨by unfold staff_moved.f at h; rw [if_pos hlen] at h; exact (Option.some.inj h).symm⟩
  clear h
  go_enter Try.func26, Try.ntmps26
  go_wp2
  go_loopw [5, 10] (fun v5 v10 w' => ∃ (i : Int), 0 ≤ i ∧ i ≤ (l0.length : Int) ∧ v10 = .int .i64 i ∧ Aside0 (Kd.R k43 43 w' w.heap.size (fun _ => True) v5 ((l0.take i.toNat).map (mvS43 a1))) ∧ Aside0 (Below w.heap.size w w')) (fun _ v10 _ => l0.length - (intOf v10).toNat)
  case atStart => exact ⟨0, by omega, by omega, rfl, ⟨Kd.R_nil _ _ _ _ _⟩, HB⟩
  case round =>
    clear HB
    obtain ⟨i, hi0, hi1, rfl, HO, HB⟩ := hrel
    by_cases c3 : i < (l0.length : Int)
    · have c3b0 : decide (i < (l0.length : Int)) = true := decide_eq_true c3
      obtain ⟨ad, e0, hx0, hx1, hx2, hx3, hx4, hx5, hx6⟩ := at_T43 HR0.out i hi0 c3
      cases e0
      replace hx0 := (HB.out.cell (World.block_lt_of_cell? w _ hx0)).trans hx0
      replace hx1 := (HB.out.cell (World.block_lt_of_cell? w _ hx1)).trans hx1
      replace hx2 := (HB.out.cell (World.block_lt_of_cell? w _ hx2)).trans hx2
      replace hx3 := (HB.out.cell (World.block_lt_of_cell? w _ hx3)).trans hx3
      replace hx4 := (HB.out.cell (World.block_lt_of_cell? w _ hx4)).trans hx4
      replace hx5 := (HB.out.cell (World.block_lt_of_cell? w _ hx5)).trans hx5
      replace hx6 := (HB.out.cell (World.block_lt_of_cell? w _ hx6)).trans hx6
      have HS := Aside0.mk (mv_take_succ a1 l0 i hi0 c3)
      have HL : Aside0 ((((l0.take i.toNat).map (mvS43 a1)).length + 1) * 56 ≤ 140737488355328) := ⟨by rw [List.length_map, List.length_take]; omega⟩
      go_wp2_with ((with_reducible refine gate_builtin (b := .append) (xs := #[.tmp 19, .tmp 21]) rfl ?_); at_builtin; refine Kd.R_append k43 (w0 := w) w.heap.size rfl (.tmp 19) (.tmp 21) 22 43 (.agg #[(.int .i64 0), (.int .i64 0), (.int .i64 0), (.int .i64 0), (.int .i64 0), (.int .i64 0), (.int .i64 0)]) 56 rfl Try.underlying22 info43 rfl (by decide) (by omega) u5 ((l0.take i.toNat).map (mvS43 a1)) (mvS43 a1 (rd_T43 l0 i)) [.int .i64 ((rd_T43 l0 i).f0), .int .i64 ((rd_T43 l0 i).f1), .int .i64 (wrap64 ((rd_T43 l0 i).f2 + a1)), .int .i64 ((rd_T43 l0 i).f3), .int .i64 ((rd_T43 l0 i).f4), .int .i64 ((rd_T43 l0 i).f5), .int .i64 ((rd_T43 l0 i).f6)] (fun _ => True) (fun _ => False) rfl (by first | (go_simp; done) | (go_simp; rfl)) ?aP (fun _ hk => hk.elim) (fun _ _ => trivial) ?aO ?aB ?aS ?aL ?_; (case aP => exact k43_mkM _ _ _ (mvS43 a1 (rd_T43 l0 i))); (case aO => exact Kd.R_alloc HO.out _); (case aB => exact below_alloc HB.out _); (case aS => exact below_size (below_alloc HB.out _)); (case aL => exact HL.out); intro v1 w1 ho hb hg hat; rw [← HS.out] at ho; have HO2 := Aside0.mk ho; have HB2 := Aside0.mk hb; clear ho hb hg hat)
      go_roundw
      case rel => exact ⟨i + 1, by omega, by omega, rfl, HO2, HB2⟩
      case measure => simp [intOf]; omega
    · have c3b0 : decide (i < (l0.length : Int)) = false := decide_eq_false c3
      have HI : Aside0 ((l0.take i.toNat).map (mvS43 a1) = r) := ⟨by rw [HE.out, List.take_of_length_le (by omega)]⟩
      go_wp2
      go_ret
      exact ⟨_, rfl, by rw [← HI.out]; exact HO.out, HB.out⟩

end Go.Proofs.Ytkipahflihobeaa.X
