/- Plain facts on staves and repetitions: no program in sight. -/
import Derived.Test.YtkipahflihobeaaX9

import Derived.Test.YtkipahflihobeaaArgs
namespace Go.Proofs.Ytkipahflihobeaa.X
open Go.RowKit Go.Proofs.YtkipahflihobeaaW.PrintWords
set_option linter.unusedVariables false
theorem same_l0 (l : List S43) (hl : l.length ≤ 1000000) : ∀ (d i : Nat), i + d = l.length → dancestudioref26_Same.l0 (d + 1) l l (i : Int) = some true := by
  intro d
  induction d with
  | zero =>
    intro i hi
    unfold dancestudioref26_Same.l0
    rw [if_neg (by omega)]
  | succ d ih =>
    intro i hi
    unfold dancestudioref26_Same.l0
    rw [if_pos (by omega), if_pos (by omega), if_pos (by omega), if_neg (by simp), wrap_nat i l.length (by omega) (by omega)]
    exact ih (i + 1) (by omega)
theorem same_refl (l : List S43) (hl : l.length ≤ 1000000) (k : Nat) (hk : l.length + 1 ≤ k) : dancestudioref26_Same.f k l l = some true := by
  refine at_rounds (fun k => dancestudioref26_Same.mono l l k) hk ?_
  have := same_l0 l hl l.length 0 (by omega)
  unfold dancestudioref26_Same.f
  rw [if_pos rfl]; simpa using this
theorem ov_end {n : Int} : ∀ (l : List S43) (ends : List Int), ov l n ends = 0 → ∀ x ∈ l, x.f2 + x.f3 ≤ n
  | [], _, _ => by simp
  | y :: l, ends, h => by
    unfold ov at h
    by_cases c1 : y.f2 + y.f3 > n
    · rw [if_pos c1] at h; omega
    rw [if_neg c1] at h
    by_cases c2 : rd ends y.f1 > y.f2
    · rw [if_pos c2] at h; omega
    rw [if_neg c2] at h
    intro x hx
    rcases List.mem_cons.1 hx with rfl | hx
    · omega
    · exact ov_end l _ h x hx
theorem sChk_ok {l : List S43} {n : Int} (h : sChk l n = 0) : (1 ≤ n ∧ n ≤ 8192) ∧ l.length ≤ 256 ∧ (∀ x ∈ l, sE x = 0) ∧ chkOrd l = true ∧ ov l n [0, 0, 0, 0, 0, 0, 0, 0, 0] = 0 := by
  obtain ⟨h1, h2, h3⟩ := sChk_len h
  unfold sChk at h
  rw [if_neg (by omega), if_neg (by omega), if_neg (by omega)] at h
  by_cases c : firstE l = 0
  · rw [if_pos c] at h
    by_cases d : chkOrd l = true
    · rw [if_pos d] at h; exact ⟨⟨h2, h3⟩, h1, firstE_all c, d, h⟩
    · rw [if_neg d] at h; omega
  · rw [if_neg c] at h; exact absurd h c
/-- Of a valid staff: each symbol lies in it. -/
theorem sChk_in {l : List S43} {n : Int} (h : sChk l n = 0) : ∀ x ∈ l, 0 ≤ x.f2 ∧ 1 ≤ x.f3 ∧ x.f2 + x.f3 ≤ n ∧ 0 ≤ x.f1 ∧ x.f1 ≤ 8 := by
  obtain ⟨_, _, h3, _, h5⟩ := sChk_ok h
  intro x hx
  obtain ⟨_, _, a, b, c, _, d, _⟩ := sE_ok (h3 x hx)
  exact ⟨c, d, ov_end l _ h5 x hx, a, b⟩
theorem inS_all {l : List S43} {n : Int} (h : sChk l n = 0) : l.filter (inS 0 n) = l := by
  rw [List.filter_eq_self]
  intro x hx
  have := sChk_in h x hx
  simp [inS]; omega
theorem mv_zero {l : List S43} {n : Int} (h : sChk l n = 0) : l.map (mvS43 0) = l := by
  have hn := (sChk_ok h).1
  have e : l.map (mvS43 0) = l.map id := by
    apply List.map_congr_left
    intro x hx
    have := sChk_in h x hx
    have e : wrap64 (x.f2 + 0) = x.f2 := by unfold wrap64; omega
    unfold mvS43; rw [e]; rfl
  rw [e, List.map_id]
theorem w1 (n : Int) (h : 0 ≤ n ∧ n ≤ 100000) : wrap64 n = n := by unfold wrap64; omega
theorem stepC_whole {l : List S43} {n t : Int} (h : sChk l n = 0) (ht : 0 ≤ t ∧ t ≤ 2) : stepC l (0, 0) 0 n t = (n * t, (l.length : Int) * t) := by
  obtain ⟨hn, hl, _⟩ := sChk_ok h
  have ht' : t = 0 ∨ t = 1 ∨ t = 2 := by omega
  unfold stepC stepN
  rw [inS_all h]
  have a : wrap64 (n - 0) = n := by unfold wrap64; omega
  have b : wrap64 (n * t) = n * t := by rcases ht' with rfl | rfl | rfl <;> (unfold wrap64; omega)
  have c : wrap64 ((l.length : Int) * t) = (l.length : Int) * t := by rcases ht' with rfl | rfl | rfl <;> (unfold wrap64; omega)
  simp only [a, b, c, Int.zero_add]
theorem rChk_nil {l : List S43} {n : Int} (h : sChk l n = 0) : rChk l n [] = 0 := by
  obtain ⟨hn, hl, _⟩ := sChk_ok h
  unfold rChk
  have e : secT (stepC l) n [] 0 (0, 0) = (n * 1, (l.length : Int) * 1) := by unfold secT; rw [if_pos (by omega)]; exact stepC_whole h (by omega)
  rw [if_pos h, e, if_neg (by simp), if_neg (by simp), if_neg (by simp [rOrd]), if_neg (by simp), if_neg (by simp only []; omega), if_neg (by simp only []; omega)]
theorem perform_nil {l : List S43} {n : Int} (h : sChk l n = 0) : repeats_Perform.f l n [] = some (l, 0) := by
  obtain ⟨hn, hl, _⟩ := sChk_ok h
  unfold repeats_Perform.f
  rw [if_pos (rChk_nil h)]
  unfold secF
  rw [if_pos (by omega)]
  have e : stepP l ([], 0) 0 n 1 = some (l, n) := by
    unfold stepP
    rw [if_pos (by simp)]
    simp only [show (1 : Int).toNat = 1 from rfl, itN, stepP1, List.nil_append]
    rw [inS_all h, show wrap64 ((0 : Int) - 0) = 0 by unfold wrap64; omega, mv_zero h, show wrap64 (n - 0) = n by unfold wrap64; omega, show wrap64 (0 + n) = n by unfold wrap64; omega]
  rw [e]; rfl
theorem cut_ends {l : List S43} {n : Int} (h : sChk l n = 0) : cutB l 0 = true ∧ cutB l n = true := by
  have hn := (sChk_ok h).1
  unfold cutB
  constructor
  · rw [Bool.not_eq_true', List.any_eq_false]
    intro x hx
    have := sChk_in h x hx
    simp; omega
  · rw [Bool.not_eq_true', List.any_eq_false]
    intro x hx
    have := sChk_in h x hx
    have e : wrap64 (x.f2 + x.f3) = x.f2 + x.f3 := by unfold wrap64; omega
    rw [e]; simp; omega
theorem rChk_twice {l : List S43} {n : Int} (h : sChk l n = 0) : rChk l n [⟨⟨0, n⟩, 2⟩] = if n * 2 > 8192 then 1 else if (l.length : Int) * 2 > 256 then 3 else 0 := by
  obtain ⟨hn, hl, _⟩ := sChk_ok h
  obtain ⟨k1, k2⟩ := cut_ends h
  unfold rChk
  have e : secT (stepC l) n [⟨⟨0, n⟩, 2⟩] 0 (0, 0) = (n * 2, (l.length : Int) * 2) := by
    unfold secT; simp only []; rw [if_neg (by omega)]; unfold secT; rw [if_neg (by omega)]; exact stepC_whole h (by omega)
  have b : rBad n ⟨⟨0, n⟩, 2⟩ = false := by
    unfold rBad
    simp; omega
  rw [if_pos h, e, if_neg (by simp), if_neg (by rw [List.any_cons, b]; simp), if_neg (by simp [rOrd]), if_neg (by simp [rCut, k1, k2])]
theorem perform_twice {l : List S43} {n : Int} (h : sChk l n = 0) (h2 : n * 2 ≤ 8192) (h3 : (l.length : Int) * 2 ≤ 256) : repeats_Perform.f l n [⟨⟨0, n⟩, 2⟩] = some (l ++ l.map (mvS43 n), 0) := by
  obtain ⟨hn, hl, _⟩ := sChk_ok h
  unfold repeats_Perform.f
  rw [rChk_twice h, if_neg (show ¬ n * 2 > 8192 by omega), if_neg (show ¬ (l.length : Int) * 2 > 256 by omega), if_pos rfl]
  unfold secF
  rw [if_neg (show ¬ (0 : Int) < 0 by omega)]
  have e : stepP l ([], 0) 0 n 2 = some (l ++ l.map (mvS43 n), n + n) := by
    unfold stepP
    rw [if_pos (by simp)]
    simp only [show (2 : Int).toNat = 2 from rfl, itN, stepP1, List.nil_append]
    rw [inS_all h, show wrap64 ((0 : Int) - 0) = 0 by unfold wrap64; omega, mv_zero h, show wrap64 (n - 0) = n by unfold wrap64; omega, show wrap64 (0 + n) = n by unfold wrap64; omega, show wrap64 (n - 0) = n by unfold wrap64; omega, show wrap64 (n + n) = n + n by unfold wrap64; omega]
  simp only [Option.bind_some]
  rw [e]
  simp only [Option.bind_some]
  unfold secF
  rw [if_neg (show ¬ n < n by omega)]; rfl
theorem smoved_eq (l : List S43) (n : Int) (h : l.length ≤ 1000000) : staff_moved.f l n = some (l.map (mvS43 n)) := by unfold staff_moved.f; rw [if_pos (by omega)]
end Go.Proofs.Ytkipahflihobeaa.X
