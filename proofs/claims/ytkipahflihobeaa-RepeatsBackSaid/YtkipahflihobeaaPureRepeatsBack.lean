/- The plain law RepeatsBack. -/
import Derived.Test.YtkipahflihobeaaX
import Derived.Test.YtkipahflihobeaaArgs
import Derived.Test.YtkipahflihobeaaBackE
namespace Go.Proofs.Ytkipahflihobeaa.Pure
open Go.RowKit Go.Proofs.Ytkipahflihobeaa.X Go.Proofs.YtkipahflihobeaaW.PrintWords
theorem awake_at : dancestudiolaw26_awake.f 60 = some true := by decide +kernel
theorem awake_ok (k : Nat) (h : 60 ≤ k) : dancestudiolaw26_awake.f k = some true := at_rounds (fun k => dancestudiolaw26_awake.mono k) h awake_at
theorem back_j0 (l : List S43) (n s : Int) (hl : l.length ≤ 60) : ∃ k, dancestudiolaw26_RepeatsBack.j0 k l n s false = some true := by
  have hc : staff_Check.f l n = some (sChk l n) := rfl
  by_cases h : sChk l n = 0
  · by_cases hs : 1 ≤ s ∧ s ≤ n
    · obtain ⟨k, r, p, q⟩ := find_some h s hs.1 hs.2
      obtain ⟨b1, b2, b3, b4, b5⟩ := post_back h q hl
      have pk : repeats_Find.f (max k 2000) l n s = some r := at_rounds (fun k => repeats_Find.mono l n s k) (by omega) p
      refine ⟨max k 2000 + 1, ?_⟩
      rw [dancestudiolaw26_RepeatsBack.j0, if_neg (by simp), pk]
      simp only [Option.bind_some]
      rw [if_pos b1, b2, b3]
      simp only [Option.bind_some]
      rw [if_pos trivial, if_pos trivial, if_pos b4, if_pos (by omega), if_pos trivial, same_refl l (by omega) _ (by omega)]
      simp only [Option.bind_some]
      rw [if_pos trivial, awake_ok _ (by omega)]; rfl
    · have hf : repeats_Find.f 2000 l n s = some ([], 0, [], 1) := by
        unfold repeats_Find.f
        rw [hc, h]
        simp only [Option.bind_some]
        rw [if_pos trivial]
        have hj : repeats_Find.j0 2000 l n s true = some ([], 0, [], 1) := by
          rw [show (2000 : Nat) = 1999 + 1 from rfl, repeats_Find.j0, if_pos rfl]
        by_cases c : s < 1
        · rw [if_pos c]; exact hj
        · rw [if_neg c, show decide (s > n) = true by simp; omega]; exact hj
      refine ⟨2000 + 1, ?_⟩
      rw [dancestudiolaw26_RepeatsBack.j0, if_neg (by simp), hf]
      simp only [Option.bind_some]
      rw [if_neg (by omega), if_pos (by simp), if_pos trivial, if_pos (by simp), hc, h]
      simp only [Option.bind_some]
      have aw := awake_ok 2000 (by omega)
      rw [if_neg (by omega), if_pos trivial]
      by_cases c : s < 1
      · rw [if_pos c, aw]; rfl
      · rw [if_neg c, if_pos (by omega), aw]; rfl
  · have hf : repeats_Find.f 2000 l n s = some ([], 0, [], sChk l n) := by
      unfold repeats_Find.f
      rw [hc]
      simp only [Option.bind_some]
      rw [if_neg h]
    refine ⟨2000 + 1, ?_⟩
    rw [dancestudiolaw26_RepeatsBack.j0, if_neg (by simp), hf]
    simp only [Option.bind_some]
    rw [if_neg h, if_pos (by simp), if_pos trivial, if_pos (by simp), hc]
    simp only [Option.bind_some]
    rw [if_pos trivial, awake_ok 2000 (by omega)]; rfl
theorem back_true (k : Nat) (hk : 60 ≤ k) (l : List S43) (n s : Int) : dancestudiolaw26_RepeatsBack.j0 (k + 1) l n s true = some true := by
  rw [dancestudiolaw26_RepeatsBack.j0, if_pos rfl, awake_ok _ hk]; rfl
theorem RepeatsBack (a0 : List S43) (a1 : Int) (a2 : Int) (_h0 : ∀ y ∈ a0, W43 y) (_h1 : (Lit.int .i64 a1).wf = true) (_h2 : (Lit.int .i64 a2).wf = true) : ∃ k, dancestudiolaw26_RepeatsBack.f k a0 a1 a2 = some true := by
  by_cases c : (a0.length : Int) > 60
  · refine ⟨60 + 1, ?_⟩
    unfold dancestudiolaw26_RepeatsBack.f
    rw [if_pos c]; exact back_true 60 (by omega) _ _ _
  by_cases d : a1 > 300
  · refine ⟨60 + 1, ?_⟩
    unfold dancestudiolaw26_RepeatsBack.f
    rw [if_neg c, show decide (a1 > 300) = true by simp; omega]; exact back_true 60 (by omega) _ _ _
  · obtain ⟨k, hk⟩ := back_j0 a0 a1 a2 (by omega)
    refine ⟨k, ?_⟩
    unfold dancestudiolaw26_RepeatsBack.f
    rw [if_neg c, show decide (a1 > 300) = false by simp; omega]; exact hk
end Go.Proofs.Ytkipahflihobeaa.Pure
