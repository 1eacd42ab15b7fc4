/- The plain law RepeatsWhole. -/
import Derived.Test.YtkipahflihobeaaX
import Derived.Test.YtkipahflihobeaaArgs
import Derived.Test.YtkipahflihobeaaPlain
namespace Go.Proofs.Ytkipahflihobeaa.Pure
open Go.RowKit Go.Proofs.Ytkipahflihobeaa.X Go.Proofs.YtkipahflihobeaaW.PrintWords
theorem whole_j0 (k : Nat) (hk : 1999 ≤ k) {l : List S43} {n : Int} (h : sChk l n = 0) : dancestudiolaw26_RepeatsWhole.j0 (k + 1) l n false = some true := by
  obtain ⟨hn, hl, _⟩ := sChk_ok h
  rw [dancestudiolaw26_RepeatsWhole.j0]
  rw [if_neg (by simp), join_self h]
  simp only [Option.bind_some, dancestudiolaw26_twice.f]
  have aw := awake_ok k (by omega)
  by_cases c : n * 2 > 8192
  · have e : repeats_Perform.f l n [⟨⟨0, n⟩, 2⟩] = some ([], 1) := by
      unfold repeats_Perform.f
      rw [rChk_twice h, if_pos c]; rfl
    rw [e, if_pos c]
    simp only [Option.bind_some]
    rw [if_neg (by omega), if_neg (by omega), aw]; rfl
  · rw [if_neg c]
    by_cases d : (l.length : Int) * 2 > 256
    · have e : repeats_Perform.f l n [⟨⟨0, n⟩, 2⟩] = some ([], 3) := by
        unfold repeats_Perform.f
        rw [rChk_twice h, if_neg c, if_pos d]; rfl
      rw [e, if_pos d]
      simp only [Option.bind_some]
      rw [if_neg (by omega), if_neg (by omega), aw]; rfl
    · rw [if_neg d, perform_twice h (by omega) (by omega)]
      simp only [Option.bind_some]
      rw [if_pos trivial, if_pos trivial, same_refl _ (by simp; omega) k (by simp; omega)]
      simp only [Option.bind_some]
      rw [if_pos trivial, aw]; rfl
theorem RepeatsWhole (a0 : List S43) (a1 : Int) (_h0 : ∀ y ∈ a0, W43 y) (_h1 : (Lit.int .i64 a1).wf = true) : ∃ k, dancestudiolaw26_RepeatsWhole.f k a0 a1 = some true := by
  refine ⟨2000, ?_⟩
  have aw := awake_ok 2000 (by omega)
  unfold dancestudiolaw26_RepeatsWhole.f
  by_cases c : (a0.length : Int) > 60
  · rw [if_pos c, aw]; rfl
  rw [if_neg c]
  have hs : staff_Check.f a0 a1 = some (sChk a0 a1) := rfl
  rw [hs]
  by_cases h : sChk a0 a1 = 0
  · rw [perform_nil h]
    simp only [Option.bind_some]
    rw [if_pos h, if_pos trivial, same_refl a0 (by omega) 2000 (by omega)]
    exact whole_j0 1999 (by omega) h
  · have e : repeats_Perform.f a0 a1 [] = some ([], sChk a0 a1) := by
      unfold repeats_Perform.f
      have : rChk a0 a1 [] = sChk a0 a1 := by unfold rChk; rw [if_neg h]
      rw [this, if_neg h]
    rw [e]
    simp only [Option.bind_some]
    rw [if_neg h, if_pos (by simp), if_pos trivial, aw]; rfl
end Go.Proofs.Ytkipahflihobeaa.Pure
