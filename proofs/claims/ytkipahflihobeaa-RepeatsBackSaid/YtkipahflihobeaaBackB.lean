/- Plain facts on staves: what staff.Cut, repeats.same and repeats.follows answer. Lemmas. -/
import Derived.Test.YtkipahflihobeaaBackA
namespace Go.Proofs.Ytkipahflihobeaa.X
open Go.RowKit Go.Proofs.YtkipahflihobeaaW.PrintWords
set_option linter.unusedVariables false
set_option linter.unusedSimpArgs false
theorem cut_j2 (k : Nat) (l acc : List S43) (hl : l.length ≤ 1000000) (a b : Int) (x : S43) (t : Bool) (i : Int) (ha : acc.length ≤ 1000000) :
    staff_Cut.j2 (k + 1) acc l (l.length : Int) i t a b x.f0 x.f1 x.f2 x.f3 x.f4 x.f5 x.f6 = if t = true then some ([], 17) else staff_Cut.l0 k (acc ++ if inS a b x = true then [x] else []) l (l.length : Int) (wrap64 (i + 1)) a b := by
  rw [staff_Cut.j2]
  cases t with
  | true => rfl
  | false =>
    simp only [Bool.false_eq_true, if_false]
    unfold inS
    by_cases c1 : x.f2 ≥ a
    · rw [if_pos c1]
      by_cases c2 : x.f2 < b
      · rw [if_pos c2, if_pos (by omega), if_pos (by simp [c2]; omega)]
      · rw [if_neg c2, if_neg (by simp [c2])]; simp
    · rw [if_neg c1, if_neg (by simp; omega)]; simp
theorem cutl_l0 (l : List S43) (a b : Int) (hl : l.length ≤ 1000000) (hx : ∀ x ∈ l, 0 ≤ x.f2 ∧ 0 ≤ x.f3 ∧ x.f2 + x.f3 ≤ 10000) : ∀ (d i : Nat) (acc : List S43), i + d = l.length → acc.length ≤ i →
    staff_Cut.l0 (2 * d + 1) acc l (l.length : Int) (i : Int) a b = some (if (l.drop i).any (strad a b) = true then ([], 17) else ((acc ++ (l.drop i).filter (inS a b)).map (mvS43 (wrap64 (-a))), 0)) := by
  intro d
  induction d with
  | zero =>
    intro i acc hi ha
    rw [staff_Cut.l0]
    rw [if_neg (by omega), List.drop_of_length_le (by omega), smoved_eq _ _ (by omega)]; simp
  | succ d ih =>
    intro i acc hi ha
    have hlt : i < l.length := by omega
    rw [show 2 * (d + 1) + 1 = (2 * d + 1 + 1) + 1 by omega, staff_Cut.l0]
    rw [if_pos (by omega), if_pos (by omega), if_pos (by omega), rdSn l i hlt, List.drop_eq_getElem_cons hlt, List.filter_cons, List.any_cons]
    obtain ⟨p1, p2, p3⟩ := hx l[i] (List.getElem_mem _)
    generalize he : l[i] = x at *
    have we : wrap64 (x.f2 + x.f3) = x.f2 + x.f3 := by unfold wrap64; omega
    simp only [staff_end.f, we, Option.bind_some, cut_j2 _ l acc hl _ _ _ _ _ (by omega), wrap_nat i l.length hlt (by omega)]
    have hrec := ih (i + 1) (acc ++ if inS a b x = true then [x] else []) (by omega) (by split <;> simp <;> omega)
    have happ : (acc ++ if inS a b x = true then [x] else []) ++ (l.drop (i + 1)).filter (inS a b) = acc ++ (if inS a b x = true then x :: (l.drop (i + 1)).filter (inS a b) else (l.drop (i + 1)).filter (inS a b)) := by
      split <;> simp
    rw [happ] at hrec
    rw [hrec]
    unfold strad
    by_cases c1 : x.f2 < a
    · rw [if_pos c1]
      by_cases c2 : x.f2 + x.f3 > a
      · rw [if_pos c2, if_pos trivial, if_pos (by simp; omega)]
      · rw [if_neg c2]
        by_cases c3 : x.f2 < b
        · rw [if_pos c3]
          by_cases c4 : x.f2 + x.f3 > b
          · rw [if_pos (by simp; omega), if_pos (by simp; omega)]
          · rw [if_neg (by simp; omega)]
            have : decide (x.f2 < a ∧ x.f2 + x.f3 > a ∨ x.f2 < b ∧ x.f2 + x.f3 > b) = false := by simp; omega
            rw [this, Bool.false_or]
        · rw [if_neg c3, if_neg (by simp)]
          have : decide (x.f2 < a ∧ x.f2 + x.f3 > a ∨ x.f2 < b ∧ x.f2 + x.f3 > b) = false := by simp; omega
          rw [this, Bool.false_or]
    · rw [if_neg c1]
      by_cases c3 : x.f2 < b
      · rw [if_pos c3]
        by_cases c4 : x.f2 + x.f3 > b
        · rw [if_pos (by simp; omega), if_pos (by simp; omega)]
        · rw [if_neg (by simp; omega)]
          have : decide (x.f2 < a ∧ x.f2 + x.f3 > a ∨ x.f2 < b ∧ x.f2 + x.f3 > b) = false := by simp; omega
          rw [this, Bool.false_or]
      · rw [if_neg c3, if_neg (by simp)]
        have : decide (x.f2 < a ∧ x.f2 + x.f3 > a ∨ x.f2 < b ∧ x.f2 + x.f3 > b) = false := by simp; omega
        rw [this, Bool.false_or]
theorem cutf_eq {l : List S43} {n : Int} (h : sChk l n = 0) (a b : Int) (h0 : 0 ≤ a) (h1 : a < b) (h2 : b ≤ n) (k : Nat) (hk : 600 ≤ k) : staff_Cut.f k l n a b = some (cutS l a b) := by
  refine at_rounds (fun k => staff_Cut.mono l n a b k) hk ?_
  obtain ⟨hn, hl, hv⟩ := sChk_val h
  have hx : ∀ x ∈ l, 0 ≤ x.f2 ∧ 0 ≤ x.f3 ∧ x.f2 + x.f3 ≤ 10000 := by
    intro x hx
    have := sChk_in h x hx; omega
  have hj : staff_Cut.j0 600 l false a b = some (cutS l a b) := by
    rw [show (600 : Nat) = 599 + 1 from rfl, staff_Cut.j0, if_neg (by simp)]
    have := cutl_l0 l a b (by omega) hx l.length 0 [] (by omega) (by simp)
    refine at_rounds (g := fun k => staff_Cut.l0 k [] l (l.length : Int) 0 a b) (fun k => (staff_Cut.mono_l k).2.1 _ _ _ _ _ _) (show 2 * l.length + 1 ≤ 599 by omega) ?_
    simpa [cutS] using this
  unfold staff_Cut.f
  have hs : staff_Check.f l n = some 0 := by unfold staff_Check.f; rw [h]
  rw [hs]
  simp only [Option.bind_some]
  rw [if_pos trivial, if_neg (by omega), if_neg (by omega), show decide (b > n) = false by simp; omega]
  exact hj
theorem api_l0 (l m : List S43) (hl : l.length ≤ 1000000) (e : l.length = m.length) : ∀ (d i : Nat), i + d = l.length →
    ∃ r, api_Symbol.l0 (d + 1) l m (l.length : Int) (i : Int) = some r ∧ (r = true → l.drop i = m.drop i) := by
  intro d
  induction d with
  | zero =>
    intro i hi
    rw [api_Symbol.l0]
    rw [if_neg (by omega), List.drop_of_length_le (by omega), List.drop_of_length_le (by omega)]
    exact ⟨true, rfl, fun _ => rfl⟩
  | succ d ih =>
    intro i hi
    have hlt : i < l.length := by omega
    have hlt' : i < m.length := by omega
    obtain ⟨r, hr, hA⟩ := ih (i + 1) (by omega)
    rw [api_Symbol.l0]
    rw [if_pos (by omega), if_pos (by omega), if_pos (by omega), if_pos (by omega), rdSn l i hlt, rdSn m i hlt', wrap_nat i l.length hlt (by omega), hr,
      List.drop_eq_getElem_cons hlt, List.drop_eq_getElem_cons hlt']
    generalize l[i] = x
    generalize m[i] = y
    by_cases c : x = y
    · subst c
      refine ⟨r, by simp, fun h => by rw [hA h]⟩
    · have : (!(x.f0 == y.f0) || (!(x.f1 == y.f1) || (!(x.f2 == y.f2) || (!(x.f3 == y.f3) || (!(x.f4 == y.f4) || (!(x.f5 == y.f5) || (!(x.f6 == y.f6)))))))) = true := by
        cases x; cases y
        simp only [S43.mk.injEq] at c
        simp only [Bool.or_eq_true, Bool.not_eq_true', beq_eq_false_iff_ne]
        omega
      rw [if_pos this]
      exact ⟨false, rfl, by simp⟩
theorem api_eq (l m : List S43) (hl : l.length ≤ 500) (k : Nat) (hk : 600 ≤ k) : ∃ r, api_Symbol.f k l m = some r ∧ (r = true → l = m) := by
  by_cases e : l.length = m.length
  · obtain ⟨r, hr, hA⟩ := api_l0 l m (by omega) e l.length 0 (by omega)
    refine ⟨r, ?_, by simpa using hA⟩
    refine at_rounds (fun k => api_Symbol.mono l m k) hk ?_
    unfold api_Symbol.f
    rw [if_pos (by omega)]
    exact at_rounds (g := fun k => api_Symbol.l0 k l m (l.length : Int) 0) (fun k => api_Symbol.mono_l k _ _ _ _) (show l.length + 1 ≤ 600 by omega) hr
  · unfold api_Symbol.f
    rw [if_neg (by omega)]
    exact ⟨false, rfl, by simp⟩
/-- Two sections of a staff are alike. -/
def Alike (l : List S43) (a b c d : Int) : Prop := l.any (strad a b) = false ∧ l.any (strad c d) = false ∧ (l.filter (inS a b)).map (mvS43 (wrap64 (-a))) = (l.filter (inS c d)).map (mvS43 (wrap64 (-c)))
theorem same_eq {l : List S43} {n : Int} (h : sChk l n = 0) (a b c d : Int) (h0 : 0 ≤ a) (h1 : a < b) (h2 : b ≤ n) (g0 : 0 ≤ c) (g1 : c < d) (g2 : d ≤ n) (k : Nat) (hk : 600 ≤ k) : ∃ r, repeats_same.f k l n a b c d = some r ∧ (r = true → Alike l a b c d) := by
  obtain ⟨hn, hl, hv⟩ := sChk_val h
  unfold repeats_same.f
  rw [cutf_eq h a b h0 h1 h2 k hk, cutf_eq h c d g0 g1 g2 k hk]
  simp only [Option.bind_some, cutS]
  by_cases c1 : l.any (strad a b) = true
  · rw [if_pos c1]; exact ⟨false, by simp, by simp⟩
  rw [if_neg c1]
  by_cases c2 : l.any (strad c d) = true
  · rw [if_pos c2]; exact ⟨false, by simp, by simp⟩
  rw [if_neg c2]
  have hf := List.length_filter_le (inS a b) l
  rw [if_pos rfl, if_pos rfl]
  obtain ⟨r, hr, hA⟩ := api_eq ((l.filter (inS a b)).map (mvS43 (wrap64 (-a)))) ((l.filter (inS c d)).map (mvS43 (wrap64 (-c)))) (by rw [List.length_map]; omega) k hk
  rw [hr]
  exact ⟨r, rfl, fun e => ⟨by simpa using c1, by simpa using c2, hA e⟩⟩
theorem follows_l0 {l : List S43} {n : Int} (h : sChk l n = 0) (a L : Int) (h0 : 0 ≤ a) (hL : 1 ≤ L) : ∀ (d : Nat) (m : Int), 1 ≤ m → m + d = 16 → a + m * L ≤ n → (∀ j : Int, 1 ≤ j → j < m → Alike l a (a + L) (a + j * L) (a + j * L + L)) →
    ∃ r, repeats_follows.l0 (d + 601) l n a L m = some r ∧ m ≤ r ∧ r ≤ 16 ∧ a + r * L ≤ n ∧ (∀ j : Int, 1 ≤ j → j < r → Alike l a (a + L) (a + j * L) (a + j * L + L)) := by
  obtain ⟨hn, hl, hv⟩ := sChk_val h
  intro d
  induction d with
  | zero =>
    intro m h1 hm hf ha
    rw [show 0 + 601 = 600 + 1 by omega, repeats_follows.l0, if_neg (by omega)]
    exact ⟨m, rfl, by omega, by omega, hf, ha⟩
  | succ d ih =>
    intro m h1 hm hf ha
    have hmL : 1 * 1 ≤ m * L := Int.mul_le_mul h1 hL (by omega) (by omega)
    have hLm : L ≤ m * L := by have := Int.mul_le_mul_of_nonneg_right h1 (show 0 ≤ L by omega); omega
    have w1 : wrap64 (m + 1) = m + 1 := by unfold wrap64; omega
    have e1 : (m + 1) * L = m * L + L := by rw [Int.add_mul, Int.one_mul]
    have w2 : wrap64 ((m + 1) * L) = m * L + L := by rw [e1]; unfold wrap64; omega
    have w3 : wrap64 (a + (m * L + L)) = a + m * L + L := by unfold wrap64; omega
    have w4 : wrap64 (a + L) = a + L := by unfold wrap64; omega
    have w5 : wrap64 (m * L) = m * L := by unfold wrap64; omega
    have w6 : wrap64 (a + m * L) = a + m * L := by unfold wrap64; omega
    rw [show d + 1 + 601 = (d + 601) + 1 by omega, repeats_follows.l0, if_pos (by omega), w1, w2, w3, w4, w5, w6]
    by_cases c : a + m * L + L ≤ n
    · rw [if_pos c]
      obtain ⟨r, hr, hA⟩ := same_eq h a (a + L) (a + m * L) (a + m * L + L) h0 (by omega) (by omega) (by omega) (by omega) c (d + 601) (by omega)
      rw [hr]
      simp only [Option.bind_some]
      cases r with
      | false => rw [if_neg (by simp)]; exact ⟨m, rfl, by omega, by omega, hf, ha⟩
      | true =>
        rw [if_pos rfl]
        obtain ⟨r, p1, p2, p3, p4, p5⟩ := ih (m + 1) (by omega) (by omega) (by rw [e1]; omega) (by
          intro j j1 j2
          by_cases e : j = m
          · subst e; exact hA rfl
          · exact ha j j1 (by omega))
        exact ⟨r, p1, by omega, p3, p4, p5⟩
    · rw [if_neg c]
      exact ⟨m, rfl, by omega, by omega, hf, ha⟩
theorem follows_eq {l : List S43} {n : Int} (h : sChk l n = 0) (a L : Int) (h0 : 0 ≤ a) (hL : 1 ≤ L) (hf : a + L ≤ n) (k : Nat) (hk : 700 ≤ k) : ∃ r, repeats_follows.f k l n a L = some r ∧ 1 ≤ r ∧ r ≤ 16 ∧ a + r * L ≤ n ∧ (∀ j : Int, 1 ≤ j → j < r → Alike l a (a + L) (a + j * L) (a + j * L + L)) := by
  obtain ⟨r, p1, p2⟩ := follows_l0 h a L h0 hL 15 1 (by omega) (by omega) (by omega) (by intro j a b; omega)
  refine ⟨r, ?_, p2⟩
  refine at_rounds (fun k => repeats_follows.mono l n a L k) (show 616 ≤ k by omega) ?_
  exact p1
end Go.Proofs.Ytkipahflihobeaa.X
