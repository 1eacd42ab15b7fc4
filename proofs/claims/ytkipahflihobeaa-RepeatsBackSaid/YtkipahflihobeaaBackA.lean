/- Plain facts on staves: valid staves, cuts of a staff, how often a section follows. Lemmas. -/
import Derived.Test.YtkipahflihobeaaX9
import Derived.Test.YtkipahflihobeaaPlain0
namespace Go.Proofs.Ytkipahflihobeaa.X
open Go.RowKit Go.Proofs.YtkipahflihobeaaW.PrintWords
set_option linter.unusedVariables false
set_option linter.unusedSimpArgs false
/-- Two symbols of one staff, the first ahead of the second. -/
def two (x y : S43) : Prop := sL x y = true ∧ (x.f1 = y.f1 → x.f2 + x.f3 ≤ y.f2)
/-- A part of a valid staff, ended by a tick. -/
def Val (L : List S43) (e : Int) : Prop := (∀ x ∈ L, sE x = 0 ∧ x.f2 + x.f3 ≤ e) ∧ L.Pairwise two
theorem sL_trans {x y z : S43} (h1 : sL x y = true) (h2 : sL y z = true) : sL x z = true := by
  unfold sL at *
  simp only [Bool.or_eq_true, Bool.and_eq_true, decide_eq_true_eq] at *
  omega
theorem chkOrd_pair : ∀ {l : List S43}, chkOrd l = true → l.Pairwise (fun x y => sL x y = true)
  | [], _ => List.Pairwise.nil
  | [x], _ => by simp
  | x :: y :: l, h => by
    unfold chkOrd at h
    rw [Bool.and_eq_true] at h
    have ih := chkOrd_pair h.2
    refine List.Pairwise.cons ?_ ih
    intro z hz
    rcases List.mem_cons.1 hz with rfl | hz
    · exact h.1
    · exact sL_trans h.1 ((List.pairwise_cons.1 ih).1 z hz)
theorem pair_chkOrd : ∀ {l : List S43}, l.Pairwise (fun x y => sL x y = true) → chkOrd l = true
  | [], _ => rfl
  | [x], _ => rfl
  | x :: y :: l, h => by
    unfold chkOrd
    obtain ⟨a, b⟩ := List.pairwise_cons.1 h
    rw [Bool.and_eq_true]
    exact ⟨a y (by simp), pair_chkOrd b⟩
theorem rd_set (ends : List Int) (c d : Int) (v : Int) (hc : 0 ≤ c) (hd : 0 ≤ d) (hl : c < ends.length) : rd (ends.set c.toNat v) d = if c = d then v else rd ends d := by
  unfold rd
  by_cases h : c = d
  · subst h
    rw [if_pos rfl]
    simp [List.getD_eq_getElem?_getD]
    have : c.toNat < ends.length := by omega
    simp [this]
  · rw [if_neg h]
    have : c.toNat ≠ d.toNat := by omega
    simp [List.getD_eq_getElem?_getD, List.getElem?_set, this]
theorem ov_iff {n : Int} : ∀ (l : List S43) (ends : List Int), ends.length = 9 → (∀ x ∈ l, sE x = 0) → (ov l n ends = 0 ↔ (∀ x ∈ l, x.f2 + x.f3 ≤ n ∧ rd ends x.f1 ≤ x.f2) ∧ l.Pairwise (fun x y => x.f1 = y.f1 → x.f2 + x.f3 ≤ y.f2))
  | [], ends, _, _ => by simp [ov]
  | x :: l, ends, hl, hs => by
    obtain ⟨_, _, a, b, c, _, d, _⟩ := sE_ok (hs x (by simp))
    have hs' : ∀ y ∈ l, sE y = 0 := fun y hy => hs y (by simp [hy])
    have ih := ov_iff (n := n) l (ends.set x.f1.toNat (x.f2 + x.f3)) (by simp [hl]) hs'
    unfold ov
    by_cases c1 : x.f2 + x.f3 > n
    · rw [if_pos c1]
      constructor
      · intro h; omega
      · intro h; have := h.1 x (by simp); omega
    rw [if_neg c1]
    by_cases c2 : rd ends x.f1 > x.f2
    · rw [if_pos c2]
      constructor
      · intro h; omega
      · intro h; have := h.1 x (by simp); omega
    rw [if_neg c2, ih]
    constructor
    · intro h
      have key : ∀ y ∈ l, (x.f1 = y.f1 → x.f2 + x.f3 ≤ y.f2) ∧ (y.f2 + y.f3 ≤ n ∧ rd ends y.f1 ≤ y.f2) := by
        intro y hy
        obtain ⟨_, _, a', b', _⟩ := sE_ok (hs' y hy)
        have h1 := h.1 y hy
        rw [rd_set ends x.f1 y.f1 _ (by omega) (by omega) (by omega)] at h1
        by_cases e : x.f1 = y.f1
        · rw [if_pos e] at h1
          refine ⟨fun _ => h1.2, h1.1, ?_⟩
          rw [← e]; omega
        · rw [if_neg e] at h1
          exact ⟨fun h => absurd h e, h1⟩
      refine ⟨?_, List.Pairwise.cons (fun y hy => (key y hy).1) h.2⟩
      intro y hy
      rcases List.mem_cons.1 hy with rfl | hy
      · exact ⟨by omega, by omega⟩
      · exact (key y hy).2
    · intro h
      obtain ⟨p, q⟩ := List.pairwise_cons.1 h.2
      refine ⟨?_, q⟩
      intro y hy
      obtain ⟨_, _, a', b', _⟩ := sE_ok (hs' y hy)
      have h1 := h.1 y (by simp [hy])
      rw [rd_set ends x.f1 y.f1 _ (by omega) (by omega) (by omega)]
      refine ⟨h1.1, ?_⟩
      by_cases e : x.f1 = y.f1
      · rw [if_pos e]; exact p y hy e
      · rw [if_neg e]; exact h1.2
theorem firstE_zero {l : List S43} (h : ∀ x ∈ l, sE x = 0) : firstE l = 0 := by
  induction l with
  | nil => rfl
  | cons y l ih =>
    unfold firstE
    rw [if_pos (h y (by simp))]
    exact ih fun x hx => h x (by simp [hx])
theorem sChk_val {l : List S43} {n : Int} (h : sChk l n = 0) : (1 ≤ n ∧ n ≤ 8192) ∧ l.length ≤ 256 ∧ Val l n := by
  obtain ⟨h1, h2, h3, h4, h5⟩ := sChk_ok h
  have h6 := (ov_iff l [0, 0, 0, 0, 0, 0, 0, 0, 0] rfl h3).1 h5
  exact ⟨h1, h2, fun x hx => ⟨h3 x hx, (h6.1 x hx).1⟩, List.Pairwise.and (chkOrd_pair h4) h6.2⟩
theorem rd_zero (c : Int) : rd [0, 0, 0, 0, 0, 0, 0, 0, 0] c = 0 := by
  unfold rd
  have : ∀ m : Nat, ([0, 0, 0, 0, 0, 0, 0, 0, 0] : List Int).getD m 0 = 0 := by
    intro m
    by_cases h : m < 9
    · match m, h with
      | 0, _ | 1, _ | 2, _ | 3, _ | 4, _ | 5, _ | 6, _ | 7, _ | 8, _ => rfl
    · simp [List.getD_eq_getElem?_getD]
      have : ([0, 0, 0, 0, 0, 0, 0, 0, 0] : List Int)[m]? = none := by rw [List.getElem?_eq_none_iff]; simp; omega
      rw [this]; rfl
  exact this _
theorem val_sChk {l : List S43} {n : Int} (h1 : 1 ≤ n) (h2 : n ≤ 8192) (h3 : l.length ≤ 256) (h : Val l n) : sChk l n = 0 := by
  unfold sChk
  have hs : ∀ x ∈ l, sE x = 0 := fun x hx => (h.1 x hx).1
  rw [if_neg (by omega), if_neg (by omega), if_neg (by omega), if_pos (firstE_zero hs), if_pos (pair_chkOrd (h.2.imp fun h => h.1))]
  rw [ov_iff l _ rfl hs]
  refine ⟨?_, h.2.imp fun h => h.2⟩
  intro x hx
  obtain ⟨_, _, _, _, c, _⟩ := sE_ok (hs x hx)
  refine ⟨(h.1 x hx).2, ?_⟩
  rw [rd_zero]; exact c
/-- A symbol lies over an end of a section. -/
def strad (a b : Int) (x : S43) : Bool := decide (x.f2 < a ∧ x.f2 + x.f3 > a ∨ x.f2 < b ∧ x.f2 + x.f3 > b)
def cutS (l : List S43) (a b : Int) : List S43 × Int := if l.any (strad a b) = true then ([], 17) else ((l.filter (inS a b)).map (mvS43 (wrap64 (-a))), 0)
end Go.Proofs.Ytkipahflihobeaa.X
