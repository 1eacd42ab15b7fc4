/- The plain laws of graphs, E: the reference's distances; paths. -/
import Derived.Test.YtlbkbodadkhogaaPd
namespace Go.Proofs.Ytlbkbodadkhogaa.Pure
open Go.RowKit Go.Proofs.Ytlbkbodadkhogaa.X Go.Proofs.YtlbkbodadkhogaaW.PrintWords
set_option linter.unusedVariables false
/-! Paths. -/
/-- y is a next node on a shortest path from x. -/
def Cnd (l : List S46) (F : List Int) (x y : Int) : Prop := hasA l x y = true ∧ rd F y = rd F x - 1
/-- y is the least of them. -/
def Lst (l : List S46) (F : List Int) (x y : Int) : Prop := Cnd l F x y ∧ ∀ z, Cnd l F x z → y ≤ z
/-- P is what follows x on the path to t. -/
def Pth (l : List S46) (F : List Int) (t : Int) : Int → List Int → Prop
  | x, [] => x = t
  | x, y :: P => x ≠ t ∧ Lst l F x y ∧ Pth l F t y P
theorem Pth.one {l : List S46} {F : List Int} {t : Int} : ∀ {P Q : List Int} {x : Int}, Pth l F t x P → Pth l F t x Q → P = Q := by
  intro P
  induction P with
  | nil =>
    intro Q x h k
    cases Q with
    | nil => rfl
    | cons y Q => exact absurd h k.1
  | cons y P ih =>
    intro Q x h k
    cases Q with
    | nil => exact absurd k h.1
    | cons z Q =>
      obtain ⟨h1, h2, h3⟩ := h
      obtain ⟨k1, k2, k3⟩ := k
      have e : y = z := Int.le_antisymm (h2.2 z k2.1) (k2.2 y h2.1)
      subst e
      rw [ih h3 k3]
theorem least_of {P : Int → Prop} (h0 : ∀ y, P y → 0 ≤ y) {y : Int} (h : P y) : ∃ z, P z ∧ ∀ w, P w → z ≤ w := by
  obtain ⟨n, hn⟩ := Int.eq_ofNat_of_zero_le (h0 y h)
  induction n using Nat.strongRecOn generalizing y with
  | ind n ih =>
    by_cases c : ∃ w, P w ∧ w < y
    · obtain ⟨w, hw, hl⟩ := c
      obtain ⟨m, hm⟩ := Int.eq_ofNat_of_zero_le (h0 w hw)
      exact ih m (by omega) hw hm
    · exact ⟨y, h, fun w hw => Int.not_lt.1 (fun q => c ⟨w, hw, q⟩)⟩
theorem Far.at0 {N : Nat} {l : List S46} {s : Int} {F : List Int} {b : Bool} (h : Far N l b s F) {y : Int} (y0 : 0 ≤ y) (y1 : y < N) {d : Nat} (e : rd F y = d) : Fst l b s d y := by
  rcases h.val y y0 y1 with ⟨q, _⟩ | ⟨j, q, f⟩
  · omega
  · have : j = d := by omega
    subst this; exact f
theorem Pth.exists {N : Nat} {l : List S46} (ho : Ok N l) {t : Int} {F : List Int} (hF : Far N l true t F) : ∀ (d : Nat) (x : Int), 0 ≤ x → x < N → rd F x = d → ∃ P, Pth l F t x P ∧ P.length = d := by
  intro d
  induction d with
  | zero =>
    intro x x0 x1 h
    exact ⟨[], (hF.at0 x0 x1 h).1, rfl⟩
  | succ d ih =>
    intro x x0 x1 h
    have f := hF.at0 x0 x1 h
    obtain ⟨y, fy, a, ha, e1, e2⟩ := f.pred
    have hr := ho a ha
    have ey : a.f1 = y := e1
    have ex : a.f0 = x := e2
    have hyd : rd F y = d := by
      rcases hF.val y (by omega) (by omega) with ⟨q, q2⟩ | ⟨j, q, f2⟩
      · exact absurd fy.1 (q2 d)
      · rw [q, f2.eq fy]
    have hc : Cnd l F x y := ⟨hasA_iff.2 ⟨a, ha, ex, ey⟩, by rw [hyd, h]; omega⟩
    obtain ⟨z, hz, hzl⟩ := least_of (P := Cnd l F x) (fun y hy => by
      obtain ⟨b, hb, e3, e4⟩ := hasA_iff.1 hy.1
      have := ho b hb; omega) hc
    obtain ⟨b, hb, e3, e4⟩ := hasA_iff.1 hz.1
    have hb2 := ho b hb
    obtain ⟨P, hP, hl⟩ := ih z (by omega) (by omega) (by have := hz.2; rw [h] at this; omega)
    refine ⟨z :: P, ⟨fun q => ?_, ⟨hz, hzl⟩, hP⟩, by simp [hl]⟩
    subst q
    have := f.eq (e := 0) ⟨rfl, fun e he => absurd he (by omega)⟩
    omega
theorem Far.small {N : Nat} {l : List S46} {s : Int} {F : List Int} {b : Bool} (ho : Ok N l) (hs : 0 ≤ s ∧ s < N) (h : Far N l b s F) {y : Int} (y0 : 0 ≤ y) (y1 : y < N) : -1 ≤ rd F y ∧ rd F y < N := by
  rcases h.val y y0 y1 with ⟨q, _⟩ | ⟨j, q, f⟩
  · omega
  · have := f.lt ho hs; omega
/-- The program's choice among the first arcs. -/
def bst (F : List Int) (x : Int) (m : Int) (a : S46) : Int := if a.f0 = x ∧ rd F a.f1 = rd F x - 1 then (if m < 0 ∨ a.f1 < m then a.f1 else m) else m
theorem bst_fold {N : Nat} (F : List Int) (x : Int) : ∀ (l : List S46), Ok N l → ∀ (m : Int), (∀ y, Cnd l F x y → l.foldl (bst F x) m ≤ y ∧ 0 ≤ l.foldl (bst F x) m) ∧ (0 ≤ m → l.foldl (bst F x) m ≤ m ∧ 0 ≤ l.foldl (bst F x) m) ∧ (l.foldl (bst F x) m = m ∨ Cnd l F x (l.foldl (bst F x) m)) := by
  intro l
  induction l with
  | nil => intro _ m; exact ⟨fun y hy => by simp [Cnd, hasA] at hy, fun h => ⟨Int.le_refl _, h⟩, .inl rfl⟩
  | cons a l ih =>
    intro ho m
    have ha := ho a (by simp)
    obtain ⟨h1, h2, h3⟩ := ih (fun z hz => ho z (by simp [hz])) (bst F x m a)
    rw [List.foldl_cons]
    have hc : ∀ y, Cnd (a :: l) F x y ↔ ((a.f0 = x ∧ a.f1 = y ∧ rd F y = rd F x - 1) ∨ Cnd l F x y) := by
      intro y
      unfold Cnd hasA
      simp only [List.any_cons, Bool.or_eq_true, Bool.and_eq_true, decide_eq_true_eq]
      constructor
      · rintro ⟨⟨q1, q2⟩ | q, q3⟩
        · exact .inl ⟨q1, q2, q3⟩
        · exact .inr ⟨q, q3⟩
      · rintro (⟨q1, q2, q3⟩ | ⟨q, q3⟩)
        · exact ⟨.inl ⟨q1, q2⟩, q3⟩
        · exact ⟨.inr q, q3⟩
    by_cases c : a.f0 = x ∧ rd F a.f1 = rd F x - 1
    · have hb : bst F x m a = if m < 0 ∨ a.f1 < m then a.f1 else m := by unfold bst; rw [if_pos c]
      have hb0 : 0 ≤ bst F x m a := by rw [hb]; split <;> omega
      have hb1 : bst F x m a ≤ a.f1 := by rw [hb]; split <;> omega
      obtain ⟨r1, r2⟩ := h2 hb0
      refine ⟨fun y hy => ?_, fun hm => ⟨?_, r2⟩, ?_⟩
      · rcases (hc y).1 hy with ⟨_, e, _⟩ | q
        · exact ⟨by omega, r2⟩
        · exact h1 y q
      · have : bst F x m a ≤ m := by rw [hb]; split <;> omega
        omega
      · rcases h3 with q | q
        · rw [q, hb]
          split
          · exact .inr ((hc _).2 (.inl ⟨c.1, rfl, c.2⟩))
          · exact .inl rfl
        · exact .inr ((hc _).2 (.inr q))
    · have hb : bst F x m a = m := by unfold bst; rw [if_neg c]
      rw [hb] at h1 h2 h3 ⊢
      refine ⟨fun y hy => ?_, h2, ?_⟩
      · rcases (hc y).1 hy with ⟨e1, e2, e3⟩ | q
        · exact absurd ⟨e1, by rw [e2]; exact e3⟩ c
        · exact h1 y q
      · rcases h3 with q | q
        · exact .inl q
        · exact .inr ((hc _).2 (.inr q))
theorem bst_least {N : Nat} {l : List S46} {F : List Int} {x y : Int} (ho : Ok N l) (h : Lst l F x y) : l.foldl (bst F x) (-1) = y := by
  obtain ⟨h1, h2, h3⟩ := bst_fold F x l ho (-1)
  obtain ⟨q1, q2⟩ := h1 y h.1
  rcases h3 with q | q
  · omega
  · exact Int.le_antisymm q1 (h.2 _ q)
end Go.Proofs.Ytlbkbodadkhogaa.Pure
