/- The plain laws of graphs, L: what a closure reaches. -/
import Derived.Test.YtlbkbodadkhogaaPn
namespace Go.Proofs.Ytlbkbodadkhogaa.Pure
open Go.RowKit Go.Proofs.Ytlbkbodadkhogaa.X Go.Proofs.YtlbkbodadkhogaaW.PrintWords
set_option linter.unusedVariables false
theorem Rch.arc {l : List S46} {a : S46} (h : a ∈ l) : Rch l a.f0 a.f1 := ⟨1, a.f0, rfl, a, h, rfl, rfl⟩
theorem Cls.rch {l : List S46} {x y : Int} (h : Cls l x y) : Rch l x y := by
  obtain ⟨a, ha, e, r⟩ := h
  rw [← e]
  exact (Rch.arc ha).trans r
theorem Cls.trans {l : List S46} {x y z : Int} (h : Cls l x y) (r : Rch l y z) : Cls l x z := by
  obtain ⟨a, ha, e, q⟩ := h
  exact ⟨a, ha, e, q.trans r⟩
theorem cls_of {l : List S46} {x : Int} : ∀ {d : Nat} {y : Int}, Wk l false x (d + 1) y → Cls l x y := by
  intro d
  induction d with
  | zero =>
    rintro y ⟨z, w, a, ha, e1, e2⟩
    cases w
    exact ⟨a, ha, e1, by rw [show a.f1 = y from e2]; exact Rch.refl l y⟩
  | succ d ih =>
    rintro y ⟨z, w, a, ha, e1, e2⟩
    refine (ih w).trans ?_
    have := Rch.arc ha
    rwa [show a.f0 = z from e1, show a.f1 = y from e2] at this
section
variable {N : Nat} {l c : List S46}
theorem rch_eq (ho : Ok N l) (hc : ∀ a, a ∈ c ↔ (0 ≤ a.f0 ∧ a.f0 < (N : Int) ∧ 0 ≤ a.f1 ∧ a.f1 < (N : Int) ∧ Cls l a.f0 a.f1)) {x y : Int} : Rch c x y ↔ Rch l x y := by
  constructor
  · rintro ⟨d, w⟩
    induction d generalizing y with
    | zero => cases w; exact Rch.refl _ _
    | succ d ih =>
      obtain ⟨z, w, a, ha, e1, e2⟩ := w
      have h := ((hc a).1 ha).2.2.2.2.rch
      rw [show a.f0 = z from e1, show a.f1 = y from e2] at h
      exact (ih w).trans h
  · rintro ⟨d, w⟩
    induction d generalizing y with
    | zero => cases w; exact Rch.refl _ _
    | succ d ih =>
      obtain ⟨z, w, a, ha, e1, e2⟩ := w
      have hr := ho a ha
      have h : a ∈ c := (hc a).2 ⟨hr.1, hr.2.1, hr.2.2.1, hr.2.2.2, a, ha, rfl, Rch.refl l _⟩
      have h2 := Rch.arc h
      rw [show a.f0 = z from e1, show a.f1 = y from e2] at h2
      exact (ih w).trans h2
theorem cls_eq (ho : Ok N l) (hc : ∀ a, a ∈ c ↔ (0 ≤ a.f0 ∧ a.f0 < (N : Int) ∧ 0 ≤ a.f1 ∧ a.f1 < (N : Int) ∧ Cls l a.f0 a.f1)) {x y : Int} (hx : 0 ≤ x ∧ x < N) (hy : 0 ≤ y ∧ y < N) : Cls c x y ↔ Cls l x y := by
  constructor
  · rintro ⟨a, ha, e, r⟩
    have h := ((hc a).1 ha).2.2.2.2
    rw [e] at h
    exact h.trans ((rch_eq ho hc).1 r)
  · intro h
    exact ⟨⟨x, y⟩, (hc _).2 ⟨hx.1, hx.2, hy.1, hy.2, h⟩, rfl, Rch.refl c y⟩
end
end Go.Proofs.Ytlbkbodadkhogaa.Pure
