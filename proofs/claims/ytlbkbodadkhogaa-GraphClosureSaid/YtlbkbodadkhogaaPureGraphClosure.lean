/- The plain law GraphClosure. -/
import Derived.Test.YtlbkbodadkhogaaPl
import Derived.Test.YtlbkbodadkhogaaX32
import Derived.Test.YtlbkbodadkhogaaArgs
namespace Go.Proofs.Ytlbkbodadkhogaa.Pure
open Go.RowKit Go.Proofs.Ytlbkbodadkhogaa.X Go.Proofs.YtlbkbodadkhogaaW.PrintWords
set_option linter.unusedVariables false
theorem rdL4' (P : List (List Int)) (i : Nat) (h : i < P.length) : rd_L4 P (i : Int) = P[i] := by simp [rd_L4, h]
theorem gcl_l2 {n : Int} {l c : List S46} {N : Nat} (hnn : n = N) (hN : N ≤ 64) (hc : c.length ≤ 512) (B : List Bool) (hB : B.length = N) (x : Nat) (hv : ∀ y : Nat, y < N → x ≠ y → rdOf false B (y : Int) = hasA c x y)
    (hn : Ev (fun k => dancestudiolaw09_GraphClosure.l1 k ((x + 1 : Nat) : Int) n l n c) true) (hx : x ≤ 100) : ∀ (e y : Nat), N - y = e → y ≤ N → Ev (fun k => dancestudiolaw09_GraphClosure.l2 k (x : Int) B (y : Int) n l n c) true := by
  intro e
  induction e with
  | zero =>
    intro y he hy
    refine Ev.step (fun k => ?_) hn
    simp only [dancestudiolaw09_GraphClosure.l2]
    rw [if_neg (by omega), w64 (by omega)]
  | succ e ih =>
    intro y he hy
    have h := ih (y + 1) (by omega) (by omega)
    by_cases q : x = y
    · refine Ev.step (fun k => ?_) h
      simp only [dancestudiolaw09_GraphClosure.l2]
      rw [if_pos (by omega), if_pos (by omega), w64 (by omega)]
    · refine Ev.step (fun k => by simp only [dancestudiolaw09_GraphClosure.l2]; rw [if_pos (by omega), if_neg (by omega), if_pos (by omega), if_pos (by omega)]) (Ev.bind (has_ev n c x y (by omega)) ?_)
      refine Ev.congr (fun k => ?_) h
      rw [hv y (by omega) q, if_neg (by simp), w64 (by omega)]
theorem gcl_l1 {n : Int} {l c : List S46} {N : Nat} (hnn : n = N) (hN : N ≤ 64) (hl : l.length ≤ 512) (ho : Ok N l) (hz : gchk n l = 0) (hcl : c.length ≤ 512) (hc : ∀ a, a ∈ c ↔ (0 ≤ a.f0 ∧ a.f0 < (N : Int) ∧ 0 ≤ a.f1 ∧ a.f1 < (N : Int) ∧ Cls l a.f0 a.f1)) :
    ∀ (e x : Nat), N - x = e → x ≤ N → Ev (fun k => dancestudiolaw09_GraphClosure.l1 k (x : Int) n l n c) true := by
  intro e
  induction e with
  | zero =>
    intro x he hx
    refine Ev.step (f := fun _ => some true) (fun k => ?_) (Ev.now _)
    simp only [dancestudiolaw09_GraphClosure.l1]
    rw [if_neg (by omega), aw_f]
    rfl
  | succ e ih =>
    intro x he hx
    obtain ⟨B, b1, b2⟩ := greach_ev hnn hN hl ho hz (x : Int) (by omega)
    refine Ev.step (fun k => by simp only [dancestudiolaw09_GraphClosure.l1]; rw [if_pos (by omega)]) (Ev.bind b2 ?_)
    have hb : ((B.length : Int) != n) = false := by simp [b1.len, hnn]
    refine Ev.congr (f := fun k => dancestudiolaw09_GraphClosure.j4 k (x : Int) B false n l n c) (fun k => by simp only; rw [if_pos trivial, hb]) ?_
    refine Ev.step (f := fun k => dancestudiolaw09_GraphClosure.l2 k (x : Int) B 0 n l n c) (fun k => ?_) (gcl_l2 hnn hN hcl B b1.len x (fun y hy q => ?_) (ih (x + 1) (by omega) (by omega)) (by omega) N 0 (by omega) (by omega))
    · simp only [dancestudiolaw09_GraphClosure.j4]
      rw [if_neg (by simp)]
    · apply Bool.eq_iff_iff.2
      rw [b1.val y (by omega) (by omega), hasA_iff]
      constructor
      · rintro ⟨d, w⟩
        cases d with
        | zero => exact absurd (show (y : Int) = x from w) (by omega)
        | succ d => exact ⟨⟨(x : Int), (y : Int)⟩, (hc _).2 ⟨by simp only; omega, by simp only; omega, by simp only; omega, by simp only; omega, cls_of w⟩, rfl, rfl⟩
      · rintro ⟨a, ha, e1, e2⟩
        have h := ((hc a).1 ha).2.2.2.2.rch
        rw [e1, e2] at h
        exact h
theorem gcl_l0 {n : Int} {l c : List S46} (P : List (List Int)) (hP : P.length ≤ 1000) (hp : ∀ p ∈ P, p.length ≤ 1000) (h : Ev (fun k => dancestudiolaw09_GraphClosure.l1 k 0 n l n c) true) : ∀ (e i : Nat), P.length - i = e → i ≤ P.length → Ev (fun k => dancestudiolaw09_GraphClosure.l0 k P P (i : Int) n l n c) true := by
  intro e
  induction e with
  | zero =>
    intro i he hi
    refine Ev.step (fun k => ?_) h
    simp only [dancestudiolaw09_GraphClosure.l0]
    rw [if_neg (by omega)]
  | succ e ih =>
    intro i he hi
    have hlt : i < P.length := by omega
    have := hp P[i] (List.getElem_mem _)
    refine Ev.step (fun k => by simp only [dancestudiolaw09_GraphClosure.l0]; rw [if_pos (by omega), if_pos (by omega), if_pos (by omega), rdL4' P i hlt]) (Ev.bind (ints_ev P[i] P[i] (by omega)) ?_)
    exact Ev.congr (fun k => by rw [if_pos (by simp), w64 (by omega)]) (ih (i + 1) (by omega) (by omega))
theorem GraphClosure (n : Int) (l : List S46) (_ : W24 ⟨n, l⟩) : ∃ k, dancestudiolaw09_GraphClosure.f k n l = some true := by
  refine Ev.rounds ?_
  unfold dancestudiolaw09_GraphClosure.f
  refine Ev.bind (light_ev n l) ?_
  have skip : Ev (fun k => dancestudiolaw09_GraphClosure.j0 k true n l) true := by
    refine Ev.step (f := fun _ => some true) (fun k => ?_) (Ev.now _)
    simp only [dancestudiolaw09_GraphClosure.j0]
    rw [if_pos trivial, aw_f]
    rfl
  by_cases hlt : light n l = true
  · refine Ev.congr (fun k => if_pos hlt) ?_
    refine Ev.bind (gchk_ev n l) ?_
    by_cases hz : gchk n l = 0
    · obtain ⟨N, hn, hN, hl, ho⟩ := ok_of hz
      refine Ev.congr (f := fun k => dancestudiolaw09_GraphClosure.j0 k false n l) (fun k => by rw [hz]; rfl) ?_
      refine Ev.step (fun k => by simp only [dancestudiolaw09_GraphClosure.j0]; rw [if_neg (by simp)]) (Ev.bind (gclose_ev hn hN hl ho hz) ?_)
      obtain ⟨c, hce⟩ : ∃ c, c = gen (clsB l) N N 0 := ⟨_, rfl⟩
      have hc : ∀ a, a ∈ c ↔ (0 ≤ a.f0 ∧ a.f0 < (N : Int) ∧ 0 ≤ a.f1 ∧ a.f1 < (N : Int) ∧ Cls l a.f0 a.f1) := fun a => by
        rw [hce, mem_gen, clsB_iff]
        constructor
        · rintro ⟨h1, h2, h3⟩; exact ⟨by omega, by omega, h3⟩
        · rintro ⟨h1, h2, h3⟩; exact ⟨by omega, by omega, h3⟩
      by_cases q : c.length ≤ 512
      · have hI : CloseIs N l = (n, c, 0) := by unfold CloseIs; rw [← hce, if_pos q, hn]
        have hoc : Ok N c := fun a ha => by have := (hc a).1 ha; omega
        have hzc : gchk n c = 0 := by
          unfold gchk
          rw [if_neg (by omega), if_neg (by omega), if_pos]
          rw [List.all_eq_true]
          intro a ha
          have := hoc a ha
          simp [okArc]
          omega
        have hgen : gen (clsB c) N N 0 = c := by
          refine Str.one (gen_str _ _ _ _) (by rw [hce]; exact gen_str _ _ _ _) (fun a => ?_)
          rw [mem_gen, clsB_iff, hc a]
          constructor
          · rintro ⟨h1, h2, h3, h4, h5⟩; exact ⟨by omega, by omega, h3, h4, (cls_eq ho hc ⟨by omega, by omega⟩ ⟨h3, h4⟩).1 h5⟩
          · rintro ⟨h1, h2, h3, h4, h5⟩; exact ⟨by omega, by omega, h3, h4, (cls_eq ho hc ⟨by omega, by omega⟩ ⟨h3, h4⟩).2 h5⟩
        have hIc : CloseIs N c = (n, c, 0) := by unfold CloseIs; rw [hgen, if_pos q, hn]
        have hm : mutB c = mutB l := by
          funext x y
          apply Bool.eq_iff_iff.2
          rw [mutB_iff, mutB_iff]
          unfold Mut
          rw [rch_eq ho hc, rch_eq ho hc]
        have g1 := gclose_ev hn hN q hoc hzc
        have g2 := gparts_ev hn hN hl ho hz
        have g3 := gparts_ev hn hN q hoc hzc
        rw [hIc] at g1
        rw [hm] at g3
        obtain ⟨b1, b2⟩ := prts_len (mutB l) N N 0 (List.replicate N false) [] (by simp)
        obtain ⟨P, hP⟩ : ∃ P, P = prts (mutB l) N N 0 (List.replicate N false) [] := ⟨_, rfl⟩
        rw [← hP] at g2 g3 b1 b2
        simp only [List.length_nil, Nat.zero_add] at b1
        rw [hI]
        refine Ev.congr (fun k => if_pos rfl) (Ev.bind g1 (Ev.bind g2 (Ev.bind g3 ?_)))
        refine Ev.congr (fun k => by rw [if_pos rfl, if_pos rfl, if_pos rfl]) (Ev.bind (same_ev n c (by omega)) ?_)
        refine Ev.congr (f := fun k => dancestudiolaw09_GraphClosure.j1 k P P false n l n c) (fun k => by rw [if_pos rfl]; simp) ?_
        refine Ev.step (f := fun k => dancestudiolaw09_GraphClosure.l0 k P P 0 n l n c) (fun k => ?_) (gcl_l0 P (by omega) (fun p hp => by have := b2 p hp; omega) (gcl_l1 hn hN hl ho hz q hc N 0 (by omega) (by omega)) P.length 0 (by omega) (by omega))
        simp only [dancestudiolaw09_GraphClosure.j1]
        rw [if_neg (by simp)]
      · have hI : CloseIs N l = (0, [], 3) := by unfold CloseIs; rw [← hce, if_neg q]
        rw [hI]
        exact Ev.congr (f := fun _ => some true) (fun k => by rw [if_neg (by decide), if_pos rfl, if_pos rfl, if_pos (by simp), aw_f]; rfl) (Ev.now _)
    · exact Ev.congr (fun k => by rw [show (gchk n l != 0) = true from by simpa using hz]) skip
  · exact Ev.congr (fun k => if_neg hlt) skip
end Go.Proofs.Ytlbkbodadkhogaa.Pure
