/- The plain law GraphWays. -/
import Derived.Test.YtlbkbodadkhogaaPf
import Derived.Test.YtlbkbodadkhogaaX31
import Derived.Test.YtlbkbodadkhogaaArgs
namespace Go.Proofs.Ytlbkbodadkhogaa.Pure
open Go.RowKit Go.Proofs.Ytlbkbodadkhogaa.X Go.Proofs.YtlbkbodadkhogaaW.PrintWords
set_option linter.unusedVariables false
theorem Ed.flip {l : List S46} {b : Bool} {x y : Int} (h : Ed l b x y) : Ed l (!b) y x := by
  obtain ⟨a, ha, e1, e2⟩ := h
  refine ⟨a, ha, ?_, ?_⟩
  · cases b <;> simpa [frm, tow] using e2
  · cases b <;> simpa [frm, tow] using e1
theorem Wk.front {l : List S46} {b : Bool} {s x : Int} (h : Ed l b s x) : ∀ {d : Nat} {y : Int}, Wk l b x d y → Wk l b s (d + 1) y := by
  intro d
  induction d with
  | zero => intro y w; cases w; exact ⟨s, rfl, h⟩
  | succ d ih => intro y w; obtain ⟨z, w, e⟩ := w; exact ⟨z, ih w, e⟩
theorem Wk.flip {l : List S46} {b : Bool} {s : Int} : ∀ {d : Nat} {y : Int}, Wk l b s d y → Wk l (!b) y d s := by
  intro d
  induction d with
  | zero => intro y w; cases w; exact rfl
  | succ d ih => intro y w; obtain ⟨z, w, e⟩ := w; exact Wk.front e.flip (ih w)
theorem Pth.last {l : List S46} {F : List Int} {t : Int} : ∀ {P : List Int} {x : Int}, Pth l F t x P → ∀ (h : P.length < (x :: P).length), (x :: P)[P.length] = t := by
  intro P
  induction P with
  | nil => intro x h _; exact h
  | cons y P ih => intro x h hl; exact ih h.2.2 (by simp)
theorem ways_l0 {n : Int} {l : List S46} {N : Nat} (hnn : n = N) (hN : N ≤ 64) (hl : l.length ≤ 512) (ho : Ok N l) (hz : gchk n l = 0) (t : Int) (ht : 0 ≤ t ∧ t < N) (F : List Int) (hF : Far N l true t F) :
    ∀ (rest : List Int) (x : Int) (pre : List Int), (0 ≤ x ∧ x < N) → Pth l F t x rest → rd F x = rest.length → pre.length + rest.length ≤ 1000 →
      Ev (fun k => dancestudiolaw09_GraphWays.l0 k t (pre ++ x :: rest) ((pre.length + 1 : Nat) : Int) n l) true := by
  intro rest
  induction rest with
  | nil =>
    intro x pre hx hp hd hb
    refine Ev.step (f := fun _ => some true) (fun k => ?_) (Ev.now _)
    simp only [dancestudiolaw09_GraphWays.l0]
    rw [if_neg (by simp), aw_f]
    rfl
  | cons y rest ih =>
    intro x pre hx hp hd hb
    obtain ⟨h1, h2, h3⟩ := hp
    obtain ⟨a, ha, e1, e2⟩ := hasA_iff.1 h2.1.1
    have hr := ho a ha
    have hy : 0 ≤ y ∧ y < N := by omega
    have hyd : rd F y = rest.length := by have := h2.1.2; rw [hd] at this; simp only [List.length_cons] at this; omega
    simp only [List.length_cons] at hb
    have hn := ih y (pre ++ [x]) hy h3 hyd (by simp only [List.length_append, List.length_cons, List.length_nil]; omega)
    rw [List.append_assoc, List.singleton_append, show (pre ++ [x]).length = pre.length + 1 from by simp] at hn
    obtain ⟨F2, r, f1, f2, f3⟩ := gpath_ev hnn hN hl ho hz y t hy ht
    obtain rfl := hF.one f1
    have hr2 : r = (y :: rest, 0) := by
      rcases f2 with ⟨q, _⟩ | ⟨d, P, q1, q2, q3, q4⟩
      · omega
      · rw [q4, Pth.one q2 h3]
    subst hr2
    have hlen : ((pre ++ x :: y :: rest).length : Int) = (pre.length : Int) + rest.length + 2 := by simp only [List.length_append, List.length_cons]; omega
    have hdrop : (pre ++ x :: y :: rest).drop (((pre.length + 1 : Nat) : Int)).toNat = y :: rest := by
      rw [Int.toNat_natCast, ← List.drop_drop, List.drop_left]
      rfl
    have hri : rd (pre ++ x :: y :: rest) ((pre.length + 1 : Nat) : Int) = y := by
      rw [rdI _ _ (by simp only [List.length_append, List.length_cons]; omega), List.getElem_append_right (by omega)]
      simp
    have hrp : rd (pre ++ x :: y :: rest) ((pre.length : Nat) : Int) = x := by
      rw [rdI _ _ (by simp only [List.length_append, List.length_cons]; omega), List.getElem_append_right (by omega)]
      simp
    refine Ev.step (fun k => by simp only [dancestudiolaw09_GraphWays.l0]; rw [if_pos (by rw [hlen]; omega), if_pos (by omega), hri]) ?_
    refine Ev.bind f3 ?_
    refine Ev.congr (fun k => by rw [if_pos rfl, if_pos (by rw [hlen]; omega), hdrop]) ?_
    refine Ev.bind (ints_ev (y :: rest) (y :: rest) (by simp only [List.length_cons]; omega)) ?_
    have hw : wrap64 (((pre.length + 1 : Nat) : Int) - 1) = (pre.length : Int) := by unfold wrap64; omega
    refine Ev.congr (fun k => by rw [if_pos (by simp), hw, if_pos (by omega), if_pos (by rw [hlen]; omega), hrp]) ?_
    refine Ev.bind (has_ev n l x y (by omega)) ?_
    refine Ev.congr (fun k => by rw [if_pos h2.1.1, w64 (by omega)]) hn
theorem GraphWays (n : Int) (l : List S46) (s t : Int) (_ : W24 ⟨n, l⟩) (_ : (Lit.int .i64 s).wf = true) (_ : (Lit.int .i64 t).wf = true) : ∃ k, dancestudiolaw09_GraphWays.f k n l s t = some true := by
  refine Ev.rounds ?_
  unfold dancestudiolaw09_GraphWays.f
  refine Ev.bind (light_ev n l) ?_
  have skip : Ev (fun k => dancestudiolaw09_GraphWays.j0 k s t true n l) true := by
    refine Ev.step (f := fun _ => some true) (fun k => ?_) (Ev.now _)
    simp only [dancestudiolaw09_GraphWays.j0]
    rw [if_pos trivial, aw_f]
    rfl
  by_cases hlt : light n l = true
  · refine Ev.congr (fun k => if_pos hlt) ?_
    refine Ev.bind (gchk_ev n l) ?_
    by_cases hz : gchk n l = 0
    · by_cases c1 : s < 0
      · exact Ev.congr (fun k => by rw [if_pos hz, if_pos c1]) skip
      by_cases c2 : s ≥ n
      · exact Ev.congr (fun k => by rw [if_pos hz, if_neg c1, if_pos c2]) skip
      by_cases c3 : t < 0
      · exact Ev.congr (fun k => by rw [if_pos hz, if_neg c1, if_neg c2, if_pos c3]) skip
      by_cases c4 : t ≥ n
      · exact Ev.congr (fun k => by rw [if_pos hz, if_neg c1, if_neg c2, if_neg c3, decide_eq_true c4]) skip
      refine Ev.congr (fun k => by rw [if_pos hz, if_neg c1, if_neg c2, if_neg c3, decide_eq_false c4]) ?_
      obtain ⟨N, hn, hN, hl, ho⟩ := ok_of hz
      have hs : 0 ≤ s ∧ s < (N : Int) := by omega
      have ht : 0 ≤ t ∧ t < (N : Int) := by omega
      obtain ⟨A, a1, a2⟩ := greach_ev hn hN hl ho hz s hs
      obtain ⟨F, r, f1, f2, f3⟩ := gpath_ev hn hN hl ho hz s t hs ht
      refine Ev.step (fun k => by simp only [dancestudiolaw09_GraphWays.j0]; rw [if_neg (by simp)]) (Ev.bind a2 (Ev.bind f3 ?_))
      have hiff : rdOf false A t = true ↔ ¬ rd F s < 0 := by
        rw [a1.val t ht.1 ht.2]
        constructor
        · rintro ⟨d, w⟩ q
          have w' : Wk l true t d s := Wk.flip (b := false) w
          rcases f1.val s hs.1 hs.2 with ⟨_, q2⟩ | ⟨e, q2, _⟩
          · exact q2 d w'
          · omega
        · intro q
          rcases f1.val s hs.1 hs.2 with ⟨q2, _⟩ | ⟨e, q2, q3⟩
          · omega
          · exact ⟨e, Wk.flip (b := true) q3.1⟩
      have hAl : (A.length : Int) = n := by rw [a1.len]; omega
      have hj1 : Ev (fun k => dancestudiolaw09_GraphWays.j1 k s t r.1 r.2 (rdOf false A t != (r.2 == 0)) n l) true := by
        rcases f2 with ⟨q, e⟩ | ⟨d, P, q1, q2, q3, e⟩
        · subst e
          have : rdOf false A t = false := by
            cases h : rdOf false A t with
            | false => rfl
            | true => exact absurd q (hiff.1 h)
          refine Ev.step (f := fun _ => some true) (fun k => ?_) (Ev.now _)
          simp only [dancestudiolaw09_GraphWays.j1]
          rw [this, if_neg (by decide), if_neg (by decide), if_pos trivial, if_pos (by simp), aw_f]
          rfl
        · subst e
          have hb : rdOf false A t = true := hiff.2 (by omega)
          have hdN := (f1.small ho ht hs.1 hs.2).2
          have hj2 : Ev (fun k => dancestudiolaw09_GraphWays.j2 k t (s :: P) false n l) true := by
            refine Ev.step (f := fun k => dancestudiolaw09_GraphWays.l0 k t (s :: P) 1 n l) (fun k => ?_) ?_
            · simp only [dancestudiolaw09_GraphWays.j2]
              rw [if_neg (by simp)]
            · exact ways_l0 hn hN hl ho hz t ht F f1 P s [] hs q2 (by omega) (by simp; omega)
          refine Ev.step (f := fun k => dancestudiolaw09_GraphWays.j2 k t (s :: P) false n l) (fun k => ?_) hj2
          have hlen : ((s :: P).length : Int) = (P.length : Int) + 1 := by simp only [List.length_cons]; omega
          have hw : wrap64 (((s :: P).length : Int) - 1) = ((P.length : Nat) : Int) := by rw [hlen]; unfold wrap64; omega
          have h0 : rd (s :: P) 0 = s := rfl
          have hL : rd (s :: P) ((P.length : Nat) : Int) = t := by rw [rdI _ _ (by simp)]; exact q2.last _
          simp only [dancestudiolaw09_GraphWays.j1]
          rw [hb, if_neg (by decide), if_pos trivial, if_neg (by rw [hlen]; omega), if_neg (by rw [hlen]; omega), if_pos (by rw [hlen]; omega), h0, if_pos rfl, hw, if_pos (by omega), if_pos (by rw [hlen]; omega), hL]
          simp
      refine Ev.congr (fun k => by rw [if_pos rfl, if_pos hAl, if_pos ht.1, if_pos (by rw [hAl]; omega)]) hj1
    · exact Ev.congr (fun k => by rw [if_neg hz]) skip
  · exact Ev.congr (fun k => if_neg hlt) skip
end Go.Proofs.Ytlbkbodadkhogaa.Pure
