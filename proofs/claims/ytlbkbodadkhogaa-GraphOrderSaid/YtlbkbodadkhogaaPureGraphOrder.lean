/- The plain law GraphOrder. -/
import Derived.Test.YtlbkbodadkhogaaPg
import Derived.Test.YtlbkbodadkhogaaX5
import Derived.Test.YtlbkbodadkhogaaX30
import Derived.Test.YtlbkbodadkhogaaArgs
namespace Go.Proofs.Ytlbkbodadkhogaa.Pure
open Go.RowKit Go.Proofs.Ytlbkbodadkhogaa.X Go.Proofs.YtlbkbodadkhogaaW.PrintWords
set_option linter.unusedVariables false
theorem nodup_inj {L : List Int} (h : L.Nodup) {i j : Nat} (hi : i < L.length) (hj : j < L.length) (e : L[i] = L[j]) : i = j := by
  rcases Nat.lt_trichotomy i j with q | q | q
  · exact absurd e (List.pairwise_iff_getElem.1 h i j hi hj q)
  · exact q
  · exact absurd e.symm (List.pairwise_iff_getElem.1 h j i hj hi q)
theorem all_len : ∀ (N : Nat) (L : List Int), (∀ y : Int, 0 ≤ y → y < N → y ∈ L) → N ≤ L.length := by
  intro N
  induction N with
  | zero => intro L _; omega
  | succ N ih =>
    intro L h
    have h1 := h (N : Int) (by omega) (by omega)
    have h2 := ih (L.erase (N : Int)) (fun y y0 y1 => (List.mem_erase_of_ne (by omega)).2 (h y y0 (by omega)))
    rw [List.length_erase_of_mem h1] at h2
    have := List.length_pos_of_mem h1
    omega
theorem front2 {l : List S46} {s x : Int} (h : Ed l false s x) : ∀ {d : Nat} {y : Int}, Wk l false x d y → Wk l false s (d + 1) y := by
  intro d
  induction d with
  | zero => intro y w; cases w; exact ⟨s, rfl, h⟩
  | succ d ih => intro y w; obtain ⟨z, w, e⟩ := w; exact ⟨z, ih w, e⟩
/-- Where each node of a set has an arc from the set, some arc lies on a circle. -/
theorem circle {N : Nat} {l : List S46} {S : Int → Prop} (hr : ∀ y, S y → 0 ≤ y ∧ y < (N : Int)) (hS : ∀ y, S y → ∃ a ∈ l, a.f1 = y ∧ S a.f0) {y : Int} (hy : S y) : ∃ a ∈ l, ∃ d, Wk l false a.f1 d a.f0 := by
  have key : ∀ m : Nat, (∃ a ∈ l, ∃ d, Wk l false a.f1 d a.f0) ∨ ∃ (h : Int) (L : List Int), (h :: L).Nodup ∧ L.length = m ∧ ∀ z ∈ h :: L, S z ∧ ∃ d, Wk l false h d z := by
    intro m
    induction m with
    | zero => exact .inr ⟨y, [], by simp, rfl, fun z hz => by simp at hz; subst hz; exact ⟨hy, 0, rfl⟩⟩
    | succ m ih =>
      rcases ih with q | ⟨h, L, h1, h2, h3⟩
      · exact .inl q
      · obtain ⟨a, ha, e1, e2⟩ := hS h (h3 h (by simp)).1
        by_cases c : a.f0 ∈ h :: L
        · obtain ⟨d, w⟩ := (h3 _ c).2
          exact .inl ⟨a, ha, d, by rw [e1]; exact w⟩
        · refine .inr ⟨a.f0, h :: L, List.nodup_cons.2 ⟨c, h1⟩, by simp [h2], fun z hz => ?_⟩
          rcases List.mem_cons.1 hz with rfl | hz
          · exact ⟨e2, 0, rfl⟩
          · obtain ⟨q, d, w⟩ := h3 z hz
            exact ⟨q, d + 1, front2 ⟨a, ha, rfl, e1⟩ w⟩
  rcases key N with q | ⟨h, L, h1, h2, h3⟩
  · exact q
  · have := pigeon N (h :: L) h1 (fun z hz => hr z (h3 z hz).1)
    simp only [List.length_cons] at this
    omega
theorem go_l1 {n : Int} {l : List S46} {N : Nat} (hnn : n = N) (hN : N ≤ 64) (hl : l.length ≤ 512) (ho : Ok N l) (hz : gchk n l = 0) (j : Nat) (hj : j < l.length) (d : Nat) (w : Wk l false l[j].f1 d l[j].f0) :
    ∀ (e i : Nat), j - i = e → i ≤ j → Ev (fun k => dancestudiolaw09_GraphOrder.l1 k [] (i : Int) n l) true := by
  have step : ∀ i : Nat, i ≤ j → (i < j → Ev (fun k => dancestudiolaw09_GraphOrder.l1 k [] ((i + 1 : Nat) : Int) n l) true) → Ev (fun k => dancestudiolaw09_GraphOrder.l1 k [] (i : Int) n l) true := by
    intro i hi hn
    have hlt : i < l.length := by omega
    have ha := ho l[i] (List.getElem_mem _)
    obtain ⟨A, a1, a2⟩ := greach_ev hnn hN hl ho hz l[i].f1 ⟨ha.2.2.1, ha.2.2.2⟩
    refine Ev.step (fun k => by simp only [dancestudiolaw09_GraphOrder.l1]; rw [if_pos (by omega), if_pos (by omega), rdT l i hlt]) ?_
    refine Ev.bind a2 ?_
    have hAl : (A.length : Int) = n := by rw [a1.len]; omega
    have hb : ((A.length : Int) != n) = false := by simp [hAl]
    refine Ev.congr (f := fun k => dancestudiolaw09_GraphOrder.j3 k [] (i : Int) A false n l) (fun k => by simp only; rw [if_pos trivial, hb]) ?_
    by_cases c : rdOf false A l[i].f0 = true
    · refine Ev.step (f := fun _ => some true) (fun k => ?_) (Ev.now _)
      simp only [dancestudiolaw09_GraphOrder.j3]
      rw [if_neg (by simp), if_pos (by omega), if_pos (by omega), rdT l i hlt, if_pos ha.1, if_pos (by omega), if_pos c, if_pos (by simp), aw_f]
      rfl
    · have hij : i < j := by
        rcases Nat.lt_or_ge i j with q | q
        · exact q
        · have : i = j := by omega
          subst this
          exact absurd ((a1.val _ ha.1 ha.2.1).2 ⟨d, w⟩) c
      refine Ev.step (fun k => ?_) (hn hij)
      simp only [dancestudiolaw09_GraphOrder.j3]
      rw [if_neg (by simp), if_pos (by omega), if_pos (by omega), rdT l i hlt, if_pos ha.1, if_pos (by omega), if_neg c, w64 (by omega)]
  intro e
  induction e with
  | zero => intro i he hi; exact step i hi (fun q => by omega)
  | succ e ih => intro i he hi; exact step i hi (fun q => ih (i + 1) (by omega) (by omega))
theorem go_l3 {n : Int} {l : List S46} {N : Nat} (hnn : n = N) (hl : l.length ≤ 512) (ho : Ok N l) (P : List Int) (hP : P.length = N) (h : ∀ a ∈ l, rd P a.f0 < rd P a.f1) : ∀ (e i : Nat), l.length - i = e → i ≤ l.length → Ev (fun k => dancestudiolaw09_GraphOrder.l3 k P (i : Int) n l) true := by
  intro e
  induction e with
  | zero =>
    intro i he hi
    refine Ev.step (f := fun _ => some true) (fun k => ?_) (Ev.now _)
    simp only [dancestudiolaw09_GraphOrder.l3]
    rw [if_neg (by omega), aw_f]
    rfl
  | succ e ih =>
    intro i he hi
    have hlt : i < l.length := by omega
    have ha := ho l[i] (List.getElem_mem _)
    have hp := h l[i] (List.getElem_mem _)
    refine Ev.step (fun k => ?_) (ih (i + 1) (by omega) (by omega))
    simp only [dancestudiolaw09_GraphOrder.l3]
    rw [if_pos (by omega), if_pos (by omega), rdT l i hlt, if_pos ha.1, if_pos (by omega), if_pos ha.2.2.1, if_pos (by omega), if_neg (by omega), w64 (by omega)]
theorem go_l2 {n : Int} {l : List S46} {N : Nat} (hnn : n = N) (hN : N ≤ 64) (hl : l.length ≤ 512) (ho : Ok N l) (out : List Int) (hol : out.length ≤ 64) (hnd : out.Nodup) (hrg : ∀ y ∈ out, 0 ≤ y ∧ y < (N : Int))
    (hfin : ∀ P : List Int, P.length = N → (∀ (j : Nat) (h : j < out.length), rd P out[j] = (j : Int) + 1) → Ev (fun k => dancestudiolaw09_GraphOrder.l3 k P 0 n l) true) :
    ∀ (e i : Nat), out.length - i = e → i ≤ out.length → ∀ P : List Int, P.length = N → (∀ (j : Nat) (h : j < out.length), rd P out[j] = if j < i then (j : Int) + 1 else 0) → Ev (fun k => dancestudiolaw09_GraphOrder.l2 k out P (i : Int) n l) true := by
  intro e
  induction e with
  | zero =>
    intro i he hi P hP hv
    refine Ev.step (f := fun k => dancestudiolaw09_GraphOrder.l3 k P 0 n l) (fun k => ?_) (hfin P hP (fun j h => by rw [hv j h, if_pos (by omega)]))
    simp only [dancestudiolaw09_GraphOrder.l2]
    rw [if_neg (by omega)]
  | succ e ih =>
    intro i he hi P hP hv
    have hlt : i < out.length := by omega
    have hx := hrg out[i] (List.getElem_mem _)
    have h0 : rd P out[i] = 0 := by rw [hv i hlt, if_neg (by omega)]
    refine Ev.step (fun k => ?_) (ih (i + 1) (by omega) (by omega) (P.set out[i].toNat ((i + 1 : Nat) : Int)) (by simp [hP]) (fun j hj => ?_))
    · simp only [dancestudiolaw09_GraphOrder.l2]
      rw [if_pos (by omega), if_pos (by omega), rdI out i hlt, if_neg (by omega), if_neg (by omega), if_pos hx.1, if_pos (by omega), h0, if_pos rfl, w64 (by omega)]
    · rw [rd_set _ _ _ _ hx.1 (by omega) (hrg _ (List.getElem_mem _)).1]
      by_cases c : j = i
      · subst c; rw [if_pos rfl, if_pos (by omega)]; omega
      · rw [if_neg (fun q => c (nodup_inj hnd hj hlt q)), hv j hj]
        by_cases d : j < i
        · rw [if_pos d, if_pos (by omega)]
        · rw [if_neg d, if_neg (by omega)]
theorem go_l0 {n : Int} {l : List S46} {N : Nat} (hnn : n = N) (hl : l.length ≤ 512) (ho : Ok N l) (h : Ev (fun k => (graph_Order.f n l).bind fun bt373 => (if bt373.2 = 15 then (dancestudiolaw09_GraphOrder.l1 k bt373.1 0 n l) else (if bt373.2 = 0 then (dancestudiolaw09_GraphOrder.j4 k bt373.1 ((bt373.1.length : Int) != n) n l) else (dancestudiolaw09_GraphOrder.j4 k bt373.1 true n l)))) true) :
    ∀ (e i : Nat), l.length - i = e → i ≤ l.length → Ev (fun k => dancestudiolaw09_GraphOrder.l0 k (i : Int) n l) true := by
  intro e
  induction e with
  | zero =>
    intro i he hi
    refine Ev.step (fun k => ?_) h
    simp only [dancestudiolaw09_GraphOrder.l0]
    rw [if_neg (by omega)]
  | succ e ih =>
    intro i he hi
    have hlt : i < l.length := by omega
    have ha := ho l[i] (List.getElem_mem _)
    refine Ev.step (fun k => ?_) (ih (i + 1) (by omega) (by omega))
    simp only [dancestudiolaw09_GraphOrder.l0]
    rw [if_pos (by omega), if_pos (by omega), rdT l i hlt, if_neg (by omega), if_neg (by omega), if_neg (by omega), if_neg (by omega), w64 (by omega)]
theorem GraphOrder (n : Int) (l : List S46) (_ : W24 ⟨n, l⟩) : ∃ k, dancestudiolaw09_GraphOrder.f k n l = some true := by
  refine Ev.rounds ?_
  unfold dancestudiolaw09_GraphOrder.f
  refine Ev.bind (light_ev n l) ?_
  have skip : Ev (fun k => dancestudiolaw09_GraphOrder.j0 k true n l) true := by
    refine Ev.step (f := fun _ => some true) (fun k => ?_) (Ev.now _)
    simp only [dancestudiolaw09_GraphOrder.j0]
    rw [if_pos trivial, aw_f]
    rfl
  by_cases hlt : light n l = true
  · refine Ev.congr (fun k => if_pos hlt) ?_
    refine Ev.bind (gchk_ev n l) ?_
    by_cases hz : gchk n l = 0
    · obtain ⟨N, hn, hN, hl, ho⟩ := ok_of hz
      refine Ev.congr (f := fun k => dancestudiolaw09_GraphOrder.j0 k false n l) (fun k => by rw [hz]; rfl) ?_
      obtain ⟨r, ⟨c, out, h1, e⟩, r2, _⟩ := order_ev hn hN hl ho hz
      have hol := pigeon N out h1.nod h1.rng
      refine Ev.step (f := fun k => dancestudiolaw09_GraphOrder.l0 k 0 n l) (fun k => ?_) (go_l0 hn hl ho ?_ l.length 0 (by omega) (by omega))
      · simp only [dancestudiolaw09_GraphOrder.j0]
        rw [if_neg (by simp)]
      · refine Ev.congr (fun k => by rw [show graph_Order.f n l = some r from r2, Option.bind_some]) ?_
        by_cases q : (out.length : Int) < N
        · rw [if_pos q] at e
          subst e
          refine Ev.congr (f := fun k => dancestudiolaw09_GraphOrder.l1 k [] 0 n l) (fun k => by simp only; rw [if_pos trivial]) ?_
          have hfree : ∀ y, ¬ Fre N l out y := fun y w => by simpa using (h1.fre y).2 w
          have hex : ∃ y : Int, (0 ≤ y ∧ y < N) ∧ y ∉ out := Classical.byContradiction fun w => by
            have := all_len N out (fun y y0 y1 => Classical.byContradiction fun v => w ⟨y, ⟨y0, y1⟩, v⟩)
            omega
          obtain ⟨y, hy⟩ := hex
          obtain ⟨a, ha, d, w⟩ := circle (N := N) (l := l) (S := fun y => (0 ≤ y ∧ y < (N : Int)) ∧ y ∉ out) (fun y q => q.1) (fun y q => Classical.byContradiction fun w => hfree y ⟨q.1.1, q.1.2, q.2, fun a ha e => Classical.byContradiction fun v => w ⟨a, ha, e, ⟨(ho a ha).1, (ho a ha).2.1⟩, v⟩⟩) hy
          obtain ⟨j, hj, e2⟩ := List.mem_iff_getElem.1 ha
          subst e2
          exact go_l1 hn hN hl ho hz j hj d w j 0 (by omega) (by omega)
        · rw [if_neg q] at e
          subst e
          have hlen : out.length = N := by omega
          have hb : ((out.length : Int) != n) = false := by simp [hlen, hn]
          refine Ev.congr (f := fun k => dancestudiolaw09_GraphOrder.j4 k out false n l) (fun k => by simp only; rw [if_neg (by decide), if_pos trivial, hb]) ?_
          refine Ev.step (f := fun k => dancestudiolaw09_GraphOrder.l2 k out (List.replicate n.toNat 0) 0 n l) (fun k => ?_) ?_
          · simp only [dancestudiolaw09_GraphOrder.j4]
            rw [if_neg (by simp), if_pos (by omega), if_pos (by omega)]
          · refine go_l2 hn hN hl ho out (by omega) h1.nod h1.rng (fun P hP hv => ?_) out.length 0 (by omega) (by omega) _ (by simp; omega) (fun j hj => ?_)
            · refine go_l3 hn hl ho P hP (fun a ha => ?_) l.length 0 (by omega) (by omega)
              have hr := ho a ha
              have hin : a.f1 ∈ out := Classical.byContradiction fun w => by
                have := pigeon N (a.f1 :: out) (List.nodup_cons.2 ⟨w, h1.nod⟩) (fun y hy => by
                  rcases List.mem_cons.1 hy with rfl | q
                  · exact ⟨hr.2.2.1, hr.2.2.2⟩
                  · exact h1.rng y q)
                simp only [List.length_cons] at this
                omega
              obtain ⟨i, hi, e1⟩ := List.mem_iff_getElem.1 hin
              have h2 := h1.ord i hi a ha e1.symm
              obtain ⟨j, hj, e2⟩ := List.mem_iff_getElem.1 h2
              rw [List.getElem_take] at e2
              have hji : j < i := by simp at hj; omega
              rw [← e1, ← e2, hv i hi, hv j (by omega)]
              omega
            · rw [if_neg (by omega)]
              simp only [rd, List.getD_eq_getElem?_getD, List.getElem?_replicate]
              split <;> rfl
    · exact Ev.congr (fun k => by rw [show (gchk n l != 0) = true from by simpa using hz]) skip
  · exact Ev.congr (fun k => if_neg hlt) skip
end Go.Proofs.Ytlbkbodadkhogaa.Pure
