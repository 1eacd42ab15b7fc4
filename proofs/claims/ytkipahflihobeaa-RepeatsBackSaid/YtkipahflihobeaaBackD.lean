/- Plain facts on staves and repetitions: one more repetition keeps the invariant. Lemmas. -/
import Derived.Test.YtkipahflihobeaaBackC
namespace Go.Proofs.Ytkipahflihobeaa.X
open Go.RowKit Go.Proofs.YtkipahflihobeaaW.PrintWords
set_option linter.unusedVariables false
set_option linter.unusedSimpArgs false
theorem wrap_wrap (a b : Int) : wrap64 (wrap64 a + b) = wrap64 (a + b) := by unfold wrap64; omega
theorem wrap_wrap2 (a b : Int) : wrap64 (a + wrap64 b) = wrap64 (a + b) := by unfold wrap64; omega
theorem w_small (n : Int) (h0 : -100000 ≤ n) (h : n ≤ 100000) : wrap64 n = n := by unfold wrap64; omega
theorem mv_mv (d1 d2 : Int) (x : S43) : mvS43 d2 (mvS43 d1 x) = mvS43 (d1 + d2) x := by
  unfold mvS43
  simp only [wrap_wrap, Int.add_assoc]
theorem map_mv_mv (d1 d2 : Int) (L : List S43) : (L.map (mvS43 d1)).map (mvS43 d2) = L.map (mvS43 (d1 + d2)) := by
  rw [List.map_map]; exact List.map_congr_left fun x _ => mv_mv d1 d2 x
theorem mv_zero_f {l : List S43} {n : Int} (h : sChk l n = 0) (p : S43 → Bool) : (l.filter p).map (mvS43 0) = l.filter p := by
  have hn := (sChk_ok h).1
  have e : (l.filter p).map (mvS43 0) = (l.filter p).map id := by
    apply List.map_congr_left
    intro x hx
    have := sChk_in h x (List.mem_filter.1 hx).1
    have e : wrap64 (x.f2 + 0) = x.f2 := by unfold wrap64; omega
    unfold mvS43; rw [e]; rfl
  rw [e, List.map_id]
theorem strad_false {l : List S43} {a b : Int} (h : l.any (strad a b) = false) : ∀ x ∈ l, (x.f2 < a → x.f2 + x.f3 ≤ a) ∧ (x.f2 < b → x.f2 + x.f3 ≤ b) := by
  intro x hx
  have := List.any_eq_false.1 h x hx
  simp [strad] at this
  omega
theorem rOrd_snoc (x : S39) : ∀ (R : List S39), rOrd R = true → (∀ r ∈ R, r.f0.f1 ≤ x.f0.f0) → rOrd (R ++ [x]) = true
  | [], _, _ => rfl
  | [y], _, h => by
    have := h y (by simp)
    simp [rOrd]; exact this
  | y :: z :: r, h, hx => by
    rw [List.cons_append, List.cons_append]
    unfold rOrd at h ⊢
    rw [Bool.and_eq_true] at h ⊢
    refine ⟨h.1, ?_⟩
    have := rOrd_snoc x (z :: r) h.2 (fun r hr => hx r (by simp at hr ⊢; right; exact hr))
    rwa [List.cons_append] at this
section ext
variable {l : List S43} {n : Int} {O : List S43} {R : List S39} {e E : Int}
theorem run_one (h : sChk l n = 0) (I : Inv l n O R e E) (b at_ : Int) (hE : E ≤ at_) (hb : at_ ≤ b) (hbn : b ≤ n) : stepQ (O ++ tail l E b (e - E)) (l.filter (inS 0 E), E) e (at_ + (e - E)) 1 = (l.filter (inS 0 at_), at_) := by
  obtain ⟨hn, hl, hv⟩ := sChk_val h
  have h1 := I.e0; have h2 := I.eE; have h3 := I.En
  unfold stepQ
  have hin := tail_in h I b E at_ (by omega) hb hbn
  rw [show E + (e - E) = e by omega] at hin
  simp only [show (1 : Int).toNat = 1 from rfl, itN, stepP1]
  rw [hin, map_mv_mv, w_small (E - e) (by omega) (by omega), show e - E + (E - e) = 0 by omega, mv_zero_f h, filter_split hv.2 (by omega) hE, w_small (at_ + (e - E) - e) (by omega) (by omega), w_small _ (by omega) (by omega)]
  congr 1; omega
theorem run_head (h : sChk l n = 0) (I : Inv l n O R e E) (b at_ : Int) (hE : E ≤ at_) (hb : at_ ≤ b) (hbn : b ≤ n) : (if e < at_ + (e - E) then stepQ (O ++ tail l E b (e - E)) (l.filter (inS 0 E), E) e (at_ + (e - E)) 1 else (l.filter (inS 0 E), E)) = (l.filter (inS 0 at_), at_) := by
  by_cases c : e < at_ + (e - E)
  · rw [if_pos c]; exact run_one h I b at_ hE hb hbn
  · rw [if_neg c]
    have : E = at_ := by omega
    rw [this]
theorem run_times (h : sChk l n = 0) (I : Inv l n O R e E) (at_ L t : Int) (hE : E ≤ at_) (hL : 1 ≤ L) (ht : 1 ≤ t) (hb : at_ + t * L ≤ n) (hA : ∀ j : Int, 1 ≤ j → j < t → Alike l at_ (at_ + L) (at_ + j * L) (at_ + j * L + L)) : ∀ j : Nat, (j : Int) ≤ t →
    itN (stepP1 (O ++ tail l E (at_ + L) (e - E)) (at_ + (e - E)) (at_ + (e - E) + L)) j (l.filter (inS 0 at_), at_) = (l.filter (inS 0 (at_ + j * L)), at_ + j * L) := by
  obtain ⟨hn, hl, hv⟩ := sChk_val h
  have h1 := I.e0; have h2 := I.eE; have h3 := I.En
  have hLt : 1 * L ≤ t * L := Int.mul_le_mul_of_nonneg_right ht (by omega)
  intro j
  induction j with
  | zero => intro _; simp [itN]
  | succ j ih =>
    intro hj
    have hjL : ((j : Int) + 1) * L ≤ t * L := Int.mul_le_mul_of_nonneg_right (by omega) (by omega)
    have hj0 : 0 * L ≤ (j : Int) * L := Int.mul_le_mul_of_nonneg_right (by omega) (by omega)
    have e1 : ((j : Int) + 1) * L = j * L + L := by rw [Int.add_mul, Int.one_mul]
    have e2 : ((j + 1 : Nat) : Int) * L = j * L + L := by rw [Int.natCast_add]; exact e1
    unfold itN
    rw [ih (by omega), e2]
    have hin := tail_in h I (at_ + L) at_ (at_ + L) hE (by omega) (by omega)
    rw [show at_ + L + (e - E) = at_ + (e - E) + L by omega] at hin
    unfold stepP1
    simp only []
    rw [hin, map_mv_mv, w_small (at_ + j * L - (at_ + (e - E))) (by omega) (by omega), show e - E + (at_ + j * L - (at_ + (e - E))) = j * L by omega, w_small (at_ + (e - E) + L - (at_ + (e - E))) (by omega) (by omega), w_small (at_ + j * L + (at_ + (e - E) + L - (at_ + (e - E)))) (by omega) (by omega)]
    have key : (l.filter (inS at_ (at_ + L))).map (mvS43 (j * L)) = l.filter (inS (at_ + j * L) (at_ + j * L + L)) := by
      by_cases c : j = 0
      · subst c
        simp only [Int.natCast_zero, Int.zero_mul, Int.add_zero]
        exact mv_zero_f h _
      · have a := (hA j (by omega) (by omega)).2.2
        have a' := congrArg (List.map (mvS43 (at_ + j * L))) a
        rw [map_mv_mv, map_mv_mv, w_small (-at_) (by omega) (by omega), w_small (-(at_ + j * L)) (by omega) (by omega), show -at_ + (at_ + j * L) = j * L by omega, show -(at_ + j * L) + (at_ + j * L) = 0 by omega, mv_zero_f h] at a'
        exact a'
    rw [key, filter_split hv.2 (by omega) (by omega)]
    congr 1
    · rw [show at_ + j * L + L = at_ + (j * L + L) by omega]
    · omega
theorem cnt_times (h : sChk l n = 0) (I : Inv l n O R e E) (at_ L t : Int) (hE : E ≤ at_) (hL : 1 ≤ L) (ht : 1 ≤ t) (hb : at_ + t * L ≤ n) (hA : ∀ j : Int, 1 ≤ j → j < t → Alike l at_ (at_ + L) (at_ + j * L) (at_ + j * L + L)) :
    ((l.filter (inS 0 (at_ + t * L))).length : Int) = (l.filter (inS 0 at_)).length + t * (l.filter (inS at_ (at_ + L))).length := by
  have hLt : 1 * L ≤ t * L := Int.mul_le_mul_of_nonneg_right ht (by omega)
  have a := run_times h I at_ L t hE hL ht hb hA t.toNat (by omega)
  have b := itN_len_eq (O ++ tail l E (at_ + L) (e - E)) (at_ + (e - E)) (at_ + (e - E) + L) (l.filter (inS 0 at_), at_) t.toNat
  have hin := tail_in h I (at_ + L) at_ (at_ + L) hE (by omega) (by omega)
  rw [show at_ + L + (e - E) = at_ + (e - E) + L by omega] at hin
  rw [a, hin, List.length_map, show ((t.toNat : Nat) : Int) = t by omega] at b
  exact b
theorem cnt_head (h : sChk l n = 0) (I : Inv l n O R e E) (b at_ : Int) (hE : E ≤ at_) (hb : at_ ≤ b) (hbn : b ≤ n) : (if e < at_ + (e - E) then stepC (O ++ tail l E b (e - E)) (E, ((l.filter (inS 0 E)).length : Int)) e (at_ + (e - E)) 1 else (E, ((l.filter (inS 0 E)).length : Int))) = (at_, ((l.filter (inS 0 at_)).length : Int)) := by
  obtain ⟨hn, hl, hv⟩ := sChk_val h
  have h1 := I.e0; have h2 := I.eE; have h3 := I.En
  by_cases c : e < at_ + (e - E)
  · rw [if_pos c]
    have hin := tail_in h I b E at_ (by omega) hb hbn
    rw [show E + (e - E) = e by omega] at hin
    unfold stepC stepN
    rw [hin, List.length_map, ← filter_split hv.2 (show (0 : Int) ≤ E by omega) hE, List.length_append]
    have k1 := List.length_filter_le (inS 0 E) l
    have k2 := List.length_filter_le (inS E at_) l
    simp only [Int.mul_one]
    rw [w_small (at_ + (e - E) - e) (by omega) (by omega), w_small (at_ + (e - E) - e) (by omega) (by omega), w_small _ (by omega) (by omega), w_small ((l.filter (inS E at_)).length : Int) (by omega) (by omega), w_small _ (by omega) (by omega)]
    congr 1
    omega
  · rw [if_neg c]
    have : E = at_ := by omega
    rw [this]
theorem len_head (h : sChk l n = 0) (I : Inv l n O R e E) (at_ : Int) (hE : E ≤ at_) (hbn : at_ ≤ n) : (if e < at_ + (e - E) then stepN E e (at_ + (e - E)) 1 else E) = at_ := by
  obtain ⟨hn, hl, hv⟩ := sChk_val h
  have h1 := I.e0; have h2 := I.eE; have h3 := I.En
  by_cases c : e < at_ + (e - E)
  · rw [if_pos c]
    unfold stepN
    simp only [Int.mul_one]
    rw [w_small (at_ + (e - E) - e) (by omega) (by omega), w_small (at_ + (e - E) - e) (by omega) (by omega), w_small _ (by omega) (by omega)]
    omega
  · rw [if_neg c]; omega
theorem inv_step (h : sChk l n = 0) (I : Inv l n O R e E) (at_ L t : Int) (hE : E ≤ at_) (hL : 1 ≤ L) (ht : 2 ≤ t) (ht2 : t ≤ 16) (hb : at_ + t * L ≤ n) (hA : ∀ j : Int, 1 ≤ j → j < t → Alike l at_ (at_ + L) (at_ + j * L) (at_ + j * L + L)) (hr : (R.length : Int) < 16) :
    Inv l n (O ++ tail l E (at_ + L) (e - E)) (R ++ [⟨⟨at_ + (e - E), at_ + (e - E) + L⟩, t⟩]) (at_ + (e - E) + L) (at_ + t * L) := by
  obtain ⟨hn, hl, hv⟩ := sChk_val h
  have h1 := I.e0; have h2 := I.eE; have h3 := I.En
  have hLt : 2 * L ≤ t * L := Int.mul_le_mul_of_nonneg_right ht (by omega)
  have hs := strad_false (hA 1 (by omega) (by omega)).1
  refine ⟨by omega, by omega, hb, fun h => by omega, ?_, ?_, ?_, ?_, ?_, ?_, ?_, ?_, ?_, ?_⟩
  · have := tail_val h I (at_ + L) (by omega) (by omega) (fun x hx => (hs x hx).2)
    rwa [show at_ + L + (e - E) = at_ + (e - E) + L by omega] at this
  · have := tail_len h I (at_ + L) (by omega)
    rw [← filter_split hv.2 (show (0 : Int) ≤ at_ + L by omega) (show at_ + L ≤ at_ + t * L by omega)]
    exact Nat.le_trans this (by rw [List.length_append]; omega)
  · rw [List.length_append]; simp; omega
  · refine rOrd_snoc _ R I.ord ?_
    intro r hr
    have := I.lastR r hr
    show r.f0.f1 ≤ at_ + (e - E)
    omega
  · intro r hr
    rcases List.mem_append.1 hr with hr | hr
    · have := I.lastR r hr; omega
    · rw [List.mem_singleton] at hr; subst hr
      show at_ + (e - E) + L ≤ _
      omega
  · intro r hr
    rcases List.mem_append.1 hr with hr | hr
    · have := I.bad r hr
      unfold rBad at *
      simp at this ⊢
      omega
    · rw [List.mem_singleton] at hr; subst hr
      unfold rBad
      simp
      omega
  · intro r hr
    rcases List.mem_append.1 hr with hr | hr
    · have a := I.cut r hr
      have b := I.lastR r hr
      have c := I.bad r hr
      unfold rBad at c
      unfold rCut at *
      rw [Bool.and_eq_true] at *
      simp at c
      exact ⟨tail_cut h I _ _ (by omega) a.1, tail_cut h I _ _ b a.2⟩
    · rw [List.mem_singleton] at hr; subst hr
      unfold rCut
      rw [Bool.and_eq_true]
      refine ⟨tail_cut_new h I (at_ + L) at_ hE fun x hx => (hs x hx).1, ?_⟩
      have := tail_cut_new h I (at_ + L) (at_ + L) (by omega) fun x hx => (hs x hx).2
      rwa [show at_ + L + (e - E) = at_ + (e - E) + L by omega] at this
  · rw [secH_snoc, tail_F1 h I (at_ + L)]
    simp only []
    rw [run_head h I (at_ + L) at_ hE (by omega) (by omega)]
    unfold stepQ
    have a := run_times h I at_ L t hE hL (by omega) hb hA t.toNat (by omega)
    rw [show ((t.toNat : Nat) : Int) = t by omega] at a
    rw [a]
  · rw [secH_snoc, tail_F2 h I (at_ + L)]
    simp only []
    rw [cnt_head h I (at_ + L) at_ hE (by omega) (by omega)]
    have hin := tail_in h I (at_ + L) at_ (at_ + L) hE (by omega) (by omega)
    rw [show at_ + L + (e - E) = at_ + (e - E) + L by omega] at hin
    have hc := cnt_times h I at_ L t hE hL (by omega) hb hA
    have k1 := List.length_filter_le (inS 0 (at_ + t * L)) l
    unfold stepC stepN
    rw [hin, List.length_map]
    simp only []
    have p0 : 0 ≤ t * ((l.filter (inS at_ (at_ + L))).length : Int) := Int.mul_nonneg (by omega) (by omega)
    rw [Int.mul_comm ((l.filter (inS at_ (at_ + L))).length : Int) t, w_small (at_ + (e - E) + L - (at_ + (e - E))) (by omega) (by omega), show (at_ + (e - E) + L - (at_ + (e - E))) = L by omega, Int.mul_comm L t, w_small (t * L) (by omega) (by omega), w_small (at_ + t * L) (by omega) (by omega), w_small (t * ((l.filter (inS at_ (at_ + L))).length : Int)) (by omega) (by omega), w_small _ (by omega) (by omega), ← hc]
  · rw [secH_snoc, I.F3]
    simp only []
    rw [len_head h I at_ hE (by omega)]
    unfold stepN
    rw [w_small (at_ + (e - E) + L - (at_ + (e - E))) (by omega) (by omega), show (at_ + (e - E) + L - (at_ + (e - E))) = L by omega, Int.mul_comm L t, w_small (t * L) (by omega) (by omega), w_small (at_ + t * L) (by omega) (by omega)]
end ext
end Go.Proofs.Ytkipahflihobeaa.X
