/- Plain facts on staves and repetitions: what repeats.Find answers, and that it performs back. Lemmas. -/
import Derived.Test.YtkipahflihobeaaBackD
namespace Go.Proofs.Ytkipahflihobeaa.X
open Go.RowKit Go.Proofs.YtkipahflihobeaaW.PrintWords
set_option linter.unusedVariables false
set_option linter.unusedSimpArgs false
/-- What Find answers of a valid staff. -/
def Post (l : List S43) (n : Int) (r : List S43 × Int × List S39 × Int) : Prop :=
  ∃ O e E, Inv l n O r.2.2.1 e E ∧ r.1 = O ++ tail l E n (e - E) ∧ r.2.1 = n + (e - E) ∧ r.2.2.2 = 0
section find
variable {l : List S43} {n : Int} {O : List S43} {R : List S39} {e E : Int}
theorem piece_eq (h : sChk l n = 0) (I : Inv l n O R e E) (at_ L : Int) (hE : E ≤ at_) (hL : 1 ≤ L) (hb : at_ + L ≤ n) : (O ++ tail l E at_ (e - E)) ++ (l.filter (inS at_ (at_ + L))).map (mvS43 (e - E)) = O ++ tail l E (at_ + L) (e - E) := by
  obtain ⟨hn, hl, hv⟩ := sChk_val h
  rw [List.append_assoc]
  congr 1
  unfold tail
  rw [← List.map_append, filter_split hv.2 hE (by omega)]
theorem find_j4 (h : sChk l n = 0) (I : Inv l n O R e E) (s at_ L t : Int) (hE : E ≤ at_) (hL : 1 ≤ L) (ht : 1 ≤ t) (ht2 : t ≤ 16) (hb : at_ + t * L ≤ n) (k : Nat) (hk : 300 ≤ k) :
    repeats_Find.j4 (k + 1) l n s (O ++ tail l E at_ (e - E)) R (at_ + (e - E)) at_ L t = if t > 1 then repeats_Find.l0 k l n s (O ++ tail l E (at_ + L) (e - E)) (R ++ [⟨⟨at_ + (e - E), at_ + (e - E) + L⟩, t⟩]) (at_ + (e - E) + L) (at_ + t * L) else repeats_Find.l0 k l n s (O ++ tail l E (at_ + L) (e - E)) R (at_ + (e - E) + L) (at_ + t * L) := by
  obtain ⟨hn, hl, hv⟩ := sChk_val h
  have h1 := I.e0; have h2 := I.eE; have h3 := I.En; have h4 := I.rlen
  have hLt : 1 * L ≤ t * L := Int.mul_le_mul_of_nonneg_right ht (by omega)
  have hw : repeats_within.f k l at_ (wrap64 (at_ + L)) = some (l.filter (inS at_ (at_ + L))) := by
    rw [w_small (at_ + L) (by omega) (by omega)]
    exact at_rounds (g := fun k => repeats_within.f k l at_ (at_ + L)) (fun k => repeats_within.mono l at_ (at_ + L) k) (show l.length + 1 ≤ k by omega) (within_eq l at_ (at_ + L) (by omega))
  have k1 := List.length_filter_le (inS at_ (at_ + L)) l
  have k2 := tail_len h I at_ hE
  have k3 := List.length_filter_le (inS 0 at_) l
  rw [repeats_Find.j4, hw]
  simp only [Option.bind_some]
  rw [w_small (at_ + (e - E) - at_) (by omega) (by omega), show at_ + (e - E) - at_ = e - E by omega, moved_eq _ _ (by omega)]
  simp only [Option.bind_some]
  rw [if_pos (by rw [List.length_map]; omega), piece_eq h I at_ L hE hL (by omega)]
  rw [w_small (at_ + (e - E) + L) (by omega) (by omega), Int.mul_comm L t, w_small (t * L) (by omega) (by omega), w_small (at_ + t * L) (by omega) (by omega)]
  by_cases c : t > 1
  · rw [if_pos c, if_pos c, if_pos (by omega)]
  · rw [if_neg c, if_neg c]
end find
/-- What the outer loop owes from a tick on. -/
def Owes (l : List S43) (n s : Int) (at_ : Int) : Prop :=
  ∀ (O : List S43) (R : List S39) (e E : Int), Inv l n O R e E → E ≤ at_ → ∃ k r, repeats_Find.l0 k l n s (O ++ tail l E at_ (e - E)) R (at_ + (e - E)) at_ = some r ∧ Post l n r
section find
variable {l : List S43} {n : Int} {O : List S43} {R : List S39} {e E : Int}
theorem tail_nil (l : List S43) (E d : Int) : tail l E E d = [] := by
  unfold tail
  rw [List.map_eq_nil_iff, List.filter_eq_nil_iff]
  intro x _ hh
  simp [inS] at hh; omega
theorem owes_j4 (h : sChk l n = 0) (I : Inv l n O R e E) (s at_ L t : Int) (hE : E ≤ at_) (hL : 1 ≤ L) (ht : 1 ≤ t) (ht2 : t ≤ 16) (hb : at_ + t * L ≤ n) (hA : ∀ j : Int, 1 ≤ j → j < t → Alike l at_ (at_ + L) (at_ + j * L) (at_ + j * L + L)) (hr : t > 1 → (R.length : Int) < 16)
    (ih : ∀ a, at_ < a → a ≤ n → Owes l n s a) : ∃ k r, repeats_Find.j4 k l n s (O ++ tail l E at_ (e - E)) R (at_ + (e - E)) at_ L t = some r ∧ Post l n r := by
  have hLt : 1 * L ≤ t * L := Int.mul_le_mul_of_nonneg_right ht (by omega)
  by_cases c : t > 1
  · have J := inv_step h I at_ L t hE hL (by omega) ht2 hb hA (hr c)
    obtain ⟨k, r, h1, h2⟩ := ih (at_ + t * L) (by omega) hb _ _ _ _ J (by omega)
    rw [tail_nil, List.append_nil, show at_ + t * L + (at_ + (e - E) + L - (at_ + t * L)) = at_ + (e - E) + L by omega] at h1
    refine ⟨max k 300 + 1, r, ?_, h2⟩
    rw [find_j4 h I s at_ L t hE hL ht ht2 hb _ (by omega), if_pos c]
    exact at_rounds (g := fun k => repeats_Find.l0 k l n s _ _ _ _) (fun k => (repeats_Find.mono_l k).2.1 _ _ _ _ _ _ _) (Nat.le_max_left k 300) h1
  · obtain rfl : t = 1 := by omega
    obtain ⟨k, r, h1, h2⟩ := ih (at_ + L) (by omega) (by omega) _ _ _ _ I (by omega)
    refine ⟨max k 300 + 1, r, ?_, h2⟩
    rw [find_j4 h I s at_ L 1 hE hL ht ht2 hb _ (by omega), if_neg c, Int.one_mul, show at_ + (e - E) + L = at_ + L + (e - E) by omega]
    exact at_rounds (g := fun k => repeats_Find.l0 k l n s _ _ _ _) (fun k => (repeats_Find.mono_l k).2.1 _ _ _ _ _ _ _) (Nat.le_max_left k 300) h1
theorem owes_l1 (h : sChk l n = 0) (I : Inv l n O R e E) (s at_ : Int) (h0 : 1 ≤ s) (hs : s ≤ n) (hE : E ≤ at_) (hat : at_ < n) (ih : ∀ a, at_ < a → a ≤ n → Owes l n s a) : ∀ (d : Nat) (L : Int), s ≤ L → L ≤ 20000 → n < L + d →
    ∃ k r, repeats_Find.l1 k l n s (O ++ tail l E at_ (e - E)) R (at_ + (e - E)) at_ (mn s (wrap64 (n - at_))) 1 L = some r ∧ Post l n r := by
  obtain ⟨hn, hl, hv⟩ := sChk_val h
  have h1 := I.e0; have h2 := I.eE; have h3 := I.En; have h4 := I.rlen
  have stop : ∀ L : Int, ∃ k r, repeats_Find.j3 k l n s (O ++ tail l E at_ (e - E)) R (at_ + (e - E)) at_ (mn s (wrap64 (n - at_))) 1 L false = some r ∧ Post l n r := by
    intro L
    have hm : 1 ≤ mn s (wrap64 (n - at_)) ∧ at_ + 1 * mn s (wrap64 (n - at_)) ≤ n := by
      rw [w_small (n - at_) (by omega) (by omega)]
      unfold mn; split <;> omega
    obtain ⟨k, r, p, q⟩ := owes_j4 h I s at_ (mn s (wrap64 (n - at_))) 1 hE hm.1 (by omega) (by omega) hm.2 (fun j a b => by omega) (fun c => by omega) ih
    refine ⟨k + 1, r, ?_, q⟩
    rw [repeats_Find.j3, if_neg (by simp)]
    exact p
  have none : ∀ L : Int, s ≤ L → L ≤ 20000 → ¬ ((R.length : Int) < 16 ∧ at_ + 2 * L ≤ n) → ∃ k r, repeats_Find.l1 k l n s (O ++ tail l E at_ (e - E)) R (at_ + (e - E)) at_ (mn s (wrap64 (n - at_))) 1 L = some r ∧ Post l n r := by
    intro L hL hL2 hc
    obtain ⟨k, r, p, q⟩ := stop L
    refine ⟨k + 1, r, ?_, q⟩
    rw [repeats_Find.l1]
    by_cases c : (R.length : Int) < 16
    · rw [if_pos c, w_small (2 * L) (by omega) (by omega), w_small (at_ + 2 * L) (by omega) (by omega), show decide (at_ + 2 * L ≤ n) = false by simp; omega]
      exact p
    · rw [if_neg c]; exact p
  intro d
  induction d with
  | zero =>
    intro L hL hL2 hd
    exact none L hL hL2 (by omega)
  | succ d ih2 =>
    intro L hL hL2 hd
    by_cases hc : (R.length : Int) < 16 ∧ at_ + 2 * L ≤ n
    · obtain ⟨t, f1, f2, f3, f4, f5⟩ := follows_eq h at_ L (by omega) (by omega) (by omega) 700 (by omega)
      have fk : ∀ k, 700 ≤ k → repeats_follows.f k l n at_ L = some t := fun k hk => at_rounds (fun k => repeats_follows.mono l n at_ L k) hk f1
      by_cases c : t > 1
      · obtain ⟨k, r, p, q⟩ := owes_j4 h I s at_ L t hE (by omega) f2 f3 f4 f5 (fun _ => hc.1) ih
        refine ⟨max k 700 + 1 + 1, r, ?_, q⟩
        rw [repeats_Find.l1, if_pos hc.1, w_small (2 * L) (by omega) (by omega), w_small (at_ + 2 * L) (by omega) (by omega), show decide (at_ + 2 * L ≤ n) = true by simp; omega, repeats_Find.j3, if_pos rfl, fk _ (by omega)]
        simp only [Option.bind_some]
        rw [if_pos c]
        exact at_rounds (g := fun k => repeats_Find.j4 k l n s _ _ _ _ _ _) (fun k => (repeats_Find.mono_l k).2.2.1 _ _ _ _ _ _ _ _ _) (Nat.le_max_left k 700) p
      · obtain ⟨k, r, p, q⟩ := ih2 (L + s) (by omega) (by omega) (by omega)
        refine ⟨max k 700 + 1 + 1, r, ?_, q⟩
        rw [repeats_Find.l1, if_pos hc.1, w_small (2 * L) (by omega) (by omega), w_small (at_ + 2 * L) (by omega) (by omega), show decide (at_ + 2 * L ≤ n) = true by simp; omega, repeats_Find.j3, if_pos rfl, fk _ (by omega)]
        simp only [Option.bind_some]
        rw [if_neg c, w_small (L + s) (by omega) (by omega)]
        exact at_rounds (g := fun k => repeats_Find.l1 k l n s _ _ _ _ _ _ _) (fun k => (repeats_Find.mono_l k).2.2.2.1 _ _ _ _ _ _ _ _ _ _) (Nat.le_max_left k 700) p
    · exact none L hL hL2 hc
theorem owes_all (h : sChk l n = 0) (s : Int) (h0 : 1 ≤ s) (hs : s ≤ n) : ∀ (d : Nat) (a : Int), a ≤ n → n ≤ a + d → Owes l n s a := by
  obtain ⟨hn, hl, hv⟩ := sChk_val h
  intro d
  induction d with
  | zero =>
    intro a ha hd O R e E I hE
    obtain rfl : a = n := by omega
    refine ⟨1, (O ++ tail l E a (e - E), a + (e - E), R, 0), ?_, ⟨O, e, E, I, rfl, rfl, rfl⟩⟩
    rw [show (1 : Nat) = 0 + 1 from rfl, repeats_Find.l0, if_neg (by omega)]
  | succ d ih =>
    intro a ha hd O R e E I hE
    by_cases c : a < n
    · obtain ⟨k, r, p, q⟩ := owes_l1 h I s a h0 hs hE c (fun b hb hbn => ih b hbn (by omega)) n.toNat s (by omega) (by omega) (by omega)
      refine ⟨k + 1, r, ?_, q⟩
      rw [repeats_Find.l0, if_pos c]
      exact p
    · exact ih a ha (by omega) O R e E I hE
theorem inv_nil (h : sChk l n = 0) : Inv l n [] [] 0 0 := by
  have hn := (sChk_ok h).1
  have hf : l.filter (inS 0 0) = [] := by
    rw [List.filter_eq_nil_iff]
    intro x _ hh
    simp [inS] at hh; omega
  refine ⟨by omega, by omega, by omega, fun _ => rfl, ⟨by simp, List.Pairwise.nil⟩, by simp, by simp, rfl, by simp, by simp, by simp, ?_, ?_, ?_⟩
  · rw [hf]; rfl
  · rw [hf]; rfl
  · rfl
theorem find_some (h : sChk l n = 0) (s : Int) (h0 : 1 ≤ s) (hs : s ≤ n) : ∃ k r, repeats_Find.f k l n s = some r ∧ Post l n r := by
  have hn := (sChk_ok h).1
  obtain ⟨k, r, p, q⟩ := owes_all h s h0 hs n.toNat 0 (by omega) (by omega) [] [] 0 0 (inv_nil h) (by omega)
  rw [tail_nil] at p
  refine ⟨k + 1, r, ?_, q⟩
  unfold repeats_Find.f
  have hc : staff_Check.f l n = some 0 := by unfold staff_Check.f; rw [h]
  rw [hc]
  simp only [Option.bind_some]
  rw [if_pos trivial, if_neg (by omega), show decide (s > n) = false by simp; omega, repeats_Find.j0, if_neg (by simp)]
  exact p
theorem post_back {r : List S43 × Int × List S39 × Int} (h : sChk l n = 0) (P : Post l n r) (hl60 : l.length ≤ 60) :
    r.2.2.2 = 0 ∧ repeats_Perform.f r.1 r.2.1 r.2.2.1 = some (l, 0) ∧ repeats_Length.f r.1 r.2.1 r.2.2.1 = some (n, 0) ∧ r.2.1 ≤ n ∧ r.1.length ≤ l.length := by
  obtain ⟨O, e, E, I, e1, e2, e3⟩ := P
  obtain ⟨c, t, R, z⟩ := r
  simp only at *
  subst e1; subst e2; subst e3
  obtain ⟨hn, hl, hv⟩ := sChk_val h
  have h1 := I.e0; have h2 := I.eE; have h3 := I.En; have h4 := I.rlen; have h5 := I.pos
  have hend : ∀ x ∈ l, x.f2 < n → x.f2 + x.f3 ≤ n := fun x hx _ => (hv.1 x hx).2
  have hlen := tail_len h I n h3
  rw [inS_all h] at hlen
  have hchk : sChk (O ++ tail l E n (e - E)) (n + (e - E)) = 0 := val_sChk (by omega) (by omega) (by omega) (tail_val h I n h3 (by omega) hend)
  have t1 : secT (stepQ (O ++ tail l E n (e - E))) (n + (e - E)) R 0 ([], 0) = (l, n) := by
    rw [secT_secH, tail_F1 h I n]
    simp only []
    rw [run_head h I n n h3 (by omega) (by omega), inS_all h]
  have t2 : secT (stepC (O ++ tail l E n (e - E))) (n + (e - E)) R 0 (0, 0) = (n, (l.length : Int)) := by
    rw [secT_secH, tail_F2 h I n]
    simp only []
    rw [cnt_head h I n n h3 (by omega) (by omega), inS_all h]
  have t3 : secT stepN (n + (e - E)) R 0 0 = n := by
    rw [secT_secH, I.F3]
    simp only []
    exact len_head h I n h3 (by omega)
  have hr : rChk (O ++ tail l E n (e - E)) (n + (e - E)) R = 0 := by
    unfold rChk
    have hb : R.any (rBad (n + (e - E))) = false := by
      rw [List.any_eq_false]
      intro x hx
      have a := I.bad x hx
      have b := I.lastR x hx
      unfold rBad at a ⊢
      simp at a ⊢
      omega
    have hcut : R.all (rCut (O ++ tail l E n (e - E))) = true := by
      rw [List.all_eq_true]
      intro x hx
      have a := I.cut x hx
      have b := I.lastR x hx
      have c := I.bad x hx
      unfold rBad at c
      unfold rCut at *
      rw [Bool.and_eq_true] at *
      simp at c
      exact ⟨tail_cut h I _ _ (by omega) a.1, tail_cut h I _ _ b a.2⟩
    rw [if_pos hchk, if_neg (by omega), hb, if_neg (by simp), I.ord, if_neg (by simp), hcut, if_neg (by simp), t2, if_neg (by simp only []; omega), if_neg (by simp only []; omega)]
  have h16 : ∀ x ∈ R, x.f1 ≤ 16 := by
    intro x hx
    have a := I.bad x hx
    unfold rBad at a
    simp at a
    omega
  refine ⟨rfl, ?_, ?_, by omega, hlen⟩
  · unfold repeats_Perform.f
    rw [if_pos hr, secF_Q _ (by omega) _ R 0 ([], 0) h16 (by simp; omega), t1]; rfl
  · unfold repeats_Length.f
    have : repeats_Check.f (O ++ tail l E n (e - E)) (n + (e - E)) R = some 0 := by unfold repeats_Check.f; rw [hr]
    rw [this]
    simp only [Option.bind_some, if_true]
    unfold repeats_performed.f
    rw [if_pos (by omega), t3]; rfl
end find
end Go.Proofs.Ytkipahflihobeaa.X
