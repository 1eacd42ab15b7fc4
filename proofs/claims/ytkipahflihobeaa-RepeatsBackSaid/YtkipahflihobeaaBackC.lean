/- Plain facts on staves and repetitions: what repeats.Find builds. Lemmas. -/
import Derived.Test.YtkipahflihobeaaBackB
namespace Go.Proofs.Ytkipahflihobeaa.X
open Go.RowKit Go.Proofs.YtkipahflihobeaaW.PrintWords
set_option linter.unusedVariables false
set_option linter.unusedSimpArgs false
/-- The sections of a staff up to the end of the last repetition, folded. -/
def secH {σ : Type} (step : σ → Int → Int → Int → σ) : List S39 → Int → σ → σ × Int
  | [], at_, s => (s, at_)
  | x :: r, at_, s => secH step r x.f0.f1 (step (if at_ < x.f0.f0 then step s at_ x.f0.f0 1 else s) x.f0.f0 x.f0.f1 x.f1)
theorem secT_secH {σ : Type} (step : σ → Int → Int → Int → σ) (n : Int) : ∀ (R : List S39) (a : Int) (s : σ), secT step n R a s = if (secH step R a s).2 < n then step (secH step R a s).1 (secH step R a s).2 n 1 else (secH step R a s).1
  | [], a, s => rfl
  | x :: r, a, s => by unfold secT secH; exact secT_secH step n r _ _
theorem secH_snoc {σ : Type} (step : σ → Int → Int → Int → σ) (x : S39) : ∀ (R : List S39) (a : Int) (s : σ), secH step (R ++ [x]) a s = (step (if (secH step R a s).2 < x.f0.f0 then step (secH step R a s).1 (secH step R a s).2 x.f0.f0 1 else (secH step R a s).1) x.f0.f0 x.f0.f1 x.f1, x.f0.f1)
  | [], a, s => rfl
  | y :: r, a, s => by rw [List.cons_append]; unfold secH; exact secH_snoc step x r _ _
theorem secH_congr {σ : Type} (f g : σ → Int → Int → Int → σ) (e : Int) (h : ∀ s a b t, b ≤ e → f s a b t = g s a b t) : ∀ (R : List S39), (∀ r ∈ R, r.f0.f0 ≤ e ∧ r.f0.f1 ≤ e) → ∀ (a : Int) (s : σ), secH f R a s = secH g R a s
  | [], _, a, s => rfl
  | x :: r, hR, a, s => by
    have h1 := hR x (by simp)
    unfold secH
    rw [h _ x.f0.f0 x.f0.f1 _ h1.2, h _ a x.f0.f0 1 h1.1]
    exact secH_congr f g e h r (fun r hr => hR r (by simp [hr])) _ _
def stepQ (l : List S43) (s : List S43 × Int) (a b t : Int) : List S43 × Int := itN (stepP1 l a b) t.toNat s
theorem itN_len_eq (l : List S43) (a b : Int) (s : List S43 × Int) : ∀ n : Nat, ((itN (stepP1 l a b) n s).1.length : Int) = s.1.length + n * (l.filter (inS a b)).length
  | 0 => by simp [itN]
  | n + 1 => by
    have ih := itN_len_eq l a b s n
    simp only [itN, stepP1, List.length_append, List.length_map]
    have e : ((n + 1 : Nat) : Int) * ((l.filter (inS a b)).length : Int) = (n : Int) * (l.filter (inS a b)).length + (l.filter (inS a b)).length := by
      rw [Int.natCast_add, Int.add_mul]; simp
    rw [e]; omega
theorem stepQ_len (l : List S43) (hl : l.length ≤ 256) (s : List S43 × Int) (a b t : Int) (ht : t ≤ 16) : (stepQ l s a b t).1.length ≤ s.1.length + 4096 := by
  have h := itN_len l a b s t.toNat
  have h2 : t.toNat * l.length ≤ 16 * 256 := Nat.mul_le_mul (by omega) hl
  unfold stepQ; omega
theorem stepP_Q (l : List S43) (s : List S43 × Int) (a b t : Int) (ht : t ≤ 16) (hs : s.1.length ≤ 1000000) : stepP l s a b t = some (stepQ l s a b t) := by
  unfold stepP stepQ; rw [if_pos ⟨ht, hs⟩]
theorem secF_Q (l : List S43) (hl : l.length ≤ 256) (n : Int) : ∀ (R : List S39) (a : Int) (s : List S43 × Int), (∀ r ∈ R, r.f1 ≤ 16) → s.1.length + 8192 * R.length ≤ 900000 → secF (stepP l) n R a s = some (secT (stepQ l) n R a s)
  | [], a, s, _, hs => by
    unfold secF secT
    by_cases c : a < n
    · rw [if_pos c, if_pos c, stepP_Q _ _ _ _ _ (by omega) (by simp at hs; omega)]
    · rw [if_neg c, if_neg c]
  | x :: r, a, s, ht, hs => by
    rw [List.length_cons] at hs
    have hx := ht x (by simp)
    unfold secF secT
    by_cases c : a < x.f0.f0
    · have h1 := stepQ_len l hl s a x.f0.f0 1 (by omega)
      have h2 := stepQ_len l hl (stepQ l s a x.f0.f0 1) x.f0.f0 x.f0.f1 x.f1 hx
      rw [if_pos c, if_pos c, stepP_Q _ _ _ _ _ (by omega) (by omega)]
      simp only [Option.bind_some]
      rw [stepP_Q _ _ _ _ _ hx (by omega)]
      simp only [Option.bind_some]
      exact secF_Q l hl n r _ _ (fun r hr => ht r (by simp [hr])) (by omega)
    · have h2 := stepQ_len l hl s x.f0.f0 x.f0.f1 x.f1 hx
      rw [if_neg c, if_neg c]
      simp only [Option.bind_some]
      rw [stepP_Q _ _ _ _ _ hx (by omega)]
      simp only [Option.bind_some]
      exact secF_Q l hl n r _ _ (fun r hr => ht r (by simp [hr])) (by omega)
/-- A staff's symbols in a section and those in the next. -/
theorem filter_split {l : List S43} (hp : l.Pairwise two) {a b c : Int} (h1 : a ≤ b) (h2 : b ≤ c) : l.filter (inS a b) ++ l.filter (inS b c) = l.filter (inS a c) := by
  induction l with
  | nil => rfl
  | cons x l ih =>
    obtain ⟨p, q⟩ := List.pairwise_cons.1 hp
    have ih := ih q
    simp only [List.filter_cons]
    by_cases c1 : inS a b x = true
    · have c2 : inS b c x = false := by simp [inS] at *; omega
      have c3 : inS a c x = true := by simp [inS] at *; omega
      rw [if_pos c1, if_neg (by simp [c2]), if_pos c3, List.cons_append, ih]
    · by_cases c2 : inS b c x = true
      · have c3 : inS a c x = true := by simp [inS] at *; omega
        have hz : ∀ y ∈ l, ¬ inS a b y = true := by
          intro y hy h
          have := (p y hy).1
          unfold sL at this
          simp [inS] at *; omega
        have e : l.filter (inS a b) = [] := by rw [List.filter_eq_nil_iff]; exact hz
        rw [if_neg c1, if_pos c2, if_pos c3, e, List.nil_append, ← ih, e, List.nil_append]
      · have c3 : ¬ inS a c x = true := by simp [inS] at *; omega
        rw [if_neg c1, if_neg c2, if_neg c3, ih]
/-- The part of a staff that a pass adds, moved. -/
def tail (l : List S43) (E b d : Int) : List S43 := (l.filter (inS E b)).map (mvS43 d)
/-- What stands behind some passes: the performance up to the last repetition. -/
structure Inv (l : List S43) (n : Int) (O : List S43) (R : List S39) (e E : Int) : Prop where
  e0 : 0 ≤ e
  eE : e ≤ E
  En : E ≤ n
  pos : e = 0 → E = 0
  val : Val O e
  len : O.length ≤ (l.filter (inS 0 E)).length
  rlen : (R.length : Int) ≤ 16
  ord : rOrd R = true
  lastR : ∀ r ∈ R, r.f0.f1 ≤ e
  bad : ∀ r ∈ R, rBad e r = false
  cut : ∀ r ∈ R, rCut O r = true
  F1 : secH (stepQ O) R 0 ([], 0) = ((l.filter (inS 0 E), E), e)
  F2 : secH (stepC O) R 0 (0, 0) = ((E, ((l.filter (inS 0 E)).length : Int)), e)
  F3 : secH stepN R 0 0 = (E, e)
theorem mv_f2 {l : List S43} {n : Int} (h : sChk l n = 0) {x : S43} (hx : x ∈ l) {d : Int} (h0 : -10000 ≤ d) (h1 : d ≤ 10000) : (mvS43 d x).f2 = x.f2 + d := by
  have := sChk_in h x hx
  have hn := (sChk_ok h).1
  unfold mvS43
  show wrap64 (x.f2 + d) = _
  unfold wrap64; omega
theorem sE_mv {x : S43} (hx : sE x = 0) {d : Int} (h0 : 0 ≤ x.f2 + d) (h1 : d ≤ 0) : sE (mvS43 d x) = 0 := by
  obtain ⟨a, b, c, e, f, g, i, j⟩ := sE_ok hx
  have hw : wrap64 (x.f2 + d) = x.f2 + d := by unfold wrap64; omega
  have hs := sE_some x
  have ht := sE_some (mvS43 d x)
  rw [hx] at hs
  have e1 : (mvS43 d x).f2 = x.f2 + d := hw
  have k1 : (mvS43 d x).f0 = x.f0 := rfl
  have k2 : (mvS43 d x).f1 = x.f1 := rfl
  have k3 : (mvS43 d x).f3 = x.f3 := rfl
  have k4 : (mvS43 d x).f4 = x.f4 := rfl
  have k5 : (mvS43 d x).f5 = x.f5 := rfl
  have k6 : (mvS43 d x).f6 = x.f6 := rfl
  have hsay : symbol_says.f x.f0 x.f1 (x.f2 + d) x.f3 x.f4 x.f5 x.f6 = symbol_says.f x.f0 x.f1 x.f2 x.f3 x.f4 x.f5 x.f6 := rfl
  have hpl : symbol_place.f x.f0 x.f1 (x.f2 + d) x.f3 x.f4 x.f5 x.f6 = symbol_place.f x.f0 x.f1 x.f2 x.f3 x.f4 x.f5 x.f6 := rfl
  rw [e1, k1, k2, k3, k4, k5, k6] at ht
  have hw1 : wrap64 (8192 - x.f2) = 8192 - x.f2 := by unfold wrap64; omega
  have hw2 : wrap64 (8192 - (x.f2 + d)) = 8192 - (x.f2 + d) := by unfold wrap64; omega
  unfold symbol_Check.f at hs ht
  rw [if_neg (by omega), if_neg (by omega)] at hs ht
  rw [hpl, hsay, hw2, if_neg (show ¬ x.f2 + d < 0 by omega), if_neg (show ¬ x.f2 + d ≥ 8192 by omega), if_neg (show ¬ x.f3 < 1 by omega), if_neg (show ¬ x.f3 > 8192 - (x.f2 + d) by omega)] at ht
  rw [hw1, if_neg (show ¬ x.f2 < 0 by omega), if_neg (show ¬ x.f2 ≥ 8192 by omega), if_neg (show ¬ x.f3 < 1 by omega), if_neg (show ¬ x.f3 > 8192 - x.f2 by omega)] at hs
  have := ht.symm.trans hs
  simpa using this
theorem mem_tail {l : List S43} {E b d : Int} {y : S43} (hy : y ∈ tail l E b d) : ∃ x ∈ l, E ≤ x.f2 ∧ x.f2 < b ∧ y = mvS43 d x := by
  unfold tail at hy
  obtain ⟨x, hx, rfl⟩ := List.mem_map.1 hy
  obtain ⟨h1, h2⟩ := List.mem_filter.1 hx
  simp [inS] at h2
  exact ⟨x, h1, h2.1, h2.2, rfl⟩
section ext
variable {l : List S43} {n : Int} {O : List S43} {R : List S39} {e E : Int}
theorem tail_val (h : sChk l n = 0) (I : Inv l n O R e E) (b : Int) (hb : E ≤ b) (hbn : b ≤ n) (hs : ∀ x ∈ l, x.f2 < b → x.f2 + x.f3 ≤ b) : Val (O ++ tail l E b (e - E)) (b + (e - E)) := by
  obtain ⟨hn, hl, hv⟩ := sChk_val h
  have h1 := I.e0; have h2 := I.eE; have h3 := I.En
  have hf : ∀ x ∈ l, (mvS43 (e - E) x).f2 = x.f2 + (e - E) := fun x hx => mv_f2 h hx (by omega) (by omega)
  refine ⟨?_, ?_⟩
  · intro y hy
    rcases List.mem_append.1 hy with hy | hy
    · have := I.val.1 y hy
      exact ⟨this.1, by omega⟩
    · obtain ⟨x, hx, a1, a2, rfl⟩ := mem_tail hy
      have e3 : (mvS43 (e - E) x).f3 = x.f3 := rfl
      refine ⟨sE_mv (hv.1 x hx).1 (by omega) (by omega), ?_⟩
      rw [hf x hx, e3]
      have := hs x hx a2
      omega
  · rw [List.pairwise_append]
    refine ⟨I.val.2, ?_, ?_⟩
    · unfold tail
      rw [List.pairwise_map]
      have hp := hv.2.filter (inS E b)
      refine List.Pairwise.imp_of_mem ?_ hp
      intro x y hx hy hxy
      have hx := (List.mem_filter.1 hx).1
      have hy := (List.mem_filter.1 hy).1
      unfold two sL at *
      rw [hf x hx, hf y hy]
      have e1 : (mvS43 (e - E) x).f1 = x.f1 := rfl
      have e2 : (mvS43 (e - E) y).f1 = y.f1 := rfl
      have e3 : (mvS43 (e - E) x).f3 = x.f3 := rfl
      rw [e1, e2, e3]
      simp only [Bool.or_eq_true, Bool.and_eq_true, decide_eq_true_eq] at *
      omega
    · intro x hx y hy
      obtain ⟨z, hz, a1, a2, rfl⟩ := mem_tail hy
      have hxe := I.val.1 x hx
      obtain ⟨_, _, _, _, _, _, b7, _⟩ := sE_ok hxe.1
      unfold two sL
      rw [hf z hz]
      simp only [Bool.or_eq_true, Bool.and_eq_true, decide_eq_true_eq]
      omega
theorem tail_in (h : sChk l n = 0) (I : Inv l n O R e E) (b c d : Int) (hc : E ≤ c) (hd : d ≤ b) (hbn : b ≤ n) : (O ++ tail l E b (e - E)).filter (inS (c + (e - E)) (d + (e - E))) = (l.filter (inS c d)).map (mvS43 (e - E)) := by
  have hn := (sChk_ok h).1
  have h1 := I.e0; have h2 := I.eE; have h3 := I.En
  rw [List.filter_append]
  have e1 : O.filter (inS (c + (e - E)) (d + (e - E))) = [] := by
    rw [List.filter_eq_nil_iff]
    intro x hx hh
    have hxe := I.val.1 x hx
    obtain ⟨_, _, _, _, _, _, b7, _⟩ := sE_ok hxe.1
    simp [inS] at hh
    omega
  rw [e1, List.nil_append]
  unfold tail
  rw [List.filter_map, List.filter_filter]
  congr 1
  apply List.filter_congr
  intro x hx
  have := mv_f2 h hx (d := e - E) (by omega) (by omega)
  simp only [Function.comp, inS, this]
  rw [Bool.eq_iff_iff]
  simp only [Bool.and_eq_true, decide_eq_true_eq]
  omega
theorem tail_len (h : sChk l n = 0) (I : Inv l n O R e E) (b : Int) (hb : E ≤ b) : (O ++ tail l E b (e - E)).length ≤ (l.filter (inS 0 b)).length := by
  have h1 := I.e0; have h2 := I.eE; have h4 := I.len
  rw [← filter_split (sChk_val h).2.2.2 (show (0 : Int) ≤ E by omega) hb, List.length_append, List.length_append]
  unfold tail; rw [List.length_map]; omega
theorem tail_old (h : sChk l n = 0) (I : Inv l n O R e E) (b a c : Int) (hc : c ≤ e) : (O ++ tail l E b (e - E)).filter (inS a c) = O.filter (inS a c) := by
  have hn := (sChk_ok h).1
  have h1 := I.e0; have h2 := I.eE; have h3 := I.En
  rw [List.filter_append]
  have e1 : (tail l E b (e - E)).filter (inS a c) = [] := by
    rw [List.filter_eq_nil_iff]
    intro x hx hh
    obtain ⟨z, hz, a1, a2, rfl⟩ := mem_tail hx
    have := mv_f2 h hz (d := e - E) (by omega) (by omega)
    simp [inS] at hh
    omega
  rw [e1, List.append_nil]
theorem tail_cut (h : sChk l n = 0) (I : Inv l n O R e E) (b t : Int) (ht : t ≤ e) (hc : cutB O t = true) : cutB (O ++ tail l E b (e - E)) t = true := by
  have hn := (sChk_ok h).1
  have h1 := I.e0; have h2 := I.eE; have h3 := I.En
  unfold cutB at *
  rw [Bool.not_eq_true', List.any_eq_false] at *
  intro x hx
  rcases List.mem_append.1 hx with hx | hx
  · exact hc x hx
  · obtain ⟨z, hz, a1, a2, rfl⟩ := mem_tail hx
    have := mv_f2 h hz (d := e - E) (by omega) (by omega)
    rw [this]
    simp; omega
theorem tail_cut_new (h : sChk l n = 0) (I : Inv l n O R e E) (b c : Int) (hc : E ≤ c) (hs : ∀ x ∈ l, x.f2 < c → x.f2 + x.f3 ≤ c) : cutB (O ++ tail l E b (e - E)) (c + (e - E)) = true := by
  have hn := (sChk_ok h).1
  have h1 := I.e0; have h2 := I.eE; have h3 := I.En
  unfold cutB
  rw [Bool.not_eq_true', List.any_eq_false]
  intro x hx
  rcases List.mem_append.1 hx with hx | hx
  · have hxe := I.val.1 x hx
    obtain ⟨_, _, _, _, b5, _, b7, _⟩ := sE_ok hxe.1
    have : wrap64 (x.f2 + x.f3) = x.f2 + x.f3 := by unfold wrap64; omega
    rw [this]; simp; omega
  · obtain ⟨z, hz, a1, a2, rfl⟩ := mem_tail hx
    have hm := mv_f2 h hz (d := e - E) (by omega) (by omega)
    have e3 : (mvS43 (e - E) z).f3 = z.f3 := rfl
    have hz' := sChk_in h z hz
    have := hs z hz
    rw [hm, e3]
    have hw : wrap64 (z.f2 + (e - E) + z.f3) = z.f2 + (e - E) + z.f3 := by unfold wrap64; omega
    rw [hw]; simp; omega
theorem tail_F1 (h : sChk l n = 0) (I : Inv l n O R e E) (b : Int) : secH (stepQ (O ++ tail l E b (e - E))) R 0 ([], 0) = ((l.filter (inS 0 E), E), e) := by
  rw [← I.F1]
  refine secH_congr _ _ e ?_ R ?_ _ _
  · intro s a c t hc
    have : stepP1 (O ++ tail l E b (e - E)) a c = stepP1 O a c := by
      funext s
      unfold stepP1
      rw [tail_old h I b a c hc]
    unfold stepQ; rw [this]
  · intro r hr
    have h1 := I.bad r hr
    unfold rBad at h1
    have := I.lastR r hr
    simp at h1
    omega
theorem tail_F2 (h : sChk l n = 0) (I : Inv l n O R e E) (b : Int) : secH (stepC (O ++ tail l E b (e - E))) R 0 (0, 0) = ((E, ((l.filter (inS 0 E)).length : Int)), e) := by
  rw [← I.F2]
  refine secH_congr _ _ e ?_ R ?_ _ _
  · intro s a c t hc
    unfold stepC
    rw [tail_old h I b a c hc]
  · intro r hr
    have h1 := I.bad r hr
    unfold rBad at h1
    have := I.lastR r hr
    simp at h1
    omega
end ext
end Go.Proofs.Ytkipahflihobeaa.X
