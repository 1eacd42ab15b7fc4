/- Contracts of functions over this seat, written by a program of this claim (xprint.py). -/
import Derived.Test.YtkipahflihobeaaX0
import Derived.Test.YtkipahflihobeaaX2
import Derived.Test.YtkipahflihobeaaX4
import Derived.Test.YtkipahflihobeaaX6
import Derived.Test.YtkipahflihobeaaX8
namespace Go.Proofs.Ytkipahflihobeaa.X
open Go.RowKit Go.Proofs.YtkipahflihobeaaW.PrintWords Go.Proofs.YtkipahflihobeaaW.PrintLast Go.Proofs.YtkipahflihobeaaW.PrintMore
attribute [local go_sem] max2_int min2_int max_two min_two max_three min_three max_four min_four   -- for this text's walks alone
set_option linter.unusedVariables false
set_option linter.unusedSimpArgs false

attribute [local go_sem high] eqA43
/-! ### repeats_Perform: function 8 -/
def perform_1.T3 : Bool × List (List Nat × List Nat) := (true, [([], []), ([], []), ([], []), ([1, 2], [1, 2]), ([], []), ([], []), ([5], [5]), ([4, 6], [4, 6]), ([3, 7, 3], [3, 7]), ([0, 8, 8], [0, 8]), ([9, 9, 0, 1, 2, 3, 4, 5, 6, 7, 8, 9], [9])])
def perform_1.B3 : List Nat := [0, 0, 0, 6, 0, 0, 32, 112, 254, 511, 1023]
theorem perform_1.tab3 : rtab .any (opsOf Try.f24 3) = perform_1.T3 := by kernel_rfl
theorem perform_1.bits3 : waitsOk perform_1.T3.2 perform_1.B3 = true := by kernel_rfl
/-- One more time through a section: the performed symbols, and the tick. -/
def stepP1 (l : List S43) (a b : Int) (s : List S43 × Int) : List S43 × Int := (s.1 ++ (l.filter (inS a b)).map (mvS43 (wrap64 (s.2 - a))), wrap64 (s.2 + wrap64 (b - a)))
def itN {σ : Type} (f : σ → σ) : Nat → σ → σ
  | 0, s => s
  | n + 1, s => f (itN f n s)
def stepP (l : List S43) (s : List S43 × Int) (a b t : Int) : Option (List S43 × Int) := if t ≤ 16 ∧ s.1.length ≤ 1000000 then some (itN (stepP1 l a b) t.toNat s) else none
theorem itN_len (l : List S43) (a b : Int) (s : List S43 × Int) : ∀ n, (itN (stepP1 l a b) n s).1.length ≤ s.1.length + n * l.length
  | 0 => by simp [itN]
  | n + 1 => by
    have ih := itN_len l a b s n
    have hf := List.length_filter_le (inS a b) l
    simp only [itN, stepP1, List.length_append, List.length_map]
    rw [Nat.add_mul]; omega
theorem E43 : ∀ q, q ∈ 43 :: k43.E → q ≠ 22 ∧ q ≠ 3 := by
  intro q hq
  have h : k43.E = [] := rfl
  rw [h] at hq
  simp at hq
  subst hq
  decide
theorem moved_eq (l : List S43) (n : Int) (h : l.length ≤ 1000000) : repeats_moved.f l n = some (l.map (mvS43 n)) := by unfold repeats_moved.f; rw [if_pos (by omega)]
set_option maxHeartbeats 4000000 in
set_option maxRecDepth 100000 in
theorem perform_1 (g1 g2 g3 : Nat) (A0 : Option Addr) (c0 : Nat) (l0 : List S43) (s s' : List S43 × Int) (a b t : Int) (base : Nat) (v : Value) (W : World)
    (h1 : One W g1 22 v) (h2 : One W g2 22 (.slice A0 l0.length c0)) (h3 : One W g3 3 (.int .i64 s.2)) (ho : Kd.R k43 43 W base (fun _ => True) v s.1)
    (h12 : g1 ≠ g2) (hb1 : base ≤ W.heap.size) (hr : ∀ W', Keeps W W' (fun k => k = g1 ∨ k = g3 ∨ base ≤ k) → Kd.C k43 W' A0 l0.length l0) (hc0 : l0.length ≤ c0) (hl : l0.length ≤ 1000000) (hs : stepP l0 s a b t = some s') :
    Calls Try.prog 24 #[.agg #[.int .i64 a, .int .i64 b], .int .i64 t, .pointer (some ⟨g1, 0, none⟩), .pointer (some ⟨g2, 0, none⟩), .pointer (some ⟨g3, 0, none⟩)] W fun e W' => e = .returned (.tuple #[]) ∧ (∃ v', One W' g1 22 v' ∧ One W' g3 3 (.int .i64 s'.2) ∧ Kd.R k43 43 W' base (fun _ => True) v' s'.1) ∧ One W' g2 22 (.slice A0 l0.length c0) ∧ Keeps W W' (fun k => k = g1 ∨ k = g3 ∨ base ≤ k) ∧ KeepT W W' 39 := by
  have hu37 := Try.underlying37
  have hb16 : t ≤ 16 ∧ s.1.length ≤ 1000000 := by
    unfold stepP at hs
    by_cases h : t ≤ 16 ∧ s.1.length ≤ 1000000
    · exact h
    · rw [if_neg h] at hs; exact absurd hs (by simp)
  have HS0 : Aside0 (s' = itN (stepP1 l0 a b) t.toNat s) := ⟨by unfold stepP at hs; rw [if_pos hb16] at hs; exact (Option.some.inj hs).symm⟩
  have h13 : g1 ≠ g3 := h1.not h3 (by decide)
  have h23 : g2 ≠ g3 := h2.not h3 (by decide)
  have h21 := Ne.symm h12
  have h31 := Ne.symm h13
  have h32 := Ne.symm h23
  have hlt1 := h1.lt
  have hlt2 := h2.lt
  have hlt3 := h3.lt
  have H1 := Aside0.mk h1
  have H2 := Aside0.mk h2
  have H3 := Aside0.mk h3
  have HO := Aside0.mk ho
  have HR := Aside0.mk hr
  have HC0 := Aside0.mk hc0
  have HW := Aside0.mk (within_eq l0 a b hl)
  obtain ⟨ht16, hs16⟩ := hb16
  have HS16 := Aside0.mk hs16
  have HL := Aside0.mk hl
  clear h1 h2 h3 ho hr hc0 hs hs16 hl
  go_enter Try.func24, Try.ntmps24
  go_wp2
  obtain ⟨gb, hgb⟩ : ∃ gb : Nat, gb = W.heap.size := ⟨_, rfl⟩
  rw [← hgb]
  have hgbl : W.heap.size ≤ gb := by omega
  have L1 := Aside0.mk (H1.out.alloc (.cells #[.int .i64 a, .int .i64 b] 37))
  have L2 := Aside0.mk (H2.out.alloc (.cells #[.int .i64 a, .int .i64 b] 37))
  have L3 := Aside0.mk (H3.out.alloc (.cells #[.int .i64 a, .int .i64 b] 37))
  have LB : Aside0 ((W.alloc (.cells #[.int .i64 a, .int .i64 b] 37)).heap[gb]? = some (.cells #[.int .i64 a, .int .i64 b] 37 (0, 0))) := ⟨by rw [hgb]; exact blk_new W _⟩
  have LO := Aside0.mk (Kd.R_alloc HO.out (.cells #[.int .i64 a, .int .i64 b] 37))
  have LK := Aside0.mk ((Keeps.refl W (fun k => k = g1 ∨ k = g3 ∨ base ≤ k)).alloc (.cells #[.int .i64 a, .int .i64 b] 37))
  have LT := Aside0.mk ((KeepT.refl W 39).alloc (.cells #[.int .i64 a, .int .i64 b] 37))
  clear hgb H1 H2 H3 HO
  go_loopw [8] (fun v8 w' => ∃ (i : Int) (vo : Value), 0 ≤ i ∧ i ≤ 16 ∧ v8 = .int .i64 i ∧ Aside0 (i ≤ t ∨ i = 0) ∧ Aside0 (One w' g1 22 vo) ∧ Aside0 (One w' g2 22 (.slice A0 l0.length c0)) ∧ Aside0 (One w' g3 3 (.int .i64 (itN (stepP1 l0 a b) i.toNat s).2)) ∧ Aside0 (w'.heap[gb]? = some (.cells #[.int .i64 a, .int .i64 b] 37 (0, 0))) ∧ Aside0 (Kd.R k43 43 w' base (fun _ => True) vo (itN (stepP1 l0 a b) i.toNat s).1) ∧ Aside0 (Keeps W w' (fun k => k = g1 ∨ k = g3 ∨ base ≤ k)) ∧ Aside0 (KeepT W w' 39)) (fun v8 _ => 17 - (intOf v8).toNat)
  case atStart => exact ⟨0, v, by omega, by omega, rfl, ⟨.inr rfl⟩, L1, L2, L3, LB, LO, LK, LT⟩
  case round =>
    clear L1 L2 L3 LB LO LK LT
    obtain ⟨i, vo, hi0, hi16, rfl, HI, L1, L2, L3, LB, LO, LK, LT⟩ := hrel
    by_cases c3 : i < t
    · have c3b0 : decide (i < t) = true := decide_eq_true c3
      have HN : Aside0 (((itN (stepP1 l0 a b) i.toNat s).1.length + ((l0.filter (inS a b)).map (mvS43 (wrap64 ((itN (stepP1 l0 a b) i.toNat s).2 - a)))).length) * 56 ≤ 140737488355328) := ⟨by
        have h1 := itN_len l0 a b s i.toNat
        have h2 := List.length_filter_le (inS a b) l0
        have h3 : i.toNat * l0.length ≤ 16 * 1000000 := Nat.mul_le_mul (by omega) HL.out
        have h4 := HS16.out
        have h5 := HL.out
        rw [List.length_map]; omega⟩
      have HNX : Aside0 (itN (stepP1 l0 a b) (i + 1).toNat s = stepP1 l0 a b (itN (stepP1 l0 a b) i.toNat s)) := ⟨by rw [show (i + 1).toNat = i.toNat + 1 by omega]; rfl⟩
      generalize itN (stepP1 l0 a b) i.toNat s = st at *
      have HNX2 : Aside0 (itN (stepP1 l0 a b) (i + 1).toNat s = (st.1 ++ (l0.filter (inS a b)).map (mvS43 (wrap64 (st.2 - a))), wrap64 (st.2 + wrap64 (b - a)))) := ⟨by rw [HNX.out]; rfl⟩
      clear HNX
      have HNE := Aside0.mk (Kd.R_ne LO.out L1.out (by decide))
      have HNE2 := Aside0.mk (Kd.R_ne LO.out L2.out (by decide))
      have HNE3 := Aside0.mk (Kd.R_ne LO.out L3.out (by decide))
      have HNEB := Aside0.mk (Kd.R_ne LO.out LB.out (by decide))
      have HBASE := Aside0.mk LK.out.size
      have hx1 := L1.out.cell
      have hf1 := L1.out.frozen
      have hx2 := L2.out.cell
      have hx3 := L3.out.cell
      have hf3 := L3.out.frozen
      have hb0 : wr.cell? ⟨gb, 0, none⟩ = some (.int .i64 a) := (blk_cell LB.out 0).trans rfl
      have hb1' : wr.cell? ⟨gb, 1, none⟩ = some (.int .i64 b) := (blk_cell LB.out 1).trans rfl
      go_wp2
      refine start_ (n := 11) (S := fun w' => w'.cell? ⟨g1, 0, none⟩ = some vo ∧ w'.cell? ⟨g2, 0, none⟩ = some (.slice A0 l0.length c0) ∧ w'.cell? ⟨g3, 0, none⟩ = some (.int .i64 st.2) ∧ w'.cell? ⟨gb, 0, none⟩ = some (.int .i64 a) ∧ w'.cell? ⟨gb, 1, none⟩ = some (.int .i64 b)) (ds := [10]) #[false, false, false, false, false, false, false, false, false, false, false] (by kernel_rfl) rfl rfl ⟨hx1, hx2, hx3, hb0, hb1'⟩ (fun hHeld => ?_)
      refine with_tabW perform_1.tab3 perform_1.bits3 (fun HT_ HW_ => ?_)
      refine pure_ (i := 5) (N := some 15) (v := ?_) (a' := ?_) #[false, false, false, false, false, true, false, false, false, false, false] rfl rfl (any_of HT_.out (by kernel_rfl)) (fun _ _ _ h => h) (Or.inl ⟨by rfl, ?_⟩) ?_ ?_
      rotate_left
      · intro w'
        go_simp
        first | done | with_reducible rfl
      rotate_left
      · simp only [Act.put, List.setIfInBounds_toArray, List.set_cons_zero, List.set_cons_succ, i64_w, i32_w]
        rfl
      refine take_ (i := 0) (N := some 10) (v := ?_) (a' := ?_) #[true, false, false, false, false, true, false, false, false, false, false] rfl rfl (take_ofW HT_.out HW_.out (by kernel_rfl)) (fun _ _ _ h => h) (Or.inl ⟨by rfl, ?_⟩) hHeld ?_ ?_
      rotate_left
      · rintro w' ⟨s0, s1, s2, s3, s4⟩
        go_simp
        first | done | with_reducible rfl
      rotate_left
      · simp only [Act.put, List.setIfInBounds_toArray, List.set_cons_zero, List.set_cons_succ, i64_w, i32_w]
        rfl
      refine take_ (i := 1) (N := some 11) (v := ?_) (a' := ?_) #[true, true, false, false, false, true, false, false, false, false, false] rfl rfl (take_ofW HT_.out HW_.out (by kernel_rfl)) (fun _ _ _ h => h) (Or.inl ⟨by rfl, ?_⟩) hHeld ?_ ?_
      rotate_left
      · rintro w' ⟨s0, s1, s2, s3, s4⟩
        go_simp
        first | done | with_reducible rfl
      rotate_left
      · simp only [Act.put, List.setIfInBounds_toArray, List.set_cons_zero, List.set_cons_succ, i64_w, i32_w]
        rfl
      refine take_ (i := 2) (N := some 12) (v := ?_) (a' := ?_) #[true, true, true, false, false, true, false, false, false, false, false] rfl rfl (take_ofW HT_.out HW_.out (by kernel_rfl)) (fun _ _ _ h => h) (Or.inl ⟨by rfl, ?_⟩) hHeld ?_ ?_
      rotate_left
      · rintro w' ⟨s0, s1, s2, s3, s4⟩
        go_simp
        first | done | with_reducible rfl
      rotate_left
      · simp only [Act.put, List.setIfInBounds_toArray, List.set_cons_zero, List.set_cons_succ, i64_w, i32_w]
        rfl
      refine take_ (i := 4) (N := some 14) (v := ?_) (a' := ?_) #[true, true, true, false, true, true, false, false, false, false, false] rfl rfl (take_ofW HT_.out HW_.out (by kernel_rfl)) (fun _ _ _ h => h) (Or.inl ⟨by rfl, ?_⟩) hHeld ?_ ?_
      rotate_left
      · rintro w' ⟨s0, s1, s2, s3, s4⟩
        go_simp
        first | done | with_reducible rfl
      rotate_left
      · simp only [Act.put, List.setIfInBounds_toArray, List.set_cons_zero, List.set_cons_succ, i64_w, i32_w]
        rfl
      refine take_ (i := 6) (N := some 16) (v := ?_) (a' := ?_) #[true, true, true, false, true, true, true, false, false, false, false] rfl rfl (take_ofW HT_.out HW_.out (by kernel_rfl)) (fun _ _ _ h => h) (Or.inl ⟨by rfl, ?_⟩) hHeld ?_ ?_
      rotate_left
      · rintro w' ⟨s0, s1, s2, s3, s4⟩
        go_simp
        first | done | with_reducible rfl
      rotate_left
      · simp only [Act.put, List.setIfInBounds_toArray, List.set_cons_zero, List.set_cons_succ, i64_w, i32_w]
        rfl
      refine pure_ (i := 7) (N := some 17) (v := ?_) (a' := ?_) #[true, true, true, false, true, true, true, true, false, false, false] rfl rfl (any_of HT_.out (by kernel_rfl)) (fun _ _ _ h => h) (Or.inl ⟨by rfl, ?_⟩) ?_ ?_
      rotate_left
      · intro w'
        go_simp
        first | done | with_reducible rfl
      rotate_left
      · simp only [Act.put, List.setIfInBounds_toArray, List.set_cons_zero, List.set_cons_succ, i64_w, i32_w]
        rfl
      refine one_ (i := 3) (N := some 13) #[true, true, true, true, true, true, true, true, false, false, false] rfl rfl (one_of HT_.out (by kernel_rfl)) (by decide) (fun K hK => ?_)
      refine goes_ Try.func19 (by kernel_rfl) rfl #[.slice A0 l0.length c0, .agg #[.int .i64 a, .int .i64 b]] (by rfl) rfl rfl (by (try simp only [List.map_toArray, List.map_cons, List.map_nil]); first | done | rfl) ?_
      refine (repeats_within.calls _ _ _ _ _ _ _ _ (HR.out _ LK.out.drew) HC0.out HW.out).mono ?_
      rintro e w1 ⟨v0, rfl, hR, hb⟩
      obtain ⟨A1, c1, rfl, hle1, hC1⟩ := Kd.R_reads hR
      have HC1 := Aside0.mk hC1
      have HLE1 := Aside0.mk hle1
      have M1 := Aside0.mk (One.below (W := wr.drew) L1.out hb)
      have M2 := Aside0.mk (One.below (W := wr.drew) L2.out hb)
      have M3 := Aside0.mk (One.below (W := wr.drew) L3.out hb)
      have MB := Aside0.mk (blk_below (w := wr.drew) LB.out hb)
      have MO := Aside0.mk (Kd.R_below (w := wr.drew) LO.out hb)
      have MK := Aside0.mk (LK.out.drew.below hb)
      have MT := Aside0.mk (LT.out.drew.below hb)
      clear hR hb hC1 hle1
      refine ⟨_, rfl, ?_⟩
      refine hK.out _ _ ⟨M1.out.cell, M2.out.cell, M3.out.cell, (blk_cell MB.out 0).trans rfl, (blk_cell MB.out 1).trans rfl⟩ (fun hHeld => ?_)
      clear hK K
      refine norm_ (a' := ?_) ?_ ?_
      rotate_left
      · show Act.put _ (some 13) _ = _
        simp only [Act.put, List.setIfInBounds_toArray, List.set_cons_zero, List.set_cons_succ, i64_w, i32_w]
        rfl
      refine one_ (i := 8) (N := some 18) #[true, true, true, true, true, true, true, true, true, false, false] rfl rfl (one_of HT_.out (by kernel_rfl)) (by decide) (fun K hK => ?_)
      refine goes_ Try.func18 (by kernel_rfl) rfl #[.slice A1 (l0.filter (inS a b)).length c1, .int .i64 (wrap64 (st.2 - a))] (by rfl) rfl rfl (by (try simp only [List.map_toArray, List.map_cons, List.map_nil]); first | done | rfl) ?_
      refine (repeats_moved.calls _ _ _ _ _ _ HC1.out HLE1.out (moved_eq _ _ (by have := List.length_filter_le (inS a b) l0; have := HL.out; omega))).mono ?_
      rintro e w2 ⟨v2, rfl, hR, hb⟩
      obtain ⟨A2, c2, rfl, hle2, hC2⟩ := Kd.R_reads hR
      have HC2 := Aside0.mk hC2
      have N1 := Aside0.mk (One.below M1.out hb)
      have N2 := Aside0.mk (One.below M2.out hb)
      have N3 := Aside0.mk (One.below M3.out hb)
      have NB := Aside0.mk (blk_below MB.out hb)
      have NO := Aside0.mk (Kd.R_below MO.out hb)
      have NK := Aside0.mk (MK.out.below hb)
      have NT := Aside0.mk (MT.out.below hb)
      have HBS : Aside0 (base ≤ w2.heap.size) := ⟨Nat.le_trans hb1 NK.out.size⟩
      clear hR hb hC2 hle2
      refine ⟨_, rfl, ?_⟩
      refine hK.out _ _ ⟨N1.out.cell, N2.out.cell, N3.out.cell, (blk_cell NB.out 0).trans rfl, (blk_cell NB.out 1).trans rfl⟩ (fun hHeld => ?_)
      clear hK K
      refine norm_ (a' := ?_) ?_ ?_
      rotate_left
      · show Act.put _ (some 18) _ = _
        simp only [Act.put, List.setIfInBounds_toArray, List.set_cons_zero, List.set_cons_succ, i64_w, i32_w]
        rfl
      refine one_ (i := 9) (N := some 19) #[true, true, true, true, true, true, true, true, true, true, false] rfl rfl (one_of HT_.out (by kernel_rfl)) (by decide) (fun K hK => ?_)
      refine append_rows_held rfl k43 base (.tmp 10) (.tmp 18) 22 43 (.agg #[(.int .i64 0), (.int .i64 0), (.int .i64 0), (.int .i64 0), (.int .i64 0), (.int .i64 0), (.int .i64 0)]) 56 rfl Try.underlying22 info43 rfl (by decide) (by decide) vo st.1 ((l0.filter (inS a b)).map (mvS43 (wrap64 (st.2 - a)))) _ _ _ (fun _ => False) rfl rfl NO.out HC2.out (fun x cs h => h) (fun _ h => h.elim) HBS.out HN.out ?_
      intro v3 w3 ho3 hb3 hg3 hat
      obtain ⟨A3, c3', rfl⟩ := Kd.R_slice ho3
      have Q1 := Aside0.mk (N1.out.grown hg3 HNE.out)
      have Q2 := Aside0.mk (N2.out.grown hg3 HNE2.out)
      have Q3 := Aside0.mk (N3.out.grown hg3 HNE3.out)
      have QB := Aside0.mk (blk_grown NB.out hg3 HNEB.out)
      have QO := Aside0.mk ho3
      obtain ⟨inn, hown⟩ := Kd.R_own NO.out
      have QK := Aside0.mk (NK.out.grown hg3 (fun k hk => .inl (.inr (.inr (own_base hown k hk)))))
      have QT := Aside0.mk (NT.out.grownBy hg3 (Kd.R_ne NO.out · (by decide)))
      clear hown
      have QG := Aside0.mk hg3
      have hu1 := Q1.out.cell
      have hfu1 := Q1.out.frozen
      clear ho3 hb3 hg3 hat
      refine hK.out _ _ ⟨Q1.out.cell, Q2.out.cell, Q3.out.cell, (blk_cell QB.out 0).trans rfl, (blk_cell QB.out 1).trans rfl⟩ (fun hHeld => ?_)
      clear hK K
      refine norm_ (a' := ?_) ?_ ?_
      rotate_left
      · show Act.put _ (some 19) _ = _
        simp only [Act.put, List.setIfInBounds_toArray, List.set_cons_zero, List.set_cons_succ, i64_w, i32_w]
        rfl
      refine last_ (i := 10) (N := none) #[true, true, true, true, true, true, true, true, true, true, true] rfl rfl (one_of HT_.out (by kernel_rfl)) (by decide) (fun K hK => ?_)
      refine skip_ (w1 := ?_) (by rfl) rfl ?_ ?_
      rotate_left
      · go_simp
        rfl
      refine hK.out _ _ ?_
      clear hK K
      refine done_ (done_of HT_.out (by kernel_rfl)) ?_
      obtain ⟨w4, hw4⟩ : ∃ w4 : World, w4 = w3.setCell ⟨g1, 0, none⟩ (.slice A3 (st.1.length + (l0.filter (inS a b)).length) c3') := ⟨_, rfl⟩
      rw [← hw4]
      have R1 : Aside0 (One w4 g1 22 (.slice A3 (st.1 ++ (l0.filter (inS a b)).map (mvS43 (wrap64 (st.2 - a)))).length c3')) := ⟨by rw [hw4, List.length_append, List.length_map]; exact Q1.out.set _⟩
      have R2 : Aside0 (One w4 g2 22 (.slice A0 l0.length c0)) := ⟨by rw [hw4]; exact Q2.out.far h21 _ _⟩
      have R3 : Aside0 (One w4 g3 3 (.int .i64 st.2)) := ⟨by rw [hw4]; exact Q3.out.far h31 _ _⟩
      have RB : Aside0 (w4.heap[gb]? = some (.cells #[.int .i64 a, .int .i64 b] 37 (0, 0))) := ⟨by rw [hw4]; exact blk_far QB.out (p := ⟨g1, 0, none⟩) (Ne.symm (Q1.out.not QB.out (by decide))) _⟩
      have RO : Aside0 (Kd.R k43 43 w4 base (fun _ => True) (.slice A3 (st.1 ++ (l0.filter (inS a b)).map (mvS43 (wrap64 (st.2 - a)))).length c3') (st.1 ++ (l0.filter (inS a b)).map (mvS43 (wrap64 (st.2 - a))))) := ⟨by rw [hw4]; exact Kd.R_set QO.out Q1.out (fun q hq => (E43 q hq).1) 0 _⟩
      have RK : Aside0 (Keeps W w4 (fun k => k = g1 ∨ k = g3 ∨ base ≤ k)) := ⟨by rw [hw4]; exact QK.out.setCell (p := ⟨g1, 0, none⟩) (.inl (.inl rfl)) _⟩
      have RT : Aside0 (KeepT W w4 39) := ⟨by rw [hw4]; exact QT.out.set Q1.out (by decide) 0 _⟩
      have RNE := Aside0.mk (R3.out.not RB.out (by decide))
      clear hw4 hx1 hf1 hx2 hx3 hf3 hb0 hb1' hu1 hfu1
      have hx3 := R3.out.cell
      have hf3 := R3.out.frozen
      have hb0 : w4.cell? ⟨gb, 0, none⟩ = some (.int .i64 a) := (blk_cell RB.out 0).trans rfl
      have hb1' : w4.cell? ⟨gb, 1, none⟩ = some (.int .i64 b) := (blk_cell RB.out 1).trans rfl
      go_wp2
      go_roundw
      case rel => exact ⟨i + 1, _, by omega, by omega, rfl, ⟨.inl (by omega)⟩, ⟨R1.out.far h13 _ _⟩, ⟨R2.out.far h23 _ _⟩, ⟨by rw [HNX2.out]; exact R3.out.set _⟩, ⟨blk_far RB.out (p := ⟨g3, 0, none⟩) (Ne.symm RNE.out) _⟩, ⟨by rw [HNX2.out]; exact Kd.R_set RO.out R3.out (fun q hq => (E43 q hq).2) 0 _⟩, ⟨RK.out.setCell (p := ⟨g3, 0, none⟩) (.inl (.inr (.inl rfl))) _⟩, ⟨RT.out.set R3.out (by decide) 0 _⟩⟩
      case measure => simp [intOf]; omega
    · have c3b0 : decide (i < t) = false := decide_eq_false c3
      have HE : Aside0 (itN (stepP1 l0 a b) i.toNat s = s') := ⟨by rw [HS0.out]; congr 1; have := HI.out; omega⟩
      clear c3
      go_wp2
      go_end0
      exact ⟨rfl, ⟨vo, L1.out, by rw [← HE.out]; exact L3.out, by rw [← HE.out]; exact LO.out⟩, L2.out, LK.out, LT.out⟩
def repeats_Perform.f (l0 : List S43) (a1 : Int) (l2 : List S39) : Option (List S43 × Int) :=
  if rChk l0 a1 l2 = 0 then (secF (stepP l0) a1 l2 0 ([], 0)).bind fun s => some (s.1, 0) else some ([], rChk l0 a1 l2)
theorem rChk_len {l : List S43} {n : Int} {r : List S39} (h : rChk l n r = 0) : sChk l n = 0 ∧ (r.length : Int) ≤ 16 := by
  unfold rChk at h
  by_cases c : sChk l n = 0
  · rw [if_pos c] at h
    refine ⟨c, ?_⟩
    by_cases c1 : (r.length : Int) > 16
    · rw [if_pos c1] at h; omega
    · omega
  · rw [if_neg c] at h; exact absurd h c
set_option maxHeartbeats 4000000 in
set_option maxRecDepth 100000 in
theorem repeats_Perform.calls (A0 : Option Addr) (c0 : Nat) (l0 : List S43) (a1 : Int) (A2 : Option Addr) (c2 : Nat) (l2 : List S39) (r1 : List S43) (r2 : Int) (w : World) (hr0 : Kd.C k43 w A0 l0.length l0) (hc0 : l0.length ≤ c0) (hr2 : Kd.C k39 w A2 l2.length l2) (hc2 : l2.length ≤ c2) (h : repeats_Perform.f l0 a1 l2 = some (r1, r2)) :
    Calls Try.prog 8 #[.slice A0 l0.length c0, .int .i64 a1, .slice A2 l2.length c2] w fun e w' => ∃ v0_ : Value, e = .returned (.tuple #[v0_, .int .i64 r2]) ∧ Kd.R k43 43 w' w.heap.size (fun _ => True) v0_ r1 ∧ Below w.heap.size w w' := by
  have hu39 := Try.underlying39
  have hu37 := Try.underlying37
  have HR0 := Aside0.mk hr0
  have HC0 := Aside0.mk hc0
  have HR2 := Aside0.mk hr2
  have HC2 := Aside0.mk hc2
  clear hr0 hc0 hr2 hc2
  obtain ⟨g3, hg⟩ : ∃ g : Nat, g = w.heap.size := ⟨_, rfl⟩
  have HG := Aside0.mk hg
  have hgl : w.heap.size ≤ g3 := by omega
  have L3 : Aside0 (One (w.alloc (.cells #[.slice A0 l0.length c0] 22)) w.heap.size 22 (.slice A0 l0.length c0)) := ⟨One.new _ _ _⟩
  have HB := Aside0.mk (below_alloc (Below.refl w.heap.size w) (.cells #[.slice A0 l0.length c0] 22))
  unfold repeats_Perform.f at h
  by_cases c0 : rChk l0 a1 l2 = 0
  case neg =>
    rw [if_neg c0] at h
    simp only [Option.some.injEq, Prod.mk.injEq] at h
    obtain ⟨rfl, rfl⟩ := h
    have c0a : (rChk l0 a1 l2 == 0) = false := by simpa using c0
    have c0b : (rChk l0 a1 l2 != 0) = true := by simpa using c0
    clear c0 hg
    go_enter Try.func8, Try.ntmps8
    go_wp2_with (go_at_call 14; refine (repeats_Check.calls _ _ _ _ _ _ _ _ _ (Kd.C_below HR0.out HB.out) HC0.out (Kd.C_below HR2.out HB.out) HC2.out rfl).mono ?_; rintro e w1 ⟨rfl, hb⟩; have HB2 := Aside0.mk (below_step HB.out hb); clear hb)
    go_ret2
    exact ⟨_, rfl, Kd.R_nil _ _ _ _ _, HB2.out⟩
  rw [if_pos c0] at h
  obtain ⟨⟨so, sa⟩, hs, h⟩ := Option.bind_eq_some_iff.1 h
  simp only [Option.some.injEq, Prod.mk.injEq] at h
  obtain ⟨rfl, rfl⟩ := h
  obtain ⟨hk1, hk2⟩ := rChk_len c0
  obtain ⟨hl0, _, _⟩ := sChk_len hk1
  have HL0 := Aside0.mk hl0
  have HL2 := Aside0.mk hk2
  have HE := Aside0.mk hs
  have HS0 : Aside0 (repeats_Check.f l0 a1 l2 = some 0) := ⟨by unfold repeats_Check.f; rw [c0]⟩
  clear c0 hs hk1 hk2 hl0 hg
  go_enter Try.func8, Try.ntmps8
  go_wp2_with (go_at_call 14; refine (repeats_Check.calls _ _ _ _ _ _ _ _ _ (Kd.C_below HR0.out HB.out) HC0.out (Kd.C_below HR2.out HB.out) HC2.out HS0.out).mono ?_; rintro e w1 ⟨rfl, hb⟩; have HB2 := Aside0.mk (below_step HB.out hb); have M3 := Aside0.mk (L3.out.below hb); have HSZ : Aside0 (w.heap.size < w1.heap.size) := ⟨by have := hb.size; simp at this; omega⟩; clear hb)
  have HB3 := Aside0.mk (below_alloc (below_alloc HB2.out (.cells #[.slice none 0 0] 22)) (.cells #[.int .i64 0] 3))
  have X1 : Aside0 (One ((w1.alloc (.cells #[.slice none 0 0] 22)).alloc (.cells #[.int .i64 0] 3)) w1.heap.size 22 (.slice none 0 0)) := ⟨(One.new _ _ _).alloc _⟩
  have X2 : Aside0 (One ((w1.alloc (.cells #[.slice none 0 0] 22)).alloc (.cells #[.int .i64 0] 3)) (w1.heap.size + 1) 3 (.int .i64 0)) := ⟨by have h := One.new (w1.alloc (.cells #[.slice none 0 0] 22)) 3 (.int .i64 0); rw [World.size_alloc] at h; exact h⟩
  have X3 := Aside0.mk ((M3.out.alloc (.cells #[.slice none 0 0] 22)).alloc (.cells #[.int .i64 0] 3))
  refine (repeats_sections.calls (σ := List S43 × Int) 24 #[.pointer (some ⟨w1.heap.size, 0, none⟩), .pointer (some ⟨w.heap.size, 0, none⟩), .pointer (some ⟨w1.heap.size + 1, 0, none⟩)] (fun s W => (∃ v, One W w1.heap.size 22 v ∧ One W (w1.heap.size + 1) 3 (.int .i64 s.2) ∧ Kd.R k43 43 W (w1.heap.size + 2) (fun _ => True) v s.1) ∧ One W w.heap.size 22 (.slice A0 l0.length c0) ∧ w1.heap.size + 2 ≤ W.heap.size) (fun k => k = w1.heap.size ∨ k = w1.heap.size + 1) (stepP l0) A2 c2 l2 a1 ((w1.alloc (.cells #[.slice none 0 0] 22)).alloc (.cells #[.int .i64 0] 3)) ([], 0) (so, sa) (enters_hyp Try.func24 (by kernel_rfl) rfl) ?_ ?_ ?_ HC2.out (by have := HL2.out; omega) ⟨⟨_, X1.out, X2.out, Kd.R_nil _ _ _ _ _⟩, X3.out, by simp⟩ HE.out).mono ?_
  · rintro s s' a b t W hk ⟨⟨v, h1, h3, ho⟩, h2, hz⟩ hs
    have hbw : Below w.heap.size w W := Below.trans HB3.out (hk.toBelow (fun k h => by have := HSZ.out; omega) (by have := HSZ.out; simp; omega))
    refine (perform_1 w1.heap.size w.heap.size (w1.heap.size + 1) A0 c0 l0 s s' a b t (w1.heap.size + 2) v W h1 h2 h3 ho (by have := HSZ.out; omega) hz (fun W' hk' => C_keeps heap43 HR0.out hbw (fun k hk => by have := HSZ.out; omega) hk') HC0.out (by have := HL0.out; omega) hs).mono ?_
    rintro e W' ⟨rfl, h4, h5, h6, h7⟩
    exact ⟨rfl, ⟨h4, h5, Nat.le_trans hz h6.size⟩, hk.then_ h6 (fun k h => by simp only [World.size_alloc]; omega), h7⟩
  · rintro s W W' ⟨⟨v, h1, h3, ho⟩, h2, hz⟩ hb
    exact ⟨⟨v, h1.below hb, h3.below hb, Kd.R_below ho hb⟩, h2.below hb, Nat.le_trans hz hb.size⟩
  · intro W hk
    exact C_keeps heap39 HR2.out HB3.out (fun k hk => by have := HSZ.out; omega) hk
  rintro e w2 ⟨rfl, ⟨⟨v, h1, h3, ho⟩, h2, hz⟩, hK⟩
  have hc1 := h1.cell
  have HO := Aside0.mk (Kd.R_lower ho (show w.heap.size ≤ w1.heap.size + 2 by have := HSZ.out; omega))
  have HB4 := Aside0.mk (Below.trans HB3.out (hK.toBelow (fun k h => by have := HSZ.out; omega) (by have := HSZ.out; simp; omega)))
  obtain ⟨A9, c9, rfl⟩ := Kd.R_slice ho
  clear h1 h2 h3 ho hK hz
  go_wp2_with fail
  go_ret2
  exact ⟨_, rfl, HO.out, HB4.out⟩

/-! ### repeats_performed: function 25 -/
def repeats_performed.f (a0 : Int) (l1 : List S39) : Option Int := if l1.length ≤ 1000000 then some (secT stepN a0 l1 0 0) else none
set_option maxHeartbeats 2000000 in
set_option maxRecDepth 100000 in
theorem repeats_performed.calls (a0 : Int) (A1 : Option Addr) (c1 : Nat) (l1 : List S39) (r : Int) (w : World) (hr1 : Kd.C k39 w A1 l1.length l1) (hc1 : l1.length ≤ c1) (h : repeats_performed.f a0 l1 = some r) :
    Calls Try.prog 25 #[.int .i64 a0, .slice A1 l1.length c1] w fun e w' => e = .returned (.int .i64 r) ∧ Below w.heap.size w w' := by
  have hl : l1.length ≤ 1000000 := by
    unfold repeats_performed.f at h
    by_cases hx : l1.length ≤ 1000000
    · exact hx
    · rw [if_neg hx] at h; exact absurd h (by simp)
  have HE : Aside0 (secF (fun s a b t => some (stepN s a b t)) a0 l1 0 0 = some r) := ⟨by unfold repeats_performed.f at h; rw [if_pos hl] at h; rw [secF_total]; exact h⟩
  have HR1 := Aside0.mk hr1
  have HC1 := Aside0.mk hc1
  have HL := Aside0.mk hl
  clear h hr1 hc1 hl
  obtain ⟨g, hg⟩ : ∃ g : Nat, g = w.heap.size := ⟨_, rfl⟩
  have HG := Aside0.mk hg
  have X1 : Aside0 (One (w.alloc (.cells #[.int .i64 0] 3)) g 3 (.int .i64 0)) := ⟨by rw [hg]; exact One.new _ _ _⟩
  have XB := Aside0.mk (below_alloc (Below.refl w.heap.size w) (.cells #[.int .i64 0] 3))
  clear hg
  go_enter Try.func25, Try.ntmps25
  go_wp2_with fail
  refine (repeats_sections.calls (σ := Int) 35 #[.pointer (some ⟨w.heap.size, 0, none⟩)] (fun n W => One W w.heap.size 3 (.int .i64 n)) (fun k => k = w.heap.size) (fun s a b t => some (stepN s a b t)) A1 c1 l1 a0 (w.alloc (.cells #[.int .i64 0] 3)) 0 r (enters_hyp Try.func35 (by kernel_rfl) rfl) ?_ ?_ ?_ HC1.out (by have := HL.out; omega) (by have := X1.out; rw [HG.out] at this; exact this) HE.out).mono ?_
  · intro s s' a b t W hk hi hs
    obtain rfl := Option.some.inj hs
    refine (performed_1 w.heap.size s a b t W hi).mono ?_
    rintro e W' ⟨rfl, h1, h2⟩
    exact ⟨rfl, h1, hk.then_ h2 (fun _ h => .inl h), KeepT.keeps h2 (fun k cs hk' he => hi.not hk' (by decide) he.symm)⟩
  · intro s W W' hi hb
    exact hi.below hb
  · intro W hk
    exact C_keeps heap39 HR1.out XB.out (fun k hk => by omega) hk
  rintro e w1 ⟨rfl, hI, hK⟩
  have hc := hI.cell
  have HB := Aside0.mk (Below.trans XB.out (hK.toBelow (fun k h => by omega) (by simp)))
  clear hI hK
  go_wp2
  go_ret
  exact ⟨rfl, HB.out⟩

/-! ### repeats_Length: function 9 -/
def repeats_Length.f (l0 : List (S43)) (a1 : Int) (l2 : List (S39)) : Option (Int × Int) := (repeats_Check.f l0 a1 l2).bind fun t183 => (if t183 = 0 then ((repeats_performed.f a1 l2).bind fun t184 => (some (t184, 0))) else (some (0, t183)))
set_option maxHeartbeats 8000000 in
set_option maxRecDepth 100000 in
theorem repeats_Length.calls (A0 : Option Addr) (c0 : Nat) (l0 : List (S43)) (a1 : Int) (A2 : Option Addr) (c2 : Nat) (l2 : List (S39)) (r1 : Int) (r2 : Int) (w : World) (hr0 : Kd.C k43 w A0 l0.length l0) (hc0 : l0.length ≤ c0) (hr2 : Kd.C k39 w A2 l2.length l2) (hc2 : l2.length ≤ c2) (h : repeats_Length.f l0 a1 l2 = some (r1, r2)) :
    Calls Try.prog 9 #[.slice A0 l0.length c0, .int .i64 a1, .slice A2 l2.length c2] w fun e w' => e = .returned (.tuple #[.int .i64 r1, .int .i64 r2]) ∧ Below w.heap.size w w' := by
  have HR0 := Aside0.mk hr0
  have HC0 := Aside0.mk hc0
  clear hr0 hc0
  have HR2 := Aside0.mk hr2
  have HC2 := Aside0.mk hc2
  clear hr2 hc2
  have HB := Aside0.mk (Below.refl w.heap.size w)
  have H : ((repeats_Check.f l0 a1 l2).bind fun t183 => (if t183 = 0 then ((repeats_performed.f a1 l2).bind fun t184 => (some (t184, 0))) else (some (0, t183)))) = some (r1, r2) := h
  clear h
  replace H := Option.bind_eq_some_iff.mp H
  obtain ⟨t183, A40, H⟩ := H
  replace H : (if t183 = 0 then ((repeats_performed.f a1 l2).bind fun t184 => (some (t184, 0))) else (some (0, t183))) = some (r1, r2) := H
  have A4 := Aside0.mk A40
  clear A40
  by_cases c5 : t183 = 0
  · rw [if_pos c5] at H
    have c5b0 : (t183 == 0) = true := beq_iff_eq.mpr c5
    have c5b1 : (t183 != 0) = false := bne_eq_false_iff_eq.mpr c5
    clear c5
    replace H := Option.bind_eq_some_iff.mp H
    obtain ⟨t184, A60, H⟩ := H
    replace H : (some (t184, 0)) = some (r1, r2) := H
    have A6 := Aside0.mk A60
    clear A60
    simp only [Option.some.injEq, Prod.mk.injEq] at H
    obtain ⟨rfl, rfl⟩ := H
    go_enter Try.func9, Try.ntmps9
    go_wp2_with (first | ((with_reducible refine gate_callee (f := 14) rfl ?_); refine goesL_ (some 12) rfl rfl Try.func14 (by kernel_rfl) rfl #[.slice A0 l0.length c0, .int .i64 a1, .slice A2 l2.length c2] rfl (by (try simp only [List.map_toArray, List.map_cons, List.map_nil]); first | done | rfl | (simp only [List.length_drop, List.length_take]; rfl)) ?_; (with_reducible refine (repeats_Check.calls _ _ l0 a1 _ _ l2 t183 _ ?side1 ?side2 ?side3 ?side4 A4.out).mono ?_); (case side1 => repeat (first | exact HR0.out | (with_reducible refine Kd.C_alloc ?_ _) | (with_reducible refine Kd.C_drewN ?_ _) | (with_reducible refine Kd.C_drew ?_))); (case side2 => exact HC0.out); (case side3 => repeat (first | exact HR2.out | (with_reducible refine Kd.C_alloc ?_ _) | (with_reducible refine Kd.C_drewN ?_ _) | (with_reducible refine Kd.C_drew ?_))); (case side4 => exact HC2.out); rintro e w7 ⟨rfl, hb⟩; refine ⟨_, rfl, ?_⟩; have n0_ := Aside0.mk (below_step (by repeat (first | (with_reducible first | exact HB.out | apply below_alloc | apply pw_below_drewN | apply below_drew1) | exact HB.out)) hb); clear HB; have HB := n0_; clear n0_; (try clear hb); (try clear hb2); (try clear hk); (try clear hi)) | ((with_reducible refine gate_callee (f := 25) rfl ?_); refine goesL_ (some 18) rfl rfl Try.func25 (by kernel_rfl) rfl #[.int .i64 a1, .slice A2 l2.length c2] rfl (by (try simp only [List.map_toArray, List.map_cons, List.map_nil]); first | done | rfl | (simp only [List.length_drop, List.length_take]; rfl)) ?_; (with_reducible refine (repeats_performed.calls a1 _ _ l2 t184 _ ?side1 ?side2 A6.out).mono ?_); (case side1 => repeat (first | exact (Kd.C_below HR2.out HB.out) | (with_reducible refine Kd.C_alloc ?_ _) | (with_reducible refine Kd.C_drewN ?_ _) | (with_reducible refine Kd.C_drew ?_))); (case side2 => exact HC2.out); rintro e w8 ⟨rfl, hb⟩; refine ⟨_, rfl, ?_⟩; have n0_ := Aside0.mk (below_step (by repeat (first | (with_reducible first | exact HB.out | apply below_alloc | apply pw_below_drewN | apply below_drew1) | exact HB.out)) hb); clear HB; have HB := n0_; clear n0_; (try clear hb); (try clear hb2); (try clear hk); (try clear hi)))
    go_ret2
    exact ⟨by first | rfl | (simp [errW_none, errW_some] <;> rfl) | (simp [*, errW_none, errW_some] <;> rfl), by repeat (first | (with_reducible first | exact HB.out | apply below_alloc | apply pw_below_drewN | apply below_drew1) | exact HB.out)⟩
  · rw [if_neg c5] at H
    have c5b0 : (t183 == 0) = false := beq_eq_false_iff_ne.mpr c5
    have c5b1 : (t183 != 0) = true := bne_iff_ne.mpr c5
    simp only [Option.some.injEq, Prod.mk.injEq] at H
    obtain ⟨rfl, rfl⟩ := H
    go_enter Try.func9, Try.ntmps9
    go_wp2_with (first | ((with_reducible refine gate_callee (f := 14) rfl ?_); refine goesL_ (some 12) rfl rfl Try.func14 (by kernel_rfl) rfl #[.slice A0 l0.length c0, .int .i64 a1, .slice A2 l2.length c2] rfl (by (try simp only [List.map_toArray, List.map_cons, List.map_nil]); first | done | rfl | (simp only [List.length_drop, List.length_take]; rfl)) ?_; (with_reducible refine (repeats_Check.calls _ _ l0 a1 _ _ l2 t183 _ ?side1 ?side2 ?side3 ?side4 A4.out).mono ?_); (case side1 => repeat (first | exact HR0.out | (with_reducible refine Kd.C_alloc ?_ _) | (with_reducible refine Kd.C_drewN ?_ _) | (with_reducible refine Kd.C_drew ?_))); (case side2 => exact HC0.out); (case side3 => repeat (first | exact HR2.out | (with_reducible refine Kd.C_alloc ?_ _) | (with_reducible refine Kd.C_drewN ?_ _) | (with_reducible refine Kd.C_drew ?_))); (case side4 => exact HC2.out); rintro e w9 ⟨rfl, hb⟩; refine ⟨_, rfl, ?_⟩; have n0_ := Aside0.mk (below_step (by repeat (first | (with_reducible first | exact HB.out | apply below_alloc | apply pw_below_drewN | apply below_drew1) | exact HB.out)) hb); clear HB; have HB := n0_; clear n0_; (try clear hb); (try clear hb2); (try clear hk); (try clear hi)))
    go_ret2
    exact ⟨by first | rfl | (simp [errW_none, errW_some] <;> rfl) | (simp [*, errW_none, errW_some] <;> rfl), by repeat (first | (with_reducible first | exact HB.out | apply below_alloc | apply pw_below_drewN | apply below_drew1) | exact HB.out)⟩

/-! ### dancestudioref26_Same: function 10 -/
def dancestudioref26_Same.l0 : Nat → List (S43) → List (S43) → Int → Option (Bool)
  | 0, _, _, _ => none
  | k + 1, x0, x1, x5 => if x5 < (x0.length : Int) then (if 0 ≤ x5 then (if x5 < (x1.length : Int) then (if (!(((rd_T43 x0 x5).f0) == ((rd_T43 x1 x5).f0)) || (!(((rd_T43 x0 x5).f1) == ((rd_T43 x1 x5).f1)) || (!(((rd_T43 x0 x5).f2) == ((rd_T43 x1 x5).f2)) || (!(((rd_T43 x0 x5).f3) == ((rd_T43 x1 x5).f3)) || (!(((rd_T43 x0 x5).f4) == ((rd_T43 x1 x5).f4)) || (!(((rd_T43 x0 x5).f5) == ((rd_T43 x1 x5).f5)) || (!(((rd_T43 x0 x5).f6) == ((rd_T43 x1 x5).f6))))))))) = true then (some false) else (dancestudioref26_Same.l0 k x0 x1 (wrap64 (x5 + 1)))) else (none)) else (none)) else (some true)
def dancestudioref26_Same.f (k : Nat) (l0 : List (S43)) (l1 : List (S43)) : Option (Bool) := if (l0.length : Int) = (l1.length : Int) then (dancestudioref26_Same.l0 k l0 l1 0) else (some false)
theorem dancestudioref26_Same.mono_l : ∀ k, (∀ y0 y1 y2, LeO (dancestudioref26_Same.l0 k y0 y1 y2) (dancestudioref26_Same.l0 (k + 1) y0 y1 y2))
  | 0 => fun _ _ _ r h => by simp [dancestudioref26_Same.l0] at h
  | k + 1 => by
    have ih0 := dancestudioref26_Same.mono_l k
    · intro y0 y1 y2
      unfold dancestudioref26_Same.l0
      repeat' first
      | (with_reducible exact ih0 _ _ _)
      | (with_reducible exact LeO.refl _)
      | (with_reducible exact LeO.none _)
      | (with_reducible refine LeO.ite ?_ ?_)
      | (with_reducible refine LeO.bind ?_ (fun _ => ?_))
      | exact ih0 _ _ _
      | exact LeO.none _
      | refine LeO.ite ?_ ?_
      | refine LeO.bind ?_ (fun _ => ?_)
theorem dancestudioref26_Same.mono : ∀ a0 a1 k, LeO (dancestudioref26_Same.f k a0 a1) (dancestudioref26_Same.f (k + 1) a0 a1) := by
  intro a0 a1 k
  have ih0 := dancestudioref26_Same.mono_l k
  unfold dancestudioref26_Same.f
  repeat' first
      | (with_reducible exact ih0 _ _ _)
      | (with_reducible exact LeO.refl _)
      | (with_reducible exact LeO.none _)
      | (with_reducible refine LeO.ite ?_ ?_)
      | (with_reducible refine LeO.bind ?_ (fun _ => ?_))
      | exact ih0 _ _ _
      | exact LeO.none _
      | refine LeO.ite ?_ ?_
      | refine LeO.bind ?_ (fun _ => ?_)
set_option maxHeartbeats 8000000 in
set_option maxRecDepth 100000 in
theorem dancestudioref26_Same.calls (k : Nat) (A0 : Option Addr) (c0 : Nat) (l0 : List (S43)) (A1 : Option Addr) (c1 : Nat) (l1 : List (S43)) (r : Bool) (w : World) (hr0 : Kd.C k43 w A0 l0.length l0) (hc0 : l0.length ≤ c0) (hr1 : Kd.C k43 w A1 l1.length l1) (hc1 : l1.length ≤ c1) (h : dancestudioref26_Same.f k l0 l1 = some r) :
    Calls Try.prog 10 #[.slice A0 l0.length c0, .slice A1 l1.length c1] w fun e w' => e = .returned (.bool r) ∧ Drawn0 w w' := by
  have hu43 := Try.underlying43
  have HR0 := Aside0.mk hr0
  have HC0 := Aside0.mk hc0
  clear hr0 hc0
  have HR1 := Aside0.mk hr1
  have HC1 := Aside0.mk hc1
  clear hr1 hc1
  have H : (if (l0.length : Int) = (l1.length : Int) then (dancestudioref26_Same.l0 k l0 l1 0) else (some false)) = some r := h
  clear h
  by_cases c3 : (l0.length : Int) = (l1.length : Int)
  · rw [if_pos c3] at H
    have c3b0 : ((l0.length : Int) == (l1.length : Int)) = true := beq_iff_eq.mpr c3
    have c3b1 : ((l0.length : Int) != (l1.length : Int)) = false := bne_eq_false_iff_eq.mpr c3
    have c3b2 : (l0.length == l1.length) = true := by first | simpa using c3 | (simp at c3 ⊢; omega)
    clear c3
    have H' := Aside0.mk H
    clear H
    go_enter Try.func10, Try.ntmps10
    go_wp2
    repeat (go_quiet (fail); try go_wp2)
    go_loopg [5] k (fun kq v5 w' => ∃ (x5_1 : Int), v5 = .int .i64 x5_1 ∧ Aside0 (dancestudioref26_Same.l0 kq l0 l1 x5_1 = some r) ∧ Aside0 (kq ≤ k) ∧ Drawn0 w w')
    case atStart => exact ⟨(0), (by first | rfl | (simp; done) | (simp [*]; done)), H', ⟨Nat.le_refl _⟩, by repeat (first | exact Drawn0.refl _ | apply Drawn0.step)⟩
    case round =>
      clear H'
      try clear c1
      try clear p2
      try clear c3
      try clear c3b0
      try clear c3b1
      try clear c3b2
      obtain ⟨x5_1, rfl, HA, HK1, ⟨m1, rfl⟩⟩ := hrel
      cases gk with
      | zero => exact absurd HA.out (by simp [dancestudioref26_Same.l0])
      | succ k1 =>
        have H := HA.out
        clear HA
        simp only [dancestudioref26_Same.l0] at H
        by_cases c4 : x5_1 < (l0.length : Int)
        · rw [if_pos c4] at H
          have c4b0 : decide (x5_1 < (l0.length : Int)) = true := decide_eq_true c4
          clear c4
          by_cases c5 : 0 ≤ x5_1
          · rw [if_pos c5] at H
            have c5b0 : decide (0 ≤ x5_1) = true := decide_eq_true c5
            clear c5
            by_cases c6 : x5_1 < (l1.length : Int)
            · rw [if_pos c6] at H
              have c6b0 : decide (x5_1 < (l1.length : Int)) = true := decide_eq_true c6
              clear c6
              by_cases c7 : (!(((rd_T43 l0 x5_1).f0) == ((rd_T43 l1 x5_1).f0)) || (!(((rd_T43 l0 x5_1).f1) == ((rd_T43 l1 x5_1).f1)) || (!(((rd_T43 l0 x5_1).f2) == ((rd_T43 l1 x5_1).f2)) || (!(((rd_T43 l0 x5_1).f3) == ((rd_T43 l1 x5_1).f3)) || (!(((rd_T43 l0 x5_1).f4) == ((rd_T43 l1 x5_1).f4)) || (!(((rd_T43 l0 x5_1).f5) == ((rd_T43 l1 x5_1).f5)) || (!(((rd_T43 l0 x5_1).f6) == ((rd_T43 l1 x5_1).f6))))))))) = true
              · rw [if_pos c7] at H
                have c7b0 : (!(((rd_T43 l0 x5_1).f0) == ((rd_T43 l1 x5_1).f0)) || (!(((rd_T43 l0 x5_1).f1) == ((rd_T43 l1 x5_1).f1)) || (!(((rd_T43 l0 x5_1).f2) == ((rd_T43 l1 x5_1).f2)) || (!(((rd_T43 l0 x5_1).f3) == ((rd_T43 l1 x5_1).f3)) || (!(((rd_T43 l0 x5_1).f4) == ((rd_T43 l1 x5_1).f4)) || (!(((rd_T43 l0 x5_1).f5) == ((rd_T43 l1 x5_1).f5)) || (!(((rd_T43 l0 x5_1).f6) == ((rd_T43 l1 x5_1).f6))))))))) = true := c7
                clear c7
                obtain rfl := Option.some.inj H
                have p185 : 0 ≤ (x5_1 : Int) := of_decide_eq_true (by first | (with_reducible assumption) | assumption)
                have q185 : x5_1 < (l0.length : Int) := of_decide_eq_true (by first | (with_reducible assumption) | assumption)
                obtain ⟨ad185, e185, hx185_0, hx185_1, hx185_2, hx185_3, hx185_4, hx185_5, hx185_6⟩ := at_T43 HR0.out x5_1 p185 q185
                cases e185
                replace p185 := eq_true p185
                replace q185 := eq_true q185
                have p186 : 0 ≤ (x5_1 : Int) := of_decide_eq_true (by first | (with_reducible assumption) | assumption)
                have q186 : x5_1 < (l1.length : Int) := of_decide_eq_true (by first | (with_reducible assumption) | assumption)
                obtain ⟨ad186, e186, hx186_0, hx186_1, hx186_2, hx186_3, hx186_4, hx186_5, hx186_6⟩ := at_T43 HR1.out x5_1 p186 q186
                cases e186
                replace p186 := eq_true p186
                replace q186 := eq_true q186
                go_wp2
                repeat (go_quiet (fail); try go_wp2)
                go_ret
                exact ⟨by first | rfl | (simp; done) | (simp [*]; done), by repeat (first | exact Drawn0.refl _ | apply Drawn0.step)⟩
              · rw [if_neg c7] at H
                have c7b0 : (!(((rd_T43 l0 x5_1).f0) == ((rd_T43 l1 x5_1).f0)) || (!(((rd_T43 l0 x5_1).f1) == ((rd_T43 l1 x5_1).f1)) || (!(((rd_T43 l0 x5_1).f2) == ((rd_T43 l1 x5_1).f2)) || (!(((rd_T43 l0 x5_1).f3) == ((rd_T43 l1 x5_1).f3)) || (!(((rd_T43 l0 x5_1).f4) == ((rd_T43 l1 x5_1).f4)) || (!(((rd_T43 l0 x5_1).f5) == ((rd_T43 l1 x5_1).f5)) || (!(((rd_T43 l0 x5_1).f6) == ((rd_T43 l1 x5_1).f6))))))))) = false := by simpa using c7
                clear c7
                have H' := Aside0.mk H
                clear H
                have p185 : 0 ≤ (x5_1 : Int) := of_decide_eq_true (by first | (with_reducible assumption) | assumption)
                have q185 : x5_1 < (l0.length : Int) := of_decide_eq_true (by first | (with_reducible assumption) | assumption)
                obtain ⟨ad185, e185, hx185_0, hx185_1, hx185_2, hx185_3, hx185_4, hx185_5, hx185_6⟩ := at_T43 HR0.out x5_1 p185 q185
                cases e185
                replace p185 := eq_true p185
                replace q185 := eq_true q185
                have p186 : 0 ≤ (x5_1 : Int) := of_decide_eq_true (by first | (with_reducible assumption) | assumption)
                have q186 : x5_1 < (l1.length : Int) := of_decide_eq_true (by first | (with_reducible assumption) | assumption)
                obtain ⟨ad186, e186, hx186_0, hx186_1, hx186_2, hx186_3, hx186_4, hx186_5, hx186_6⟩ := at_T43 HR1.out x5_1 p186 q186
                cases e186
                replace p186 := eq_true p186
                replace q186 := eq_true q186
                go_wp2
                repeat (go_quiet (fail); try go_wp2)
                go_roundg k1
                case measure => have := HK1.out; omega
                case rel => exact ⟨(wrap64 (x5_1 + 1)), (by first | rfl | (simp; done) | (simp [*]; done)), H', ⟨by have := HK1.out; omega⟩, by repeat (first | exact Drawn0.refl _ | apply Drawn0.step)⟩
            · rw [if_neg c6] at H
              exact absurd H (by simp)
          · rw [if_neg c5] at H
            exact absurd H (by simp)
        · rw [if_neg c4] at H
          have c4b0 : decide (x5_1 < (l0.length : Int)) = false := decide_eq_false c4
          clear c4
          obtain rfl := Option.some.inj H
          go_wp2
          repeat (go_quiet (fail); try go_wp2)
          go_ret
          exact ⟨by first | rfl | (simp; done) | (simp [*]; done), by repeat (first | exact Drawn0.refl _ | apply Drawn0.step)⟩
  · rw [if_neg c3] at H
    have c3b0 : ((l0.length : Int) == (l1.length : Int)) = false := beq_eq_false_iff_ne.mpr c3
    have c3b1 : ((l0.length : Int) != (l1.length : Int)) = true := bne_iff_ne.mpr c3
    have c3b2 : (l0.length == l1.length) = false := by first | simpa using c3 | (simp at c3 ⊢; omega)
    obtain rfl := Option.some.inj H
    go_enter Try.func10, Try.ntmps10
    go_wp2
    repeat (go_quiet (fail); try go_wp2)
    go_ret
    exact ⟨by first | rfl | (simp; done) | (simp [*]; done), by repeat (first | exact Drawn0.refl _ | apply Drawn0.step)⟩

/-! ### dancestudiolaw26_twice: function 12 -/
def dancestudiolaw26_twice.f (a0 : Int) (a1 : Int) (a2 : Int) : Option (Int × Int × Int) := some (a0, a1, a2)
set_option maxHeartbeats 8000000 in
set_option maxRecDepth 100000 in
theorem dancestudiolaw26_twice.calls (a0 : Int) (a1 : Int) (a2 : Int) (r1 : Int) (r2 : Int) (r3 : Int) (w : World) (h : dancestudiolaw26_twice.f a0 a1 a2 = some (r1, r2, r3)) :
    Calls Try.prog 12 #[.int .i64 a0, .int .i64 a1, .int .i64 a2] w fun e w' => e = .returned (.agg #[.int .i64 r1, .int .i64 r2, .int .i64 r3]) ∧ Below w.heap.size w w' := by
  have hu39 := Try.underlying39
  have hu37 := Try.underlying37
  have HB := Aside0.mk (Below.refl w.heap.size w)
  have H : (some (a0, a1, a2)) = some (r1, r2, r3) := h
  clear h
  simp only [Option.some.injEq, Prod.mk.injEq] at H
  obtain ⟨rfl, rfl, rfl⟩ := H
  go_enter Try.func12, Try.ntmps12
  go_wp2_with (first | ((with_reducible refine gate_dst (N := 6) rfl ?_); refine box_event ?hg (N := 6) ?hd (cs := #[.int .i64 0, .int .i64 0, .int .i64 0]) (t := 39) ?hr ?_; (case hd => rfl); (case hg => rfl); (case hr => first | (go_simp; done) | (go_simp; rfl)); intro gb187 hg w4 hbox hb; have n0_ := Aside0.mk (below_step (by repeat (first | (with_reducible first | exact HB.out | apply below_alloc | apply pw_below_drewN | apply below_drew1) | exact HB.out)) hb); have n1_ := Aside0.mk (hbox); have n2_ := Aside0.mk ((by rw [hg]; exact (below_size (by repeat (first | (with_reducible first | exact HB.out | apply below_alloc | apply pw_below_drewN | apply below_drew1) | exact HB.out))) : w.heap.size ≤ gb187)); have n3_ := Aside0.mk ((by rw [hg]; exact (below_size (by repeat (first | (with_reducible first | exact HB.out | apply below_alloc | apply pw_below_drewN | apply below_drew1) | exact HB.out))) : w.heap.size ≤ gb187)); clear HB; have HB := n0_; have BK187 := n1_; have GW187 := n2_; have GE187 := n3_; clear n0_ n1_ n2_ n3_; clear hb hbox hg; have hcz5_0 : w4.cell? ⟨gb187, 0, none⟩ = some (.int .i64 0) := (blk_cell BK187.out 0).trans rfl; have hcz5_1 : w4.cell? ⟨gb187, 1, none⟩ = some (.int .i64 0) := (blk_cell BK187.out 1).trans rfl; have hcz5_2 : w4.cell? ⟨gb187, 2, none⟩ = some (.int .i64 0) := (blk_cell BK187.out 2).trans rfl; have hfz5_0 := blk_frozen BK187.out 0; have hfz5_1 := blk_frozen BK187.out 1; have hfz5_2 := blk_frozen BK187.out 2))
  refine bodyPost_ret (results_cell_row rfl _ _ gb187 39 #[.int .i64 a0, .int .i64 a1, .int .i64 a2] (0, 0) _ rfl (by (with_reducible repeat (first | refine blk_drewN ?_ _ | refine blk_drew ?_ | refine blk_alloc ?_ _)); refine blk_put (cs := #[.int .i64 a0, .int .i64 a1, .int .i64 0]) ?_ 2 _ rfl; (with_reducible repeat (first | refine blk_drewN ?_ _ | refine blk_drew ?_ | refine blk_alloc ?_ _)); refine blk_put (cs := #[.int .i64 a0, .int .i64 0, .int .i64 0]) ?_ 1 _ rfl; (with_reducible repeat (first | refine blk_drewN ?_ _ | refine blk_drew ?_ | refine blk_alloc ?_ _)); refine blk_put (cs := #[.int .i64 0, .int .i64 0, .int .i64 0]) ?_ 0 _ rfl; (with_reducible repeat (first | refine blk_drewN ?_ _ | refine blk_drew ?_ | refine blk_alloc ?_ _)); exact BK187.out) Try.underlying39 rfl (by kernel_rfl)) rfl ?_
  exact ⟨by first | rfl | (simp [errW_none, errW_some] <;> rfl) | (simp [*, errW_none, errW_some] <;> rfl), by repeat (first | (with_reducible first | exact HB.out | apply below_alloc | apply pw_below_drewN | apply below_drew1 | refine below_set ?_ GE187.out) | exact HB.out)⟩

/-! ### dancestudiolaw26_hold: function 13 -/
def dancestudiolaw26_hold.f (a0 : Int) (a1 : Int) : Option (Int × Int × Int × Int × Int × Int × Int) := some (2, 0, a0, wrap64 (a1 - a0), 0, 0, 0)
set_option maxHeartbeats 8000000 in
set_option maxRecDepth 100000 in
theorem dancestudiolaw26_hold.calls (a0 : Int) (a1 : Int) (r1 : Int) (r2 : Int) (r3 : Int) (r4 : Int) (r5 : Int) (r6 : Int) (r7 : Int) (w : World) (h : dancestudiolaw26_hold.f a0 a1 = some (r1, r2, r3, r4, r5, r6, r7)) :
    Calls Try.prog 13 #[.int .i64 a0, .int .i64 a1] w fun e w' => e = .returned (.agg #[.int .i64 r1, .int .i64 r2, .int .i64 r3, .int .i64 r4, .int .i64 r5, .int .i64 r6, .int .i64 r7]) ∧ Below w.heap.size w w' := by
  have hu43 := Try.underlying43
  have HB := Aside0.mk (Below.refl w.heap.size w)
  have H : (some (2, 0, a0, wrap64 (a1 - a0), 0, 0, 0)) = some (r1, r2, r3, r4, r5, r6, r7) := h
  clear h
  simp only [Option.some.injEq, Prod.mk.injEq] at H
  obtain ⟨rfl, rfl, rfl, rfl, rfl, rfl, rfl⟩ := H
  go_enter Try.func13, Try.ntmps13
  go_wp2_with (first | ((with_reducible refine gate_dst (N := 4) rfl ?_); refine box_event ?hg (N := 4) ?hd (cs := #[.int .i64 0, .int .i64 0, .int .i64 0, .int .i64 0, .int .i64 0, .int .i64 0, .int .i64 0]) (t := 43) ?hr ?_; (case hd => rfl); (case hg => rfl); (case hr => first | (go_simp; done) | (go_simp; rfl)); intro gb188 hg w3 hbox hb; have n0_ := Aside0.mk (below_step (by repeat (first | (with_reducible first | exact HB.out | apply below_alloc | apply pw_below_drewN | apply below_drew1) | exact HB.out)) hb); have n1_ := Aside0.mk (hbox); have n2_ := Aside0.mk ((by rw [hg]; exact (below_size (by repeat (first | (with_reducible first | exact HB.out | apply below_alloc | apply pw_below_drewN | apply below_drew1) | exact HB.out))) : w.heap.size ≤ gb188)); have n3_ := Aside0.mk ((by rw [hg]; exact (below_size (by repeat (first | (with_reducible first | exact HB.out | apply below_alloc | apply pw_below_drewN | apply below_drew1) | exact HB.out))) : w.heap.size ≤ gb188)); clear HB; have HB := n0_; have BK188 := n1_; have GW188 := n2_; have GE188 := n3_; clear n0_ n1_ n2_ n3_; clear hb hbox hg; have hcz4_0 : w3.cell? ⟨gb188, 0, none⟩ = some (.int .i64 0) := (blk_cell BK188.out 0).trans rfl; have hcz4_1 : w3.cell? ⟨gb188, 1, none⟩ = some (.int .i64 0) := (blk_cell BK188.out 1).trans rfl; have hcz4_2 : w3.cell? ⟨gb188, 2, none⟩ = some (.int .i64 0) := (blk_cell BK188.out 2).trans rfl; have hcz4_3 : w3.cell? ⟨gb188, 3, none⟩ = some (.int .i64 0) := (blk_cell BK188.out 3).trans rfl; have hcz4_4 : w3.cell? ⟨gb188, 4, none⟩ = some (.int .i64 0) := (blk_cell BK188.out 4).trans rfl; have hcz4_5 : w3.cell? ⟨gb188, 5, none⟩ = some (.int .i64 0) := (blk_cell BK188.out 5).trans rfl; have hcz4_6 : w3.cell? ⟨gb188, 6, none⟩ = some (.int .i64 0) := (blk_cell BK188.out 6).trans rfl; have hfz4_0 := blk_frozen BK188.out 0; have hfz4_1 := blk_frozen BK188.out 1; have hfz4_2 := blk_frozen BK188.out 2; have hfz4_3 := blk_frozen BK188.out 3; have hfz4_4 := blk_frozen BK188.out 4; have hfz4_5 := blk_frozen BK188.out 5; have hfz4_6 := blk_frozen BK188.out 6))
  refine bodyPost_ret (results_cell_row rfl _ _ gb188 43 #[.int .i64 2, .int .i64 0, .int .i64 a0, .int .i64 (wrap64 (a1 - a0)), .int .i64 0, .int .i64 0, .int .i64 0] (0, 0) _ rfl (by (with_reducible repeat (first | refine blk_drewN ?_ _ | refine blk_drew ?_ | refine blk_alloc ?_ _)); refine blk_put (cs := #[.int .i64 2, .int .i64 0, .int .i64 a0, .int .i64 (wrap64 (a1 - a0)), .int .i64 0, .int .i64 0, .int .i64 0]) ?_ 6 _ rfl; (with_reducible repeat (first | refine blk_drewN ?_ _ | refine blk_drew ?_ | refine blk_alloc ?_ _)); refine blk_put (cs := #[.int .i64 2, .int .i64 0, .int .i64 a0, .int .i64 (wrap64 (a1 - a0)), .int .i64 0, .int .i64 0, .int .i64 0]) ?_ 5 _ rfl; (with_reducible repeat (first | refine blk_drewN ?_ _ | refine blk_drew ?_ | refine blk_alloc ?_ _)); refine blk_put (cs := #[.int .i64 2, .int .i64 0, .int .i64 a0, .int .i64 (wrap64 (a1 - a0)), .int .i64 0, .int .i64 0, .int .i64 0]) ?_ 4 _ rfl; (with_reducible repeat (first | refine blk_drewN ?_ _ | refine blk_drew ?_ | refine blk_alloc ?_ _)); refine blk_put (cs := #[.int .i64 2, .int .i64 0, .int .i64 a0, .int .i64 0, .int .i64 0, .int .i64 0, .int .i64 0]) ?_ 3 _ rfl; (with_reducible repeat (first | refine blk_drewN ?_ _ | refine blk_drew ?_ | refine blk_alloc ?_ _)); refine blk_put (cs := #[.int .i64 2, .int .i64 0, .int .i64 0, .int .i64 0, .int .i64 0, .int .i64 0, .int .i64 0]) ?_ 2 _ rfl; (with_reducible repeat (first | refine blk_drewN ?_ _ | refine blk_drew ?_ | refine blk_alloc ?_ _)); refine blk_put (cs := #[.int .i64 2, .int .i64 0, .int .i64 0, .int .i64 0, .int .i64 0, .int .i64 0, .int .i64 0]) ?_ 1 _ rfl; (with_reducible repeat (first | refine blk_drewN ?_ _ | refine blk_drew ?_ | refine blk_alloc ?_ _)); refine blk_put (cs := #[.int .i64 0, .int .i64 0, .int .i64 0, .int .i64 0, .int .i64 0, .int .i64 0, .int .i64 0]) ?_ 0 _ rfl; (with_reducible repeat (first | refine blk_drewN ?_ _ | refine blk_drew ?_ | refine blk_alloc ?_ _)); exact BK188.out) Try.underlying43 rfl (by kernel_rfl)) rfl ?_
  exact ⟨by first | rfl | (simp [errW_none, errW_some] <;> rfl) | (simp [*, errW_none, errW_some] <;> rfl), by repeat (first | (with_reducible first | exact HB.out | apply below_alloc | apply pw_below_drewN | apply below_drew1 | refine below_set ?_ GE188.out) | exact HB.out)⟩

/-! ### repeats_Source: function 15 -/
def source_1.T3 : Bool × List (List Nat × List Nat) := (true, [([], []), ([0], [0]), ([], []), ([], []), ([2, 3], [2, 3]), ([], []), ([4, 5], [4, 5]), ([1, 6], [1, 6]), ([7, 0, 1, 2, 3, 4, 5, 6, 7], [7])])
def source_1.B3 : List Nat := [0, 1, 0, 0, 12, 0, 60, 127, 255]
theorem source_1.tab3 : rtab .any (opsOf Try.f29 3) = source_1.T3 := by kernel_rfl
theorem source_1.bits3 : waitsOk source_1.T3.2 source_1.B3 = true := by kernel_rfl
/-- What a section says of a performed tick. -/
def stepS (tick : Int) (s : Int × Int) (a b t : Int) : Option (Int × Int) :=
  if (0 ≤ tick ∧ tick ≤ 1000000) ∧ (0 ≤ s.2 ∧ s.2 ≤ 1000000) ∧ (0 ≤ a ∧ a < b ∧ b ≤ 1000000) ∧ 0 ≤ t ∧ t ≤ 16 then some (if s.2 ≤ tick ∧ tick < s.2 + (b - a) * t then a + (tick - s.2) % (b - a) else s.1, s.2 + (b - a) * t) else none
set_option maxHeartbeats 2000000 in
set_option maxRecDepth 100000 in
theorem source_1 (g1 g2 g3 : Nat) (tick : Int) (s s' : Int × Int) (a b t : Int) (W : World) (h1 : One W g1 3 (.int .i64 tick)) (h2 : One W g2 3 (.int .i64 s.2)) (h3 : One W g3 3 (.int .i64 s.1))
    (h12 : g1 ≠ g2) (h13 : g1 ≠ g3) (h23 : g2 ≠ g3) (hs : stepS tick s a b t = some s') :
    Calls Try.prog 29 #[.agg #[.int .i64 a, .int .i64 b], .int .i64 t, .pointer (some ⟨g1, 0, none⟩), .pointer (some ⟨g2, 0, none⟩), .pointer (some ⟨g3, 0, none⟩)] W fun e W' => e = .returned (.tuple #[]) ∧ (One W' g2 3 (.int .i64 s'.2) ∧ One W' g3 3 (.int .i64 s'.1)) ∧ Keeps W W' (fun k => k = g2 ∨ k = g3) := by
  have hu37 := Try.underlying37
  obtain ⟨out, at_⟩ := s
  by_cases hd : (0 ≤ tick ∧ tick ≤ 1000000) ∧ (0 ≤ at_ ∧ at_ ≤ 1000000) ∧ (0 ≤ a ∧ a < b ∧ b ≤ 1000000) ∧ 0 ≤ t ∧ t ≤ 16
  case neg => unfold stepS at hs; rw [if_neg hd] at hs; exact absurd hs (by simp)
  unfold stepS at hs
  rw [if_pos hd] at hs
  have hs2 := Option.some.inj hs
  clear hs
  obtain ⟨⟨d1, d2⟩, ⟨d3, d4⟩, ⟨d5, d6, d7⟩, d8, d9⟩ := hd
  simp only at d3 d4 hs2 h2 h3
  have hm0 : 0 ≤ (b - a) * t := Int.mul_nonneg (by omega) d8
  have hm1 : (b - a) * t ≤ 1000000 * 16 := Int.mul_le_mul (by omega) d9 d8 (by omega)
  obtain ⟨m, hm⟩ : ∃ m : Int, m = (b - a) * t := ⟨_, rfl⟩
  rw [← hm] at hm0 hm1 hs2
  have hmul : wrap64 ((b - a) * t) = m := by rw [← hm]; unfold wrap64; omega
  clear hm
  have H1 := Aside0.mk h1
  have H2 := Aside0.mk h2
  have H3 := Aside0.mk h3
  have hc1 := h1.cell
  have hc2 := h2.cell
  have hf2 := h2.frozen
  have hc3 := h3.cell
  have hf3 := h3.frozen
  have h21 := Ne.symm h12
  have h31 := Ne.symm h13
  have h32 := Ne.symm h23
  have hlt1 := h1.lt
  have hlt2 := h2.lt
  have hlt3 := h3.lt
  clear h1 h2 h3
  by_cases c1 : at_ ≤ tick
  · have c1b : decide (at_ ≤ tick) = true := decide_eq_true c1
    by_cases c2 : tick < at_ + m
    · have c2b : decide (tick < at_ + m) = true := decide_eq_true c2
      have HS : Aside0 (s' = (a + (tick - at_) % (b - a), at_ + m)) := ⟨by rw [← hs2, if_pos ⟨c1, c2⟩]⟩
      clear hs2
      go_enter Try.func29, Try.ntmps29
      go_wp2
      have hsub : wrap64 (tick - at_) = tick - at_ := by unfold wrap64; omega
      have hn0 : ¬ (b - a = 0) := by omega
      have hmod : (tick - at_).tmod (b - a) = (tick - at_) % (b - a) := Int.tmod_eq_emod_of_nonneg (by omega)
      have X1 := Aside0.mk (H1.out.alloc (.cells #[.int .i64 a, .int .i64 b] 37))
      have X2 := Aside0.mk (H2.out.alloc (.cells #[.int .i64 a, .int .i64 b] 37))
      have X3 := Aside0.mk (H3.out.alloc (.cells #[.int .i64 a, .int .i64 b] 37))
      have XB := Aside0.mk (blk_new W (.cells #[.int .i64 a, .int .i64 b] 37))
      refine start_ (n := 9) (S := fun w' => w'.cell? ⟨W.heap.size, 0, none⟩ = some (.int .i64 a) ∧ w'.cell? ⟨g1, 0, none⟩ = some (.int .i64 tick) ∧ w'.cell? ⟨g2, 0, none⟩ = some (.int .i64 at_)) (ds := [8]) #[false, false, false, false, false, false, false, false, false] (by kernel_rfl) rfl rfl ⟨(blk_cell XB.out 0).trans rfl, X1.out.cell, X2.out.cell⟩ (fun hHeld => ?_)
      refine with_tabW source_1.tab3 source_1.bits3 (fun HT_ HW_ => ?_)
      refine pure_ (i := 0) (N := some 25) (v := ?_) (a' := ?_) #[true, false, false, false, false, false, false, false, false] rfl rfl (any_of HT_.out (by kernel_rfl)) (fun _ _ _ h => h) (Or.inl ⟨by rfl, ?_⟩) ?_ ?_
      rotate_left
      · intro w'
        go_simp
        first | done | with_reducible rfl
      rotate_left
      · simp only [Act.put, List.setIfInBounds_toArray, List.set_cons_zero, List.set_cons_succ, i64_w, i32_w]
        rfl
      refine pure_ (i := 5) (N := some 30) (v := ?_) (a' := ?_) #[true, false, false, false, false, true, false, false, false] rfl rfl (any_of HT_.out (by kernel_rfl)) (fun _ _ _ h => h) (Or.inl ⟨by rfl, ?_⟩) ?_ ?_
      rotate_left
      · intro w'
        go_simp
        first | done | with_reducible rfl
      rotate_left
      · simp only [Act.put, List.setIfInBounds_toArray, List.set_cons_zero, List.set_cons_succ, i64_w, i32_w]
        rfl
      refine take_ (i := 1) (N := some 26) (v := ?_) (a' := ?_) #[true, true, false, false, false, true, false, false, false] rfl rfl (take_ofW HT_.out HW_.out (by kernel_rfl)) (fun _ _ _ h => h) (Or.inl ⟨by rfl, ?_⟩) hHeld ?_ ?_
      rotate_left
      · rintro w' ⟨s0, s1, s2⟩
        go_simp
        first | done | with_reducible rfl
      rotate_left
      · simp only [Act.put, List.setIfInBounds_toArray, List.set_cons_zero, List.set_cons_succ, i64_w, i32_w]
        rfl
      refine take_ (i := 2) (N := some 27) (v := ?_) (a' := ?_) #[true, true, true, false, false, true, false, false, false] rfl rfl (take_ofW HT_.out HW_.out (by kernel_rfl)) (fun _ _ _ h => h) (Or.inl ⟨by rfl, ?_⟩) hHeld ?_ ?_
      rotate_left
      · rintro w' ⟨s0, s1, s2⟩
        go_simp
        first | done | with_reducible rfl
      rotate_left
      · simp only [Act.put, List.setIfInBounds_toArray, List.set_cons_zero, List.set_cons_succ, i64_w, i32_w]
        rfl
      refine take_ (i := 3) (N := some 28) (v := ?_) (a' := ?_) #[true, true, true, true, false, true, false, false, false] rfl rfl (take_ofW HT_.out HW_.out (by kernel_rfl)) (fun _ _ _ h => h) (Or.inl ⟨by rfl, ?_⟩) hHeld ?_ ?_
      rotate_left
      · rintro w' ⟨s0, s1, s2⟩
        go_simp
        first | done | with_reducible rfl
      rotate_left
      · simp only [Act.put, List.setIfInBounds_toArray, List.set_cons_zero, List.set_cons_succ, i64_w, i32_w]
        rfl
      refine pure_ (i := 4) (N := some 29) (v := ?_) (a' := ?_) #[true, true, true, true, true, true, false, false, false] rfl rfl (any_of HT_.out (by kernel_rfl)) (fun _ _ _ h => h) (Or.inl ⟨by rfl, ?_⟩) ?_ ?_
      rotate_left
      · intro w'
        go_simp
        first | done | with_reducible rfl
      rotate_left
      · simp only [Act.put, List.setIfInBounds_toArray, List.set_cons_zero, List.set_cons_succ, i64_w, i32_w]
        rfl
      refine pure_ (i := 6) (N := some 31) (v := ?_) (a' := ?_) #[true, true, true, true, true, true, true, false, false] rfl rfl (any_of HT_.out (by kernel_rfl)) (fun _ _ _ h => h) (Or.inl ⟨by rfl, ?_⟩) ?_ ?_
      rotate_left
      · intro w'
        go_simp
        first | done | with_reducible rfl
      rotate_left
      · simp only [Act.put, List.setIfInBounds_toArray, List.set_cons_zero, List.set_cons_succ, i64_w, i32_w]
        rfl
      refine pure_ (i := 7) (N := some 32) (v := ?_) (a' := ?_) #[true, true, true, true, true, true, true, true, false] rfl rfl (any_of HT_.out (by kernel_rfl)) (fun _ _ _ h => h) (Or.inl ⟨by rfl, ?_⟩) ?_ ?_
      rotate_left
      · intro w'
        go_simp
        first | done | with_reducible rfl
      rotate_left
      · simp only [Act.put, List.setIfInBounds_toArray, List.set_cons_zero, List.set_cons_succ, i64_w, i32_w]
        rfl
      refine last_ (i := 8) (N := none) #[true, true, true, true, true, true, true, true, true] rfl rfl (one_of HT_.out (by kernel_rfl)) (by decide) (fun K hK => ?_)
      refine skip_ (w1 := ?_) (by rfl) rfl ?_ ?_
      rotate_left
      · go_simp
        rfl
      refine hK.out _ _ ?_
      clear hK K
      refine done_ (done_of HT_.out (by kernel_rfl)) ?_
      obtain ⟨Wy, hWy⟩ : ∃ Wy : World, Wy = ((W.setCell ⟨g3, 0, none⟩ (.int .i64 (wrap64 (a + (tick - at_) % (b - a))))).alloc (.cells #[.int .i64 a, .int .i64 b] 37)).drew := ⟨_, rfl⟩
      rw [← hWy]
      have e0 := Int.emod_nonneg (tick - at_) (show b - a ≠ 0 by omega)
      have e1 := Int.emod_lt_of_pos (tick - at_) (show 0 < b - a by omega)
      have ew : wrap64 (a + (tick - at_) % (b - a)) = a + (tick - at_) % (b - a) := by unfold wrap64; omega
      have Y2 : Aside0 (One Wy g2 3 (.int .i64 at_)) := ⟨by rw [hWy]; exact ((H2.out.far h23 _ _).alloc _).drew⟩
      have Y3 : Aside0 (One Wy g3 3 (.int .i64 s'.1)) := ⟨by rw [hWy, HS.out, ew]; exact ((H3.out.set _).alloc _).drew⟩
      have YK : Aside0 (Keeps W Wy (fun k => k = g2 ∨ k = g3)) := ⟨by rw [hWy]; exact ((Keeps.setCell (S := fun k => k = g2 ∨ k = g3) (p := ⟨g3, 0, none⟩) (Keeps.refl W _) (.inl (.inr rfl)) _).alloc _).drew⟩
      clear hWy hc1 hc2 hf2 hc3 hf3 X1 X2 X3 XB hsub hn0 hmod e0 e1 ew
      have hy2 := Y2.out.cell
      have hyf := Y2.out.frozen
      go_wp2
      go_end0
      exact ⟨rfl, ⟨by rw [HS.out]; exact Y2.out.set _, Y3.out.far h32 _ _⟩, YK.out.setCell (p := ⟨g2, 0, none⟩) (.inl (.inl rfl)) _⟩
    · have c2b : decide (tick < at_ + m) = false := decide_eq_false c2
      have HS : Aside0 (s' = (out, at_ + m)) := ⟨by rw [← hs2, if_neg (fun h => c2 h.2)]⟩
      clear hs2
      go_enter Try.func29, Try.ntmps29
      go_wp2
      go_end0
      exact ⟨rfl, ⟨by rw [HS.out]; exact (H2.out.set _).alloc _, by rw [HS.out]; exact (H3.out.far h32 _ _).alloc _⟩, (Keeps.setCell (S := fun k => k = g2 ∨ k = g3) (p := ⟨g2, 0, none⟩) (Keeps.refl W _) (.inl (.inl rfl)) _).alloc _⟩
  · have c1b : decide (at_ ≤ tick) = false := decide_eq_false c1
    have HS : Aside0 (s' = (out, at_ + m)) := ⟨by rw [← hs2, if_neg (fun h => c1 h.1)]⟩
    clear hs2
    go_enter Try.func29, Try.ntmps29
    go_wp2
    go_end0
    exact ⟨rfl, ⟨by rw [HS.out]; exact (H2.out.set _).alloc _, by rw [HS.out]; exact (H3.out.far h32 _ _).alloc _⟩, (Keeps.setCell (S := fun k => k = g2 ∨ k = g3) (p := ⟨g2, 0, none⟩) (Keeps.refl W _) (.inl (.inl rfl)) _).alloc _⟩
def repeats_Source.f (l0 : List S43) (a1 : Int) (l2 : List S39) (a3 : Int) : Option (Int × Int) :=
  if rChk l0 a1 l2 = 0 then (if a3 < 0 then some (0, 1) else if a3 ≥ secT stepN a1 l2 0 0 then some (0, 1) else (secF (stepS a3) a1 l2 0 (0, 0)).bind fun s => some (s.1, 0)) else some (0, rChk l0 a1 l2)
set_option maxHeartbeats 4000000 in
set_option maxRecDepth 100000 in
theorem repeats_Source.calls (A0 : Option Addr) (c0 : Nat) (l0 : List S43) (a1 : Int) (A2 : Option Addr) (c2 : Nat) (l2 : List S39) (a3 : Int) (r1 : Int) (r2 : Int) (w : World) (hr0 : Kd.C k43 w A0 l0.length l0) (hc0 : l0.length ≤ c0) (hr2 : Kd.C k39 w A2 l2.length l2) (hc2 : l2.length ≤ c2) (h : repeats_Source.f l0 a1 l2 a3 = some (r1, r2)) :
    Calls Try.prog 15 #[.slice A0 l0.length c0, .int .i64 a1, .slice A2 l2.length c2, .int .i64 a3] w fun e w' => e = .returned (.tuple #[.int .i64 r1, .int .i64 r2]) ∧ Below w.heap.size w w' := by
  have hu39 := Try.underlying39
  have hu37 := Try.underlying37
  have HR0 := Aside0.mk hr0
  have HC0 := Aside0.mk hc0
  have HR2 := Aside0.mk hr2
  have HC2 := Aside0.mk hc2
  clear hr0 hc0 hr2 hc2
  have L3 : Aside0 (One (w.alloc (.cells #[.int .i64 a3] 3)) w.heap.size 3 (.int .i64 a3)) := ⟨One.new _ _ _⟩
  have HB := Aside0.mk (below_alloc (Below.refl w.heap.size w) (.cells #[.int .i64 a3] 3))
  unfold repeats_Source.f at h
  by_cases c0 : rChk l0 a1 l2 = 0
  case neg =>
    rw [if_neg c0] at h
    simp only [Option.some.injEq, Prod.mk.injEq] at h
    obtain ⟨rfl, rfl⟩ := h
    have c0a : (rChk l0 a1 l2 == 0) = false := by simpa using c0
    have c0b : (rChk l0 a1 l2 != 0) = true := by simpa using c0
    clear c0
    go_enter Try.func15, Try.ntmps15
    go_wp2_with (go_at_call 14; refine (repeats_Check.calls _ _ _ _ _ _ _ _ _ (Kd.C_below HR0.out HB.out) HC0.out (Kd.C_below HR2.out HB.out) HC2.out rfl).mono ?_; rintro e w1 ⟨rfl, hb⟩; have HB2 := Aside0.mk (below_step HB.out hb); clear hb)
    go_ret2
    exact ⟨rfl, HB2.out⟩
  rw [if_pos c0] at h
  obtain ⟨hk1, hk2⟩ := rChk_len c0
  have HL2 := Aside0.mk hk2
  have HS0 : Aside0 (repeats_Check.f l0 a1 l2 = some 0) := ⟨by unfold repeats_Check.f; rw [c0]⟩
  have HPF : Aside0 (repeats_performed.f a1 l2 = some (secT stepN a1 l2 0 0)) := ⟨by unfold repeats_performed.f; rw [if_pos (by omega)]⟩
  clear c0 hk1 hk2
  by_cases c1 : a3 < 0
  · rw [if_pos c1] at h
    simp only [Option.some.injEq, Prod.mk.injEq] at h
    obtain ⟨rfl, rfl⟩ := h
    have c1b : decide (a3 < 0) = true := decide_eq_true c1
    clear c1
    go_enter Try.func15, Try.ntmps15
    go_wp2_with (go_at_call 14; refine (repeats_Check.calls _ _ _ _ _ _ _ _ _ (Kd.C_below HR0.out HB.out) HC0.out (Kd.C_below HR2.out HB.out) HC2.out HS0.out).mono ?_; rintro e w1 ⟨rfl, hb⟩; have HB2 := Aside0.mk (below_step HB.out hb); have M3 := Aside0.mk (L3.out.below hb); have hm := M3.out.cell; clear hb)
    go_quiet (fail)
    go_wp2
    go_ret2
    exact ⟨rfl, pw_below_drewN HB2.out _⟩
  rw [if_neg c1] at h
  have c1b : decide (a3 < 0) = false := decide_eq_false c1
  by_cases c2' : a3 ≥ secT stepN a1 l2 0 0
  · rw [if_pos c2'] at h
    simp only [Option.some.injEq, Prod.mk.injEq] at h
    obtain ⟨rfl, rfl⟩ := h
    have c2b : decide (secT stepN a1 l2 0 0 ≤ a3) = true := decide_eq_true c2'
    clear c1 c2'
    go_enter Try.func15, Try.ntmps15
    go_wp2_with (go_at_call 14; refine (repeats_Check.calls _ _ _ _ _ _ _ _ _ (Kd.C_below HR0.out HB.out) HC0.out (Kd.C_below HR2.out HB.out) HC2.out HS0.out).mono ?_; rintro e w1 ⟨rfl, hb⟩; have HB2 := Aside0.mk (below_step HB.out hb); have M3 := Aside0.mk (L3.out.below hb); have hm := M3.out.cell; clear hb)
    go_region_with (go_at_call 25; refine (repeats_performed.calls _ _ _ _ _ _ (Kd.C_below HR2.out (below_drew HB2.out)) HC2.out HPF.out).mono ?_; rintro e w2 ⟨rfl, hb⟩; have HB3 := Aside0.mk (below_step (below_drew HB2.out) hb); have N3 := Aside0.mk (One.below (W := w1.drew) M3.out hb); have hn := N3.out.cell; clear hb)
    all_goals
      go_wp2
      go_ret2
      exact ⟨rfl, HB3.out⟩
  rw [if_neg c2'] at h
  have c2b : decide (secT stepN a1 l2 0 0 ≤ a3) = false := decide_eq_false c2'
  obtain ⟨⟨so, sa⟩, hs, h⟩ := Option.bind_eq_some_iff.1 h
  simp only [Option.some.injEq, Prod.mk.injEq] at h
  obtain ⟨rfl, rfl⟩ := h
  have HE := Aside0.mk hs
  clear c1 c2' hs
  go_enter Try.func15, Try.ntmps15
  go_wp2_with (go_at_call 14; refine (repeats_Check.calls _ _ _ _ _ _ _ _ _ (Kd.C_below HR0.out HB.out) HC0.out (Kd.C_below HR2.out HB.out) HC2.out HS0.out).mono ?_; rintro e w1 ⟨rfl, hb⟩; have HB2 := Aside0.mk (below_step HB.out hb); have M3 := Aside0.mk (L3.out.below hb); have hm := M3.out.cell; have HSZ : Aside0 (w.heap.size < w1.heap.size) := ⟨by have := hb.size; simp at this; omega⟩; clear hb)
  go_region_with (go_at_call 25; refine (repeats_performed.calls _ _ _ _ _ _ (Kd.C_below HR2.out (below_drew HB2.out)) HC2.out HPF.out).mono ?_; rintro e w2 ⟨rfl, hb⟩; have HB3 := Aside0.mk (below_step (below_drew HB2.out) hb); have N3 := Aside0.mk (One.below (W := w1.drew) M3.out hb); have hn := N3.out.cell; have HSZ2 : Aside0 (w.heap.size < w2.heap.size) := ⟨Nat.lt_of_lt_of_le HSZ.out hb.size⟩; clear hb)
  all_goals
    have HB4 := Aside0.mk (below_alloc (below_alloc HB3.out (.cells #[.int .i64 0] 3)) (.cells #[.int .i64 0] 3))
    have X1 : Aside0 (One ((w2.alloc (.cells #[.int .i64 0] 3)).alloc (.cells #[.int .i64 0] 3)) w2.heap.size 3 (.int .i64 0)) := ⟨(One.new _ _ _).alloc _⟩
    have X2 : Aside0 (One ((w2.alloc (.cells #[.int .i64 0] 3)).alloc (.cells #[.int .i64 0] 3)) (w2.heap.size + 1) 3 (.int .i64 0)) := ⟨by have h := One.new (w2.alloc (.cells #[.int .i64 0] 3)) 3 (.int .i64 0); rw [World.size_alloc] at h; exact h⟩
    have X3 := Aside0.mk ((N3.out.alloc (.cells #[.int .i64 0] 3)).alloc (.cells #[.int .i64 0] 3))
    go_wp2_with fail
    refine (repeats_sections.calls (σ := Int × Int) 29 #[.pointer (some ⟨w.heap.size, 0, none⟩), .pointer (some ⟨w2.heap.size + 1, 0, none⟩), .pointer (some ⟨w2.heap.size, 0, none⟩)] (fun s W => (One W (w2.heap.size + 1) 3 (.int .i64 s.2) ∧ One W w2.heap.size 3 (.int .i64 s.1)) ∧ One W w.heap.size 3 (.int .i64 a3)) (fun k => k = w2.heap.size + 1 ∨ k = w2.heap.size) (stepS a3) A2 c2 l2 a1 ((w2.alloc (.cells #[.int .i64 0] 3)).alloc (.cells #[.int .i64 0] 3)) (0, 0) (so, sa) (enters_hyp Try.func29 (by kernel_rfl) rfl) ?_ ?_ ?_ HC2.out (by have := HL2.out; omega) ⟨⟨X2.out, X1.out⟩, X3.out⟩ HE.out).mono ?_
    · rintro s s' a b t W hk ⟨⟨h1, h2⟩, h3⟩ hs
      refine (source_1 w.heap.size (w2.heap.size + 1) w2.heap.size a3 s s' a b t W h3 h1 h2 (by have := HSZ2.out; omega) (by have := HSZ2.out; omega) (by omega) hs).mono ?_
      rintro e W' ⟨rfl, ⟨h4, h5⟩, h6⟩
      exact ⟨rfl, ⟨⟨h4, h5⟩, h3.keeps h6 (fun h => by have := HSZ2.out; omega)⟩, hk.then_ h6 (fun _ h => .inl h), KeepT.keeps h6 (fun k cs hk' he => he.elim (fun e => absurd e.symm (h1.not hk' (by decide))) (fun e => absurd e.symm (h2.not hk' (by decide))))⟩
    · rintro s W W' ⟨⟨h1, h2⟩, h3⟩ hb
      exact ⟨⟨h1.below hb, h2.below hb⟩, h3.below hb⟩
    · intro W hk
      exact C_keeps heap39 HR2.out HB4.out (fun k hk => by have := HSZ2.out; omega) hk
    rintro e w3 ⟨rfl, ⟨⟨h1, h2⟩, h3⟩, hK⟩
    have hc2 := h2.cell
    have HB5 := Aside0.mk (Below.trans HB4.out (hK.toBelow (fun k h => by have := HSZ2.out; omega) (by have := HSZ2.out; simp; omega)))
    clear h1 h2 h3 hK
    go_wp2_with fail
    go_ret2
    exact ⟨rfl, HB5.out⟩

end Go.Proofs.Ytkipahflihobeaa.X
