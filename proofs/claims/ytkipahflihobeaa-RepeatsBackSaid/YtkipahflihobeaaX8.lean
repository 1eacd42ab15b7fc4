/- Contracts of functions over this seat, written by a program of this claim (xprint.py). -/
import Derived.Test.YtkipahflihobeaaX0
import Derived.Test.YtkipahflihobeaaX4
import Derived.Test.YtkipahflihobeaaX6
import Derived.Test.YtkipahflihobeaaX7
namespace Go.Proofs.Ytkipahflihobeaa.X
open Go.RowKit Go.Proofs.YtkipahflihobeaaW.PrintWords Go.Proofs.YtkipahflihobeaaW.PrintLast Go.Proofs.YtkipahflihobeaaW.PrintMore
attribute [local go_sem] max2_int min2_int max_two min_two max_three min_three max_four min_four   -- for this text's walks alone
set_option linter.unusedVariables false
set_option linter.unusedSimpArgs false

/-! ### repeats_sections: function 23 -/
/-- repeats.sections, over whatever state a function value keeps. -/
def secF {σ : Type} (step : σ → Int → Int → Int → Option σ) (len : Int) : List S39 → Int → σ → Option σ
  | [], at_, s => if at_ < len then step s at_ len 1 else some s
  | x :: r, at_, s => (if at_ < x.f0.f0 then step s at_ x.f0.f0 1 else some s).bind fun s1 => (step s1 x.f0.f0 x.f0.f1 x.f1).bind fun s2 => secF step len r x.f0.f1 s2
theorem rdR (l : List S39) (i : Int) (h0 : 0 ≤ i) (h1 : i < l.length) : rd_T39 l i = l[i.toNat]'(by omega) := by
  have hl : i.toNat < l.length := by omega
  simp [rd_T39, List.getD_eq_getElem?_getD, List.getElem?_eq_getElem hl]
theorem secF_step {σ : Type} (step : σ → Int → Int → Int → Option σ) (len : Int) (l : List S39) (i : Int) (h0 : 0 ≤ i) (h1 : i < l.length) (at_ : Int) (s : σ) :
    secF step len (l.drop i.toNat) at_ s = (if at_ < (rd_T39 l i).f0.f0 then step s at_ (rd_T39 l i).f0.f0 1 else some s).bind fun s1 => (step s1 (rd_T39 l i).f0.f0 (rd_T39 l i).f0.f1 (rd_T39 l i).f1).bind fun s2 => secF step len (l.drop (i + 1).toNat) (rd_T39 l i).f0.f1 s2 := by
  have e : (i + 1).toNat = i.toNat + 1 := by omega
  rw [e, rdR l i h0 h1, List.drop_eq_getElem_cons (by omega)]; rfl
set_option maxHeartbeats 4000000 in
set_option maxRecDepth 100000 in
theorem repeats_sections.calls {σ : Type} (g : Nat) (caps : Array Value) (Inv : σ → World → Prop) (S : Nat → Prop) (step : σ → Int → Int → Int → Option σ) (A1 : Option Addr) (c1 : Nat) (l1 : List S39) (len : Int) (w : World) (s0 s1 : σ)
    (henter : ∀ (args : Array Value) (w : World), (callFunc g args).run Try.prog w = .ok (.enter g args) w)
    (hcall : ∀ s s' a b t W, Keeps w W S → Inv s W → step s a b t = some s' → Calls Try.prog g (#[.agg #[.int .i64 a, .int .i64 b], .int .i64 t] ++ caps) W fun e W' => e = .returned (.tuple #[]) ∧ Inv s' W' ∧ Keeps w W' S ∧ KeepT W W' 39)
    (hst : ∀ s W W', Inv s W → Below W.heap.size W W' → Inv s W')
    (hr : ∀ W, Keeps w W S → Kd.C k39 W A1 l1.length l1) (hc1 : l1.length ≤ c1) (hm : l1.length ≤ 140737488355328)
    (h0 : Inv s0 w) (h : secF step len l1 0 s0 = some s1) :
    Calls Try.prog 23 #[.int .i64 len, .slice A1 l1.length c1, .func (.func g) #[] caps] w fun e W' => e = .returned (.tuple #[]) ∧ Inv s1 W' ∧ Keeps w W' S := by
  have hu39 := Try.underlying39
  have hu37 := Try.underlying37
  have HCALL := Aside0.mk hcall
  have HST := Aside0.mk hst
  have HR := Aside0.mk hr
  have HC1 := Aside0.mk hc1
  have HI0 := Aside0.mk h0
  have HK0 := Aside0.mk (Keeps.refl w S)
  have HE0 := Aside0.mk h
  clear hcall hst hr hc1 h0 h
  go_enter Try.func23, Try.ntmps23
  go_wp2
  go_loopw [6, 11] (fun v6 v11 w' => ∃ (at_ i : Int) (s : σ), 0 ≤ i ∧ i ≤ (l1.length : Int) ∧ v6 = .int .i64 at_ ∧ v11 = .int .i64 i ∧ Aside0 (secF step len (l1.drop i.toNat) at_ s = some s1) ∧ Aside0 (Inv s w') ∧ Aside0 (Keeps w w' S)) (fun _ v11 _ => l1.length - (intOf v11).toNat)
  case atStart => exact ⟨0, 0, s0, by omega, by omega, rfl, rfl, HE0, HI0, HK0⟩
  case round =>
    clear HK0 HI0 HE0
    obtain ⟨at_, i, s, hi0, hi1, rfl, rfl, HE, HI, HK⟩ := hrel
    by_cases c3 : i < (l1.length : Int)
    · have c3b0 : decide (i < (l1.length : Int)) = true := decide_eq_true c3
      have HS := Aside0.mk ((secF_step step len l1 i hi0 c3 at_ s).symm.trans HE.out)
      clear HE
      obtain ⟨ad, e0, hx0, hx1, hx2⟩ := at_T39 (HR.out wr HK.out) i hi0 c3
      cases e0
      obtain ⟨sa, ha, HS⟩ := Option.bind_eq_some_iff.1 HS.out
      obtain ⟨sb, hb, HS⟩ := Option.bind_eq_some_iff.1 HS
      have HA := Aside0.mk ha
      have HB := Aside0.mk hb
      have HS2 := Aside0.mk HS
      clear ha hb HS
      by_cases c4 : at_ < (rd_T39 l1 i).f0.f0
      · have c4b : decide (at_ < (rd_T39 l1 i).f0.f0) = true := decide_eq_true c4
        have HA2 : Aside0 (step s at_ (rd_T39 l1 i).f0.f0 1 = some sa) := ⟨by have := HA.out; rw [if_pos c4] at this; exact this⟩
        clear HA c4
        go_wp2_with fail
        refine (HCALL.out s sa _ _ _ _ (HK.out.alloc _) (HST.out _ _ _ HI.out (below_alloc (Below.refl _ _) _)) HA2.out).mono ?_
        rintro e w1 ⟨rfl, hI1, hK1, hX1⟩
        have HI1 := Aside0.mk hI1
        have HK1 := Aside0.mk hK1
        have BK := Aside0.mk (hX1 _ _ (blk_new wr _))
        clear hI1 hK1 hX1
        have hcx0 : w1.cell? ⟨wr.heap.size, 0, none⟩ = some (.int .i64 (rd_T39 l1 i).f0.f0) := (blk_cell BK.out 0).trans rfl
        have hcx1 : w1.cell? ⟨wr.heap.size, 1, none⟩ = some (.int .i64 (rd_T39 l1 i).f0.f1) := (blk_cell BK.out 1).trans rfl
        have hcx2 : w1.cell? ⟨wr.heap.size, 2, none⟩ = some (.int .i64 (rd_T39 l1 i).f1) := (blk_cell BK.out 2).trans rfl
        go_wp2_with fail
        refine (HCALL.out sa sb _ _ _ _ HK1.out HI1.out HB.out).mono ?_
        rintro e w2 ⟨rfl, hI2, hK2, hX2⟩
        have HI2 := Aside0.mk hI2
        have HK2 := Aside0.mk hK2
        have BK2 := Aside0.mk (hX2 _ _ BK.out)
        clear hI2 hK2 hX2
        have hcy0 : w2.cell? ⟨wr.heap.size, 0, none⟩ = some (.int .i64 (rd_T39 l1 i).f0.f0) := (blk_cell BK2.out 0).trans rfl
        have hcy1 : w2.cell? ⟨wr.heap.size, 1, none⟩ = some (.int .i64 (rd_T39 l1 i).f0.f1) := (blk_cell BK2.out 1).trans rfl
        go_wp2_with fail
        go_roundw
        case rel => exact ⟨(rd_T39 l1 i).f0.f1, i + 1, sb, by omega, by omega, rfl, rfl, HS2, HI2, HK2⟩
        case measure => simp [intOf]; omega
      · have c4b : decide (at_ < (rd_T39 l1 i).f0.f0) = false := decide_eq_false c4
        have HA2 : Aside0 (sa = s) := ⟨by have := HA.out; rw [if_neg c4] at this; exact (Option.some.inj this).symm⟩
        have HB2 : Aside0 (step s (rd_T39 l1 i).f0.f0 (rd_T39 l1 i).f0.f1 (rd_T39 l1 i).f1 = some sb) := ⟨by have := HB.out; rw [HA2.out] at this; exact this⟩
        clear HA c4
        go_wp2_with fail
        refine (HCALL.out s sb _ _ _ _ (HK.out.alloc _) (HST.out _ _ _ HI.out (below_alloc (Below.refl _ _) _)) HB2.out).mono ?_
        rintro e w2 ⟨rfl, hI2, hK2, hX2⟩
        have HI2 := Aside0.mk hI2
        have HK2 := Aside0.mk hK2
        have BK2 := Aside0.mk (hX2 _ _ (blk_new wr _))
        clear hI2 hK2 hX2
        have hcy0 : w2.cell? ⟨wr.heap.size, 0, none⟩ = some (.int .i64 (rd_T39 l1 i).f0.f0) := (blk_cell BK2.out 0).trans rfl
        have hcy1 : w2.cell? ⟨wr.heap.size, 1, none⟩ = some (.int .i64 (rd_T39 l1 i).f0.f1) := (blk_cell BK2.out 1).trans rfl
        go_wp2_with fail
        go_roundw
        case rel => exact ⟨(rd_T39 l1 i).f0.f1, i + 1, sb, by omega, by omega, rfl, rfl, HS2, HI2, HK2⟩
        case measure => simp [intOf]; omega
    · have c3b0 : decide (i < (l1.length : Int)) = false := decide_eq_false c3
      have HS : Aside0 ((if at_ < len then step s at_ len 1 else some s) = some s1) := ⟨by have := HE.out; rw [List.drop_of_length_le (by omega)] at this; exact this⟩
      clear HE c3
      by_cases c4 : at_ < len
      · have c4b : decide (at_ < len) = true := decide_eq_true c4
        have HA2 : Aside0 (step s at_ len 1 = some s1) := ⟨by have := HS.out; rw [if_pos c4] at this; exact this⟩
        clear HS c4
        go_wp2_with fail
        refine (HCALL.out s s1 _ _ _ _ HK.out HI.out HA2.out).mono ?_
        rintro e w2 ⟨rfl, hI2, hK2, hX2⟩
        have HI2 := Aside0.mk hI2
        have HK2 := Aside0.mk hK2
        clear hI2 hK2 hX2
        go_wp2_with fail
        go_end0
        exact ⟨rfl, HI2.out, HK2.out⟩
      · have c4b : decide (at_ < len) = false := decide_eq_false c4
        have HA2 : Aside0 (s1 = s) := ⟨by have := HS.out; rw [if_neg c4] at this; exact (Option.some.inj this).symm⟩
        clear HS c4
        go_wp2_with fail
        go_end0
        exact ⟨rfl, by rw [HA2.out]; exact HI.out, HK.out⟩
/-- The symbols that begin in a span; whether a staff can be cut at a tick. -/
def inS (a b : Int) (x : S43) : Bool := decide (a ≤ x.f2) && decide (x.f2 < b)
def cutB (l : List S43) (t : Int) : Bool := !(l.any fun x => decide (x.f2 < t) && decide (t < wrap64 (x.f2 + x.f3)))
theorem rdSn (l : List S43) (i : Nat) (h : i < l.length) : rd_T43 l (i : Int) = l[i] := by
  simp [rd_T43, List.getD_eq_getElem?_getD, List.getElem?_eq_getElem h]
theorem eta43 (x : S43) : (⟨x.f0, x.f1, x.f2, x.f3, x.f4, x.f5, x.f6⟩ : S43) = x := rfl
theorem wrap_nat (i n : Nat) (h : i < n) (hn : n ≤ 9223372036854775807) : wrap64 ((i : Int) + 1) = ((i + 1 : Nat) : Int) := by unfold wrap64; omega
theorem within_l0 (l : List S43) (a b : Int) (hl : l.length ≤ 1000000) : ∀ (d i : Nat) (acc : List S43), i + d = l.length → acc.length ≤ i →
    repeats_within.l0 (d + 1) acc l (l.length : Int) (i : Int) a b = some (acc ++ (l.drop i).filter (inS a b)) := by
  intro d
  induction d with
  | zero =>
    intro i acc hi ha
    simp only [repeats_within.l0]
    rw [if_neg (by omega), List.drop_of_length_le (by omega)]; simp
  | succ d ih =>
    intro i acc hi ha
    have hlt : i < l.length := by omega
    unfold repeats_within.l0
    rw [if_pos (by omega), if_pos (by omega), if_pos (by omega), rdSn l i hlt, List.drop_eq_getElem_cons hlt, List.filter_cons, wrap_nat i l.length hlt (by omega)]
    by_cases h1 : l[i].f2 ≥ a
    · rw [if_pos h1]
      by_cases h2 : l[i].f2 < b
      · have hin : inS a b l[i] = true := by simp [inS]; omega
        rw [if_pos h2, if_pos (by omega), if_pos hin, eta43, ih (i + 1) _ (by omega) (by simp; omega)]
        simp
      · have hin : ¬ inS a b l[i] = true := by simp [inS]; omega
        rw [if_neg h2, if_neg hin, ih (i + 1) _ (by omega) (by omega)]
    · have hin : ¬ inS a b l[i] = true := by simp [inS]; omega
      rw [if_neg h1, if_neg hin, ih (i + 1) _ (by omega) (by omega)]
theorem within_eq (l : List S43) (a b : Int) (hl : l.length ≤ 1000000) : repeats_within.f (l.length + 1) l a b = some (l.filter (inS a b)) := by
  have := within_l0 l a b hl l.length 0 [] (by omega) (by simp)
  simpa [repeats_within.f] using this
theorem cut_l0 (l : List S43) (t : Int) (hl : l.length ≤ 1000000) : ∀ (d i : Nat), i + d = l.length →
    repeats_cuttable.l0 (d + 1) t l (l.length : Int) (i : Int) = some (cutB (l.drop i) t) := by
  intro d
  induction d with
  | zero =>
    intro i hi
    simp only [repeats_cuttable.l0]
    rw [if_neg (by omega), List.drop_of_length_le (by omega)]; rfl
  | succ d ih =>
    intro i hi
    have hlt : i < l.length := by omega
    unfold repeats_cuttable.l0
    rw [if_pos (by omega), if_pos (by omega), if_pos (by omega), rdSn l i hlt, List.drop_eq_getElem_cons hlt, wrap_nat i l.length hlt (by omega), ih (i + 1) (by omega)]
    unfold cutB
    rw [List.any_cons]
    by_cases h1 : l[i].f2 < t
    · by_cases h2 : t < wrap64 (l[i].f2 + l[i].f3) <;> simp [h1, h2]
    · simp [h1]
theorem cut_eq (l : List S43) (t : Int) (hl : l.length ≤ 1000000) : repeats_cuttable.f (l.length + 1) l t = some (cutB l t) := by
  have := cut_l0 l t hl l.length 0 (by omega)
  simpa [repeats_cuttable.f] using this
/-- The sections of a staff, folded. -/
def secT {σ : Type} (step : σ → Int → Int → Int → σ) (len : Int) : List S39 → Int → σ → σ
  | [], at_, s => if at_ < len then step s at_ len 1 else s
  | x :: r, at_, s => secT step len r x.f0.f1 (step (if at_ < x.f0.f0 then step s at_ x.f0.f0 1 else s) x.f0.f0 x.f0.f1 x.f1)
theorem secF_total {σ : Type} (step : σ → Int → Int → Int → σ) (len : Int) (l : List S39) : ∀ (at_ : Int) (s : σ), secF (fun s a b t => some (step s a b t)) len l at_ s = some (secT step len l at_ s) := by
  induction l with
  | nil => intro at_ s; unfold secF secT; split <;> rfl
  | cons x r ih =>
    intro at_ s
    unfold secF secT
    by_cases h : at_ < x.f0.f0
    · rw [if_pos h, if_pos h]; simp only [Option.bind_some]; exact ih _ _
    · rw [if_neg h, if_neg h]; simp only [Option.bind_some]; exact ih _ _
/-- What a section adds to the performed length. -/
def stepN (n a b t : Int) : Int := wrap64 (n + wrap64 (wrap64 (b - a) * t))
set_option maxHeartbeats 1000000 in
set_option maxRecDepth 100000 in
theorem performed_1 (g : Nat) (n a b t : Int) (W : World) (hg : One W g 3 (.int .i64 n)) :
    Calls Try.prog 35 #[.agg #[.int .i64 a, .int .i64 b], .int .i64 t, .pointer (some ⟨g, 0, none⟩)] W fun e W' => e = .returned (.tuple #[]) ∧ One W' g 3 (.int .i64 (stepN n a b t)) ∧ Keeps W W' (fun k => k = g) := by
  have hu37 := Try.underlying37
  have HG := Aside0.mk hg
  have hc := hg.cell
  have hf := hg.frozen
  have hlt := hg.lt
  clear hg
  go_enter Try.func35, Try.ntmps35
  go_wp2
  go_end0
  exact ⟨rfl, (HG.out.set _).alloc _, (Keeps.setCell (S := fun k => k = g) (p := ⟨g, 0, none⟩) (Keeps.refl W _) (.inl rfl) _).alloc _⟩
/-- What a section adds to the performed length, and to the number of performed symbols. -/
def stepC (l : List S43) (s : Int × Int) (a b t : Int) : Int × Int := (stepN s.1 a b t, wrap64 (s.2 + wrap64 (((l.filter (inS a b)).length : Int) * t)))
set_option maxHeartbeats 2000000 in
set_option maxRecDepth 100000 in
theorem check_1 (g1 g2 g3 : Nat) (A0 : Option Addr) (c0 : Nat) (l0 : List S43) (s : Int × Int) (a b t : Int) (W : World) (h1 : One W g1 3 (.int .i64 s.1)) (h2 : One W g2 3 (.int .i64 s.2)) (h3 : One W g3 22 (.slice A0 l0.length c0))
    (h12 : g1 ≠ g2) (hr : ∀ W', Keeps W W' (fun k => k = g1 ∨ k = g2) → Kd.C k43 W' A0 l0.length l0) (hc0 : l0.length ≤ c0) (hl : l0.length ≤ 1000000) :
    Calls Try.prog 28 #[.agg #[.int .i64 a, .int .i64 b], .int .i64 t, .pointer (some ⟨g1, 0, none⟩), .pointer (some ⟨g2, 0, none⟩), .pointer (some ⟨g3, 0, none⟩)] W fun e W' => e = .returned (.tuple #[]) ∧ (One W' g1 3 (.int .i64 (stepC l0 s a b t).1) ∧ One W' g2 3 (.int .i64 (stepC l0 s a b t).2)) ∧ Keeps W W' (fun k => k = g1 ∨ k = g2) := by
  have hu37 := Try.underlying37
  have h13 : g1 ≠ g3 := h1.not h3 (by decide)
  have h23 : g2 ≠ g3 := h2.not h3 (by decide)
  have H1 := Aside0.mk h1
  have H2 := Aside0.mk h2
  have H3 := Aside0.mk h3
  have HR := Aside0.mk hr
  have HC0 := Aside0.mk hc0
  have HW := Aside0.mk (within_eq l0 a b hl)
  have HE2 : Aside0 ((stepC l0 s a b t).2 = IntKind.i64.wrap (s.2 + IntKind.i64.wrap (((l0.filter (inS a b)).length : Int) * t))) := ⟨by unfold stepC; simp only [i64_w]⟩
  have hc1 := h1.cell
  have hf1 := h1.frozen
  have hc2 := h2.cell
  have hf2 := h2.frozen
  have hc3 := h3.cell
  have hlt1 := h1.lt
  have hlt2 := h2.lt
  have hlt3 := h3.lt
  have h21 := Ne.symm h12
  have h31 := Ne.symm h13
  have h32 := Ne.symm h23
  clear h1 h2 h3 hr hc0
  go_enter Try.func28, Try.ntmps28
  go_wp2
  obtain ⟨Wx, hWx⟩ : ∃ Wx : World, Wx = (W.setCell ⟨g1, 0, none⟩ (.int .i64 (wrap64 (s.1 + wrap64 (wrap64 (b - a) * t))))).alloc (.cells #[.int .i64 a, .int .i64 b] 37) := ⟨_, rfl⟩
  rw [← hWx]
  have X1 : Aside0 (One Wx g1 3 (.int .i64 (stepC l0 s a b t).1)) := ⟨by rw [hWx]; exact (H1.out.set _).alloc _⟩
  have X2 : Aside0 (One Wx g2 3 (.int .i64 s.2)) := ⟨by rw [hWx]; exact (H2.out.far h21 _ _).alloc _⟩
  have X3 : Aside0 (One Wx g3 22 (.slice A0 l0.length c0)) := ⟨by rw [hWx]; exact (H3.out.far h31 _ _).alloc _⟩
  have X4 : Aside0 (Wx.heap[W.heap.size]? = some (.cells #[.int .i64 a, .int .i64 b] 37 (0, 0))) := ⟨by
    rw [hWx]
    have e : (W.setCell ⟨g1, 0, none⟩ (.int .i64 (wrap64 (s.1 + wrap64 (wrap64 (b - a) * t))))).heap.size = W.heap.size := by simp [World.setCell]
    rw [← e]; exact blk_new _ _⟩
  have XK : Aside0 (Keeps W Wx (fun k => k = g1 ∨ k = g2)) := ⟨by rw [hWx]; exact (Keeps.setCell (S := fun k => k = g1 ∨ k = g2) (p := ⟨g1, 0, none⟩) (Keeps.refl W _) (.inl (.inl rfl)) _).alloc _⟩
  clear hWx hc1 hf1 hc2 hf2 hc3 H1 H2 H3
  have hc2 := X2.out.cell
  have hf2 := X2.out.frozen
  have hc3 := X3.out.cell
  have hb0 : Wx.cell? ⟨W.heap.size, 0, none⟩ = some (.int .i64 a) := (blk_cell X4.out 0).trans rfl
  have hb1 : Wx.cell? ⟨W.heap.size, 1, none⟩ = some (.int .i64 b) := (blk_cell X4.out 1).trans rfl
  go_region_with (go_at_call 19; refine (repeats_within.calls _ _ _ _ _ _ _ _ (HR.out _ XK.out.drew) HC0.out HW.out).mono ?_; rintro e w1 ⟨v0, rfl, hR, hb⟩; obtain ⟨A1, c1, hv⟩ := Kd.R_slice hR; have HV := Aside0.mk hv; have HB := Aside0.mk hb; rw [hv]; have Y2 := Aside0.mk (One.below (W := Wx.drew) X2.out hb); have hy2 := Y2.out.cell; have hy3 := Y2.out.frozen; clear hb hR hv)
  all_goals
    go_end0
    exact ⟨rfl, ⟨(One.below (W := Wx.drew) X1.out HB.out).far h12 _ _, by rw [HE2.out]; exact Y2.out.set _⟩, (XK.out.drew.below HB.out).setCell (p := ⟨g2, 0, none⟩) (.inl (.inr rfl)) _⟩
theorem heap39 : Kd.Heap k39 := Kd.heap_iso _ (Kd.heap_pair (Kd.heap_iso _ (Kd.heap_pair (Kd.heap_int _) (Kd.heap_int _))) (Kd.heap_int _))
theorem heap43 : Kd.Heap k43 := Kd.heap_iso _ (Kd.heap_pair (Kd.heap_int _) (Kd.heap_pair (Kd.heap_int _) (Kd.heap_pair (Kd.heap_int _) (Kd.heap_pair (Kd.heap_int _) (Kd.heap_pair (Kd.heap_int _) (Kd.heap_pair (Kd.heap_int _) (Kd.heap_int _)))))))
theorem C_keeps {α : Type} {d : Kd α} (hd : Kd.Heap d) {w0 W W' : World} {A : Option Addr} {n : Nat} {xs : List α} {S : Nat → Prop} (h : d.C w0 A n xs) (hb : Below w0.heap.size w0 W) (hS : ∀ k, S k → w0.heap.size ≤ k) (hk : Keeps W W' S) : d.C W' A n xs :=
  Kd.C_kept_came hd h hb hS W' hk.kept

/-! ### repeats_Check: function 14 -/
def rBad (n : Int) (x : S39) : Bool := decide (x.f0.f0 < 0) || (decide (x.f0.f1 ≤ x.f0.f0) || (decide (n < x.f0.f1) || (decide (x.f1 < 2) || decide (16 < x.f1))))
def rOrd : List S39 → Bool
  | x :: y :: r => decide (x.f0.f1 ≤ y.f0.f0) && rOrd (y :: r)
  | _ => true
def rCut (l : List S43) (x : S39) : Bool := cutB l x.f0.f0 && cutB l x.f0.f1
/-- repeats.Check. -/
def rChk (l : List S43) (n : Int) (r : List S39) : Int :=
  if sChk l n = 0 then
    (if (r.length : Int) > 16 then 3 else if r.any (rBad n) = true then 1 else if rOrd r = false then 5 else if r.all (rCut l) = false then 17 else
      if (secT (stepC l) n r 0 (0, 0)).1 > 8192 then 1 else if (secT (stepC l) n r 0 (0, 0)).2 > 256 then 3 else 0)
  else sChk l n
def repeats_Check.f (l0 : List S43) (a1 : Int) (l2 : List S39) : Option Int := some (rChk l0 a1 l2)
theorem sChk_len {l : List S43} {n : Int} (h : sChk l n = 0) : l.length ≤ 256 ∧ 1 ≤ n ∧ n ≤ 8192 := by
  unfold sChk at h
  by_cases c1 : n < 1
  · rw [if_pos c1] at h; omega
  rw [if_neg c1] at h
  by_cases c2 : n > 8192
  · rw [if_pos c2] at h; omega
  rw [if_neg c2] at h
  by_cases c3 : (l.length : Int) > 256
  · rw [if_pos c3] at h; omega
  omega
theorem any_step (p : S39 → Bool) (l : List S39) (i : Int) (h0 : 0 ≤ i) (h1 : i < l.length) : (l.drop i.toNat).any p = (p (rd_T39 l i) || (l.drop (i + 1).toNat).any p) := by
  have e : (i + 1).toNat = i.toNat + 1 := by omega
  rw [e, rdR l i h0 h1, List.drop_eq_getElem_cons (by omega), List.any_cons]
theorem all_step (p : S39 → Bool) (l : List S39) (i : Int) (h0 : 0 ≤ i) (h1 : i < l.length) : (l.drop i.toNat).all p = (p (rd_T39 l i) && (l.drop (i + 1).toNat).all p) := by
  have e : (i + 1).toNat = i.toNat + 1 := by omega
  rw [e, rdR l i h0 h1, List.drop_eq_getElem_cons (by omega), List.all_cons]
theorem rOrd_step (l : List S39) (i : Int) (h0 : 1 ≤ i) (h1 : i < l.length) : rOrd (l.drop (i - 1).toNat) = (decide ((rd_T39 l (i - 1)).f0.f1 ≤ (rd_T39 l i).f0.f0) && rOrd (l.drop i.toNat)) := by
  rw [rdR l i (by omega) h1, rdR l (i - 1) (by omega) (by omega)]
  have e : i.toNat = (i - 1).toNat + 1 := by omega
  have hl : i.toNat < l.length := by omega
  rw [List.drop_eq_getElem_cons (show (i - 1).toNat < l.length by omega), ← e, List.drop_eq_getElem_cons hl]
  rfl
theorem rOrd_end (l : List S39) (i : Int) (h0 : 1 ≤ i) (h1 : l.length ≤ i) : rOrd (l.drop (i - 1).toNat) = true := by
  rcases Nat.lt_or_ge (i - 1).toNat l.length with h | h
  · rw [List.drop_eq_getElem_cons h, List.drop_of_length_le (by omega)]; rfl
  · rw [List.drop_of_length_le h]; rfl
set_option maxHeartbeats 8000000 in
set_option maxRecDepth 100000 in
theorem repeats_Check.calls (A0 : Option Addr) (c0 : Nat) (l0 : List S43) (a1 : Int) (A2 : Option Addr) (c2 : Nat) (l2 : List S39) (r : Int) (w : World) (hr0 : Kd.C k43 w A0 l0.length l0) (hc0 : l0.length ≤ c0) (hr2 : Kd.C k39 w A2 l2.length l2) (hc2 : l2.length ≤ c2) (h : repeats_Check.f l0 a1 l2 = some r) :
    Calls Try.prog 14 #[.slice A0 l0.length c0, .int .i64 a1, .slice A2 l2.length c2] w fun e w' => e = .returned (.int .i64 r) ∧ Below w.heap.size w w' := by
  have hu39 := Try.underlying39
  have hu37 := Try.underlying37
  obtain rfl : rChk l0 a1 l2 = r := Option.some.inj h
  have HR0 := Aside0.mk hr0
  have HC0 := Aside0.mk hc0
  have HR2 := Aside0.mk hr2
  have HC2 := Aside0.mk hc2
  clear hr0 hc0 hr2 hc2 h
  obtain ⟨g3, hg⟩ : ∃ g : Nat, g = w.heap.size := ⟨_, rfl⟩
  have HG := Aside0.mk hg
  have hgl : w.heap.size ≤ g3 := by omega
  have L3 : Aside0 (One (w.alloc (.cells #[.slice A0 l0.length c0] 22)) g3 22 (.slice A0 l0.length c0)) := ⟨by rw [hg]; exact One.new _ _ _⟩
  have HB := Aside0.mk (below_alloc (Below.refl w.heap.size w) (.cells #[.slice A0 l0.length c0] 22))
  have hx : (w.alloc (.cells #[.slice A0 l0.length c0] 22)).cell? ⟨g3, 0, none⟩ = some (.slice A0 l0.length c0) := L3.out.cell
  by_cases c0 : sChk l0 a1 = 0
  case neg =>
    have HF : Aside0 (rChk l0 a1 l2 = sChk l0 a1) := ⟨by unfold rChk; rw [if_neg c0]⟩
    have c0a : (sChk l0 a1 == 0) = false := by simpa using c0
    have c0b : (sChk l0 a1 != 0) = true := by simpa using c0
    clear c0 hg
    go_enter Try.func14, Try.ntmps14
    go_wp2_with (go_at_call 7; refine (staff_Check.calls _ _ _ _ _ _ (Kd.C_below HR0.out HB.out) HC0.out rfl).mono ?_; rintro e w1 ⟨rfl, hb⟩; have HB2 := Aside0.mk (below_step HB.out hb); clear hb)
    go_ret
    exact ⟨by rw [HF.out]; rfl, HB2.out⟩
  obtain ⟨hl0, hn1, hn2⟩ := sChk_len c0
  have HS0 : Aside0 (staff_Check.f l0 a1 = some 0) := ⟨by unfold staff_Check.f; rw [c0]⟩
  have HF : Aside0 (rChk l0 a1 l2 = (if (l2.length : Int) > 16 then 3 else if l2.any (rBad a1) = true then 1 else if rOrd l2 = false then 5 else if l2.all (rCut l0) = false then 17 else
      if (secT (stepC l0) a1 l2 0 (0, 0)).1 > 8192 then 1 else if (secT (stepC l0) a1 l2 0 (0, 0)).2 > 256 then 3 else 0)) := ⟨by unfold rChk; rw [if_pos c0]⟩
  clear c0
  by_cases c1 : (l2.length : Int) > 16
  · have HF2 : Aside0 (rChk l0 a1 l2 = 3) := ⟨by rw [HF.out, if_pos c1]⟩
    have c1a : decide (16 < (l2.length : Int)) = true := decide_eq_true c1
    have c1b : decide (16 < l2.length) = true := decide_eq_true (by omega)
    clear HF c1 hg
    go_enter Try.func14, Try.ntmps14
    go_wp2_with (go_at_call 7; refine (staff_Check.calls _ _ _ _ _ _ (Kd.C_below HR0.out HB.out) HC0.out HS0.out).mono ?_; rintro e w1 ⟨rfl, hb⟩; have HB2 := Aside0.mk (below_step HB.out hb); clear hb)
    go_ret
    exact ⟨by rw [HF2.out]; rfl, HB2.out⟩
  have HF2 : Aside0 (rChk l0 a1 l2 = (if l2.any (rBad a1) = true then 1 else if rOrd l2 = false then 5 else if l2.all (rCut l0) = false then 17 else
      if (secT (stepC l0) a1 l2 0 (0, 0)).1 > 8192 then 1 else if (secT (stepC l0) a1 l2 0 (0, 0)).2 > 256 then 3 else 0)) := ⟨by rw [HF.out, if_neg c1]⟩
  have c1a : decide (16 < (l2.length : Int)) = false := decide_eq_false c1
  have c1b : decide (16 < l2.length) = false := decide_eq_false (by omega)
  have hl2 : (l2.length : Int) ≤ 16 := by omega
  clear HF c1
  rw [hg] at L3
  have L3a := L3
  clear L3 hx hg
  go_enter Try.func14, Try.ntmps14
  go_wp2_with (go_at_call 7; refine (staff_Check.calls _ _ _ _ _ _ (Kd.C_below HR0.out HB.out) HC0.out HS0.out).mono ?_; rintro e w1 ⟨rfl, hb⟩; have HB2 := Aside0.mk (below_step HB.out hb); have M3 := Aside0.mk (L3a.out.below hb); clear hb)
  rw [← HG.out]
  rw [← HG.out] at M3
  clear HB L3a
  go_loopw [26] (fun v26 w' => ∃ (i : Int), 0 ≤ i ∧ i ≤ (l2.length : Int) ∧ v26 = .int .i64 i ∧ Aside0 (l2.any (rBad a1) = (l2.drop i.toNat).any (rBad a1)) ∧ Aside0 (One w' g3 22 (.slice A0 l0.length c0)) ∧ Aside0 (Below w.heap.size w w')) (fun v26 _ => l2.length - (intOf v26).toNat)
  case atStart => exact ⟨0, by omega, by omega, rfl, ⟨rfl⟩, M3, HB2⟩
  case round =>
    clear HB2 M3
    obtain ⟨i, hi0, hi1, rfl, HE, L3, HB⟩ := hrel
    by_cases c3 : i < (l2.length : Int)
    · have c3b0 : decide (i < (l2.length : Int)) = true := decide_eq_true c3
      obtain ⟨ad, e0, hx0, hx1, hx2⟩ := at_T39 HR2.out i hi0 c3
      cases e0
      replace hx0 := (HB.out.cell (World.block_lt_of_cell? w _ hx0)).trans hx0
      replace hx1 := (HB.out.cell (World.block_lt_of_cell? w _ hx1)).trans hx1
      replace hx2 := (HB.out.cell (World.block_lt_of_cell? w _ hx2)).trans hx2
      have HS := Aside0.mk (any_step (rBad a1) l2 i hi0 c3)
      cases hbad : rBad a1 (rd_T39 l2 i) with
      | true =>
        have HF3 : Aside0 (rChk l0 a1 l2 = 1) := ⟨by rw [HF2.out, HE.out, HS.out, hbad, Bool.true_or, if_pos rfl]⟩
        have hb2 := hbad
        unfold rBad at hb2
        clear HS hbad HE
        cases p1 : decide ((rd_T39 l2 i).f0.f0 < 0) <;> cases p2 : decide ((rd_T39 l2 i).f0.f1 ≤ (rd_T39 l2 i).f0.f0) <;> cases p3 : decide (a1 < (rd_T39 l2 i).f0.f1) <;> cases p4 : decide ((rd_T39 l2 i).f1 < 2) <;> cases p5 : decide (16 < (rd_T39 l2 i).f1) <;> rw [p1, p2, p3, p4, p5] at hb2 <;> first
          | exact absurd hb2 (by decide)
          | (clear hb2
             go_wp2
             go_ret
             exact ⟨by rw [HF3.out]; rfl, below_alloc HB.out _⟩)
      | false =>
        have HE2 : Aside0 (l2.any (rBad a1) = (l2.drop (i + 1).toNat).any (rBad a1)) := ⟨by rw [HE.out, HS.out, hbad, Bool.false_or]⟩
        have hb2 := hbad
        unfold rBad at hb2
        simp only [Bool.or_eq_false_iff] at hb2
        obtain ⟨p1, p2, p3, p4, p5⟩ := hb2
        clear HS hbad HE
        go_wp2
        go_roundw
        case rel => exact ⟨i + 1, by omega, by omega, rfl, HE2, ⟨L3.out.alloc _⟩, ⟨below_alloc HB.out _⟩⟩
        case measure => simp [intOf]; omega
    · have c3b0 : decide (i < (l2.length : Int)) = false := decide_eq_false c3
      have HF3 : Aside0 (rChk l0 a1 l2 = (if rOrd l2 = false then 5 else if l2.all (rCut l0) = false then 17 else
          if (secT (stepC l0) a1 l2 0 (0, 0)).1 > 8192 then 1 else if (secT (stepC l0) a1 l2 0 (0, 0)).2 > 256 then 3 else 0)) := ⟨by rw [HF2.out, HE.out, List.drop_of_length_le (by omega)]; rfl⟩
      clear HE HF2 c3
      go_wp2
      obtain ⟨wo, rfl⟩ : ∃ wo : World, wo = wr := ⟨_, rfl⟩
      go_loopw [10] (fun v10 w' => ∃ (i : Int), 1 ≤ i ∧ i ≤ 300 ∧ v10 = .int .i64 i ∧ Aside0 (rOrd l2 = rOrd (l2.drop (i - 1).toNat)) ∧ Aside0 (One w' g3 22 (.slice A0 l0.length c0)) ∧ Aside0 (Below w.heap.size w w')) (fun v10 _ => 300 - (intOf v10).toNat)
      case atStart => exact ⟨1, by omega, by omega, rfl, ⟨rfl⟩, L3, HB⟩
      case round =>
        clear HB L3
        obtain ⟨i, hi0, hi1, rfl, HE, L3, HB⟩ := hrel
        by_cases c3 : i < (l2.length : Int)
        · have c3b0 : decide (i < (l2.length : Int)) = true := decide_eq_true c3
          obtain ⟨j, hj⟩ : ∃ j : Int, j = i - 1 := ⟨_, rfl⟩
          have hj0 : 0 ≤ j := by omega
          have hj1 : j < (l2.length : Int) := by omega
          have HS := Aside0.mk (rOrd_step l2 i hi0 c3)
          rw [← hj] at HS
          have hk0 : 0 ≤ i := by omega
          obtain ⟨ad, e0, hx0, hx1, hx2⟩ := at_T39 HR2.out j hj0 hj1
          cases e0
          obtain ⟨ad', e0, hy0, hy1, hy2⟩ := at_T39 HR2.out i hk0 c3
          cases e0
          replace hx1 := (HB.out.cell (World.block_lt_of_cell? w _ hx1)).trans hx1
          replace hy0 := (HB.out.cell (World.block_lt_of_cell? w _ hy0)).trans hy0
          have hq0 := eq_true hj0
          have hq1 := eq_true hj1
          have hq2 := eq_true hk0
          have hq3 := eq_true c3
          have hwr : IntKind.i64.wrap (i - 1) = j := by rw [hj]; exact IntWalk.i64_in _ (by omega)
          have hwr2 : wrap64 (i - 1) = j := by rw [hj]; unfold wrap64; omega
          rw [← hj] at HE
          have HSU := Aside0.mk (Int.add_sub_cancel i 1)
          clear hj
          cases hL : decide ((rd_T39 l2 i).f0.f0 < (rd_T39 l2 j).f0.f1) with
          | true =>
            have HF4 : Aside0 (rChk l0 a1 l2 = 5) := ⟨by
              have h2 : decide ((rd_T39 l2 j).f0.f1 ≤ (rd_T39 l2 i).f0.f0) = false := by have := of_decide_eq_true hL; exact decide_eq_false (by omega)
              rw [HF3.out, HE.out, HS.out, h2, Bool.false_and, if_pos rfl]⟩
            clear HS HE
            go_wp2
            go_quiet (fail)
            go_wp2
            go_ret
            exact ⟨by rw [HF4.out]; rfl, pw_below_drewN HB.out _⟩
          | false =>
            have HE2 : Aside0 (rOrd l2 = rOrd (l2.drop (i + 1 - 1).toNat)) := ⟨by
              have h2 : decide ((rd_T39 l2 j).f0.f1 ≤ (rd_T39 l2 i).f0.f0) = true := by have := of_decide_eq_false hL; exact decide_eq_true (by omega)
              rw [HE.out, HS.out, h2, Bool.true_and, HSU.out]⟩
            clear HS HE
            go_wp2
            go_quiet (fail)
            go_wp2
            go_roundw
            case rel => exact ⟨i + 1, by omega, by omega, rfl, HE2, ⟨L3.out.drewN _⟩, ⟨pw_below_drewN HB.out _⟩⟩
            case measure => simp [intOf]; omega
        · have c3b0 : decide (i < (l2.length : Int)) = false := decide_eq_false c3
          have HF4 : Aside0 (rChk l0 a1 l2 = (if l2.all (rCut l0) = false then 17 else
              if (secT (stepC l0) a1 l2 0 (0, 0)).1 > 8192 then 1 else if (secT (stepC l0) a1 l2 0 (0, 0)).2 > 256 then 3 else 0)) := ⟨by rw [HF3.out, HE.out, rOrd_end l2 i hi0 (by omega)]; rfl⟩
          clear HE HF3 c3
          go_wp2
          obtain ⟨wo, rfl⟩ : ∃ wo : World, wo = wr := ⟨_, rfl⟩
          go_loopw [83] (fun v83 w' => ∃ (i : Int), 0 ≤ i ∧ i ≤ (l2.length : Int) ∧ v83 = .int .i64 i ∧ Aside0 (l2.all (rCut l0) = (l2.drop i.toNat).all (rCut l0)) ∧ Aside0 (One w' g3 22 (.slice A0 l0.length c0)) ∧ Aside0 (Below w.heap.size w w')) (fun v83 _ => l2.length - (intOf v83).toNat)
          case atStart => exact ⟨0, by omega, by omega, rfl, ⟨rfl⟩, L3, HB⟩
          case round =>
            clear HB L3
            obtain ⟨i, hi0, hi1, rfl, HE, L3, HB⟩ := hrel
            by_cases c3 : i < (l2.length : Int)
            · have c3b0 : decide (i < (l2.length : Int)) = true := decide_eq_true c3
              obtain ⟨ad, e0, hx0, hx1, hx2⟩ := at_T39 HR2.out i hi0 c3
              cases e0
              replace hx0 := (HB.out.cell (World.block_lt_of_cell? w _ hx0)).trans hx0
              replace hx1 := (HB.out.cell (World.block_lt_of_cell? w _ hx1)).trans hx1
              replace hx2 := (HB.out.cell (World.block_lt_of_cell? w _ hx2)).trans hx2
              have HS := Aside0.mk (all_step (rCut l0) l2 i hi0 c3)
              have hg3 := L3.out.cell
              have hlt3 := L3.out.lt
              have HC1 := Aside0.mk (cut_eq l0 (rd_T39 l2 i).f0.f0 (by omega))
              have HC2' := Aside0.mk (cut_eq l0 (rd_T39 l2 i).f0.f1 (by omega))
              cases k1 : cutB l0 (rd_T39 l2 i).f0.f0 with
              | false =>
                have HF5 : Aside0 (rChk l0 a1 l2 = 17) := ⟨by rw [HF4.out, HE.out, HS.out]; unfold rCut; rw [k1]; rfl⟩
                rw [k1] at HC1
                clear HS HE k1
                go_wp2_with (go_at_call 27; refine (repeats_cuttable.calls _ _ _ _ _ _ _ (Kd.C_below HR0.out (below_alloc HB.out _)) HC0.out HC1.out).mono ?_; rintro e w1 ⟨rfl, hb⟩; have HB2 := Aside0.mk (below_step (below_alloc HB.out _) hb); clear hb)
                go_ret
                exact ⟨by rw [HF5.out]; rfl, HB2.out⟩
              | true =>
                rw [k1] at HC1
                cases k2 : cutB l0 (rd_T39 l2 i).f0.f1 with
                | false =>
                  have HF5 : Aside0 (rChk l0 a1 l2 = 17) := ⟨by rw [HF4.out, HE.out, HS.out]; unfold rCut; rw [k1, k2]; rfl⟩
                  rw [k2] at HC2'
                  clear HS HE k1 k2
                  go_wp2_with fail
                  refine (repeats_cuttable.calls _ _ _ _ _ _ _ (Kd.C_below HR0.out (below_alloc HB.out _)) HC0.out HC1.out).mono ?_
                  rintro e w1 ⟨rfl, hb⟩
                  have HB2 := Aside0.mk (below_step (below_alloc HB.out _) hb)
                  have BK := Aside0.mk (blk_below (blk_new wr _) hb)
                  have M3 := Aside0.mk ((L3.out.alloc _).below hb)
                  clear hb
                  have hy0 : w1.cell? ⟨wr.heap.size, 0, none⟩ = some (.int .i64 (rd_T39 l2 i).f0.f0) := (blk_cell BK.out 0).trans rfl
                  have hy1 : w1.cell? ⟨wr.heap.size, 1, none⟩ = some (.int .i64 (rd_T39 l2 i).f0.f1) := (blk_cell BK.out 1).trans rfl
                  have hy3 := M3.out.cell
                  go_wp2_with fail
                  refine (repeats_cuttable.calls _ _ _ _ _ _ _ (Kd.C_below HR0.out HB2.out) HC0.out HC2'.out).mono ?_
                  rintro e w2 ⟨rfl, hb⟩
                  have HB3 := Aside0.mk (below_step HB2.out hb)
                  clear hb
                  go_wp2_with fail
                  go_ret
                  exact ⟨by rw [HF5.out]; rfl, HB3.out⟩
                | true =>
                  have HE2 : Aside0 (l2.all (rCut l0) = (l2.drop (i + 1).toNat).all (rCut l0)) := ⟨by rw [HE.out, HS.out]; unfold rCut; rw [k1, k2]; simp⟩
                  rw [k2] at HC2'
                  clear HS HE k1 k2
                  go_wp2_with fail
                  refine (repeats_cuttable.calls _ _ _ _ _ _ _ (Kd.C_below HR0.out (below_alloc HB.out _)) HC0.out HC1.out).mono ?_
                  rintro e w1 ⟨rfl, hb⟩
                  have HB2 := Aside0.mk (below_step (below_alloc HB.out _) hb)
                  have BK := Aside0.mk (blk_below (blk_new wr _) hb)
                  have M3 := Aside0.mk ((L3.out.alloc _).below hb)
                  clear hb
                  have hy0 : w1.cell? ⟨wr.heap.size, 0, none⟩ = some (.int .i64 (rd_T39 l2 i).f0.f0) := (blk_cell BK.out 0).trans rfl
                  have hy1 : w1.cell? ⟨wr.heap.size, 1, none⟩ = some (.int .i64 (rd_T39 l2 i).f0.f1) := (blk_cell BK.out 1).trans rfl
                  have hy3 := M3.out.cell
                  go_wp2_with fail
                  refine (repeats_cuttable.calls _ _ _ _ _ _ _ (Kd.C_below HR0.out HB2.out) HC0.out HC2'.out).mono ?_
                  rintro e w2 ⟨rfl, hb⟩
                  have HB3 := Aside0.mk (below_step HB2.out hb)
                  have N3 := Aside0.mk (M3.out.below hb)
                  clear hb
                  go_wp2_with fail
                  go_roundw
                  case rel => exact ⟨i + 1, by omega, by omega, rfl, HE2, N3, HB3⟩
                  case measure => simp [intOf]; omega
            · have c3b0 : decide (i < (l2.length : Int)) = false := decide_eq_false c3
              have HF5 : Aside0 (rChk l0 a1 l2 = (if (secT (stepC l0) a1 l2 0 (0, 0)).1 > 8192 then 1 else if (secT (stepC l0) a1 l2 0 (0, 0)).2 > 256 then 3 else 0)) := ⟨by rw [HF4.out, HE.out, List.drop_of_length_le (by omega)]; rfl⟩
              clear HE HF4 c3
              have HSZ := Aside0.mk hl0
              have HB1 := Aside0.mk (below_alloc (below_alloc HB.out (.cells #[.int .i64 0] 3)) (.cells #[.int .i64 0] 3))
              have X1 : Aside0 (One ((wr.alloc (.cells #[.int .i64 0] 3)).alloc (.cells #[.int .i64 0] 3)) wr.heap.size 3 (.int .i64 0)) := ⟨(One.new _ _ _).alloc _⟩
              have X2 : Aside0 (One ((wr.alloc (.cells #[.int .i64 0] 3)).alloc (.cells #[.int .i64 0] 3)) (wr.heap.size + 1) 3 (.int .i64 0)) := ⟨by have h := One.new (wr.alloc (.cells #[.int .i64 0] 3)) 3 (.int .i64 0); rw [World.size_alloc] at h; exact h⟩
              have X3 := Aside0.mk ((L3.out.alloc (.cells #[.int .i64 0] 3)).alloc (.cells #[.int .i64 0] 3))
              have HLE := Aside0.mk HB.out.size
              have HL2 := Aside0.mk hl2
              cases hs : secT (stepC l0) a1 l2 0 (0, 0) with
              | mk sa sb =>
              have HE : Aside0 (secF (fun s a b t => some (stepC l0 s a b t)) a1 l2 0 (0, 0) = some (sa, sb)) := ⟨by rw [secF_total, hs]⟩
              have HF6 : Aside0 (rChk l0 a1 l2 = (if sa > 8192 then 1 else if sb > 256 then 3 else 0)) := ⟨by rw [HF5.out, hs]⟩
              clear hs HF5 HB L3
              go_wp2_with fail
              refine (repeats_sections.calls (σ := Int × Int) 28 #[.pointer (some ⟨wr.heap.size, 0, none⟩), .pointer (some ⟨wr.heap.size + 1, 0, none⟩), .pointer (some ⟨g3, 0, none⟩)] (fun s W => One W wr.heap.size 3 (.int .i64 s.1) ∧ One W (wr.heap.size + 1) 3 (.int .i64 s.2) ∧ One W g3 22 (.slice A0 l0.length c0)) (fun k => k = wr.heap.size ∨ k = wr.heap.size + 1) (fun s a b t => some (stepC l0 s a b t)) A2 c2 l2 a1 ((wr.alloc (.cells #[.int .i64 0] 3)).alloc (.cells #[.int .i64 0] 3)) (0, 0) (sa, sb) (enters_hyp Try.func28 (by kernel_rfl) rfl) ?_ ?_ ?_ HC2.out (by have := HL2.out; omega) ⟨X1.out, X2.out, X3.out⟩ HE.out).mono ?_
              · rintro s s' a b t W hk ⟨h1, h2, h3⟩ hs
                obtain rfl := Option.some.inj hs
                refine (check_1 wr.heap.size (wr.heap.size + 1) g3 A0 c0 l0 s a b t W h1 h2 h3 (by omega) (fun W' hk' => C_keeps (S := fun k => k = wr.heap.size ∨ k = wr.heap.size + 1) heap43 HR0.out HB1.out (fun k hk => by have := HLE.out; omega) (hk.then_ hk' (fun _ h => .inl h))) HC0.out (by have := HSZ.out; omega)).mono ?_
                rintro e W' ⟨rfl, ⟨h4, h5⟩, h6⟩
                exact ⟨rfl, ⟨h4, h5, h3.keeps h6 (fun h => h.elim (fun e => absurd e.symm (h1.not h3 (by decide))) (fun e => absurd e.symm (h2.not h3 (by decide))))⟩, hk.then_ h6 (fun _ h => .inl h), KeepT.keeps h6 (fun k cs hk' he => he.elim (fun e => absurd e.symm (h1.not hk' (by decide))) (fun e => absurd e.symm (h2.not hk' (by decide))))⟩
              · rintro s W W' ⟨h1, h2, h3⟩ hb
                exact ⟨h1.below hb, h2.below hb, h3.below hb⟩
              · intro W hk
                exact C_keeps heap39 HR2.out HB1.out (fun k hk => by have := HLE.out; omega) hk
              rintro e w1 ⟨rfl, ⟨h1, h2, h3⟩, hK⟩
              have hc1 := h1.cell
              have hc2 := h2.cell
              have HB2 := Aside0.mk (Below.trans HB1.out (hK.toBelow (fun k h => by have := HLE.out; omega) (by have := HLE.out; simp; omega)))
              clear h1 h2 h3 hK
              by_cases d1 : sa > 8192
              · have d1b : decide (8192 < sa) = true := decide_eq_true d1
                have HF7 : Aside0 (rChk l0 a1 l2 = 1) := ⟨by rw [HF6.out, if_pos d1]⟩
                clear HF6 d1
                go_wp2_with fail
                go_ret
                exact ⟨by rw [HF7.out]; rfl, HB2.out⟩
              · have d1b : decide (8192 < sa) = false := decide_eq_false d1
                by_cases d2 : sb > 256
                · have d2b : decide (256 < sb) = true := decide_eq_true d2
                  have HF7 : Aside0 (rChk l0 a1 l2 = 3) := ⟨by rw [HF6.out, if_neg d1, if_pos d2]⟩
                  clear HF6 d1 d2
                  go_wp2_with fail
                  go_ret
                  exact ⟨by rw [HF7.out]; rfl, HB2.out⟩
                · have d2b : decide (256 < sb) = false := decide_eq_false d2
                  have HF7 : Aside0 (rChk l0 a1 l2 = 0) := ⟨by rw [HF6.out, if_neg d1, if_neg d2]⟩
                  clear HF6 d1 d2
                  go_wp2_with fail
                  go_ret
                  exact ⟨by rw [HF7.out]; rfl, HB2.out⟩

end Go.Proofs.Ytkipahflihobeaa.X
