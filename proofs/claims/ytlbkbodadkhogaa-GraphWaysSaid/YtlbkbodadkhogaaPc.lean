/- The plain laws of graphs, C: graph.waves tells distances; Reach. -/
import Derived.Test.YtlbkbodadkhogaaPb
import Derived.Test.YtlbkbodadkhogaaX7
namespace Go.Proofs.Ytlbkbodadkhogaa.Pure
open Go.RowKit Go.Proofs.Ytlbkbodadkhogaa.X Go.Proofs.YtlbkbodadkhogaaW.PrintWords
set_option linter.unusedVariables false
theorem wav_l3 {N d : Nat} {far0 : List Int} (b : Bool) (n : Int) (l : List S46) (ho : Ok N l) (hl : l.length ≤ 1000000) (hd : d ≤ 1000) (hN : N ≤ 1000) (x : Int) (w : List Int) (j : Int) (hx : 0 ≤ x ∧ x < N) (hxd : rd far0 x = d) (r : List Int) :
    ∀ (e i : Nat), l.length - i = e → i ≤ l.length → ∀ (D : Int → Prop) (F nx : List Int), Jn N d far0 D (F, nx) →
      Ev (fun k => graph_waves.l2 k b ((l.drop i).foldl (wst b x) (F, nx)).1 ((l.drop i).foldl (wst b x) (F, nx)).2 w (w.length : Int) (wrap64 (j + 1)) n l) r →
      Ev (fun k => graph_waves.l3 k b F nx x w (w.length : Int) j l (l.length : Int) (i : Int) n l) r := by
  intro e
  induction e with
  | zero =>
    intro i he hi D F nx hj h
    rw [List.drop_eq_nil_of_le (by omega)] at h
    refine Ev.step (fun k => ?_) h
    simp only [graph_waves.l3]
    rw [if_neg (by omega)]
    rfl
  | succ e ih =>
    intro i he hi D F nx hj h
    have hlt : i < l.length := by omega
    have ha := ho l[i] (List.getElem_mem _)
    have hta : 0 ≤ tow b l[i] ∧ tow b l[i] < N := by unfold tow; cases b <;> simp <;> omega
    have hj2 := hj.step b x l[i] hx hxd hta
    have hFx : rd F x = d := by have := hj.old x hx.1 hx.2 (by omega); rw [this, hxd]
    have hFl : (F.length : Int) = N := by have := hj.len; simp only at this; omega
    have hnx : nx.length ≤ N := hj.cnt.1
    rw [List.drop_eq_getElem_cons hlt, List.foldl_cons] at h
    obtain ⟨T, hT⟩ : ∃ T, T = wst b x (F, nx) l[i] := ⟨_, rfl⟩
    rw [← hT] at h hj2
    obtain ⟨T1, T2⟩ := T
    have hn := ih (i + 1) (by omega) (by omega) _ T1 T2 hj2 h
    have hw : wrap64 ((d : Int) + 1) = (d : Int) + 1 := by unfold wrap64; omega
    refine Ev.step (fun k => ?_) hn
    simp only [graph_waves.l3]
    rw [if_pos (by omega), if_pos (by omega), if_pos (by omega), rdT l i hlt, w64 (by omega)]
    unfold wst at hT
    simp only at hT
    cases b with
    | true =>
      rw [if_pos rfl]
      simp only [frm, tow, if_true] at hT hta
      by_cases c : l[i].f1 = x
      · rw [if_pos c] at hT ⊢
        rw [if_pos hta.1, if_pos (by omega)]
        by_cases q : rd F l[i].f0 < 0
        · rw [if_pos q] at hT ⊢
          rw [if_pos hx.1, if_pos (by omega), if_pos (by omega), hFx, hw]
          rw [hFx] at hT
          obtain ⟨rfl, rfl⟩ := Prod.mk.inj hT
          rfl
        · rw [if_neg q] at hT ⊢
          obtain ⟨rfl, rfl⟩ := Prod.mk.inj hT
          rfl
      · rw [if_neg c] at hT ⊢
        obtain ⟨rfl, rfl⟩ := Prod.mk.inj hT
        rfl
    | false =>
      rw [if_neg (by simp)]
      simp only [frm, tow, Bool.false_eq_true, if_false] at hT hta
      by_cases c : l[i].f0 = x
      · rw [if_pos c] at hT ⊢
        rw [if_pos hta.1, if_pos (by omega)]
        by_cases q : rd F l[i].f1 < 0
        · rw [if_pos q] at hT ⊢
          rw [if_pos hx.1, if_pos (by omega), if_pos (by omega), hFx, hw]
          rw [hFx] at hT
          obtain ⟨rfl, rfl⟩ := Prod.mk.inj hT
          rfl
        · rw [if_neg q] at hT ⊢
          obtain ⟨rfl, rfl⟩ := Prod.mk.inj hT
          rfl
      · rw [if_neg c] at hT ⊢
        obtain ⟨rfl, rfl⟩ := Prod.mk.inj hT
        rfl
theorem wav_l2 {N d : Nat} {far0 : List Int} (b : Bool) (n : Int) (l : List S46) (ho : Ok N l) (hl : l.length ≤ 1000000) (hd : d ≤ 1000) (hN : N ≤ 1000) (w : List Int) (hwl : w.length ≤ 1000) (hw : ∀ x ∈ w, (0 ≤ x ∧ x < N) ∧ rd far0 x = d) (r : List Int) :
    ∀ (e j : Nat), w.length - j = e → j ≤ w.length → ∀ (D : Int → Prop) (F nx : List Int), Jn N d far0 D (F, nx) →
      Ev (fun k => graph_waves.l1 k b ((w.drop j).foldl (wnd b l) (F, nx)).1 ((w.drop j).foldl (wnd b l) (F, nx)).2 n l) r →
      Ev (fun k => graph_waves.l2 k b F nx w (w.length : Int) (j : Int) n l) r := by
  intro e
  induction e with
  | zero =>
    intro j he hi D F nx hj h
    rw [List.drop_eq_nil_of_le (by omega)] at h
    refine Ev.step (fun k => ?_) h
    simp only [graph_waves.l2]
    rw [if_neg (by omega)]
    rfl
  | succ e ih =>
    intro j he hi D F nx hj h
    have hlt : j < w.length := by omega
    obtain ⟨hx, hxd⟩ := hw w[j] (List.getElem_mem _)
    have hl' : ∀ a ∈ l, 0 ≤ tow b a ∧ tow b a < N := fun a ha => by have := ho a ha; unfold tow; cases b <;> simp <;> omega
    rw [List.drop_eq_getElem_cons hlt, List.foldl_cons] at h
    have hj2 := Jn.node b w[j] hx hxd l hl' hj
    have hn := ih (j + 1) (by omega) (by omega) _ _ _ hj2 h
    have h3 := wav_l3 b n l ho hl hd hN w[j] w (j : Int) hx hxd r l.length 0 (by omega) (by omega) D F nx hj (by rw [w64 (by omega)]; exact hn)
    refine Ev.step (fun k => ?_) h3
    simp only [graph_waves.l2]
    rw [if_pos (by omega), if_pos (by omega), if_pos (by omega), rdI w j hlt]
    rfl
theorem wav_l1 {N : Nat} (b : Bool) (n : Int) (l : List S46) (ho : Ok N l) (hl : l.length ≤ 1000000) (hN : N ≤ 1000) (s : Int) (hs : 0 ≤ s ∧ s < N) :
    ∀ (e d : Nat), N - d = e → ∀ (F w : List Int), In N l b s d F w → ∃ r : List Int, r.length = N ∧ (∀ y : Int, 0 ≤ y → y < N → IsD l b s y (rd r y)) ∧ Ev (fun k => graph_waves.l1 k b F w n l) r := by
  intro e
  induction e with
  | zero =>
    intro d he F w h
    have hw : w = [] := by
      cases w with
      | nil => rfl
      | cons x w =>
        obtain ⟨_, _, f⟩ := (h.wav x).1 (by simp)
        have := f.lt ho hs
        omega
    subst hw
    refine ⟨F, h.len, h.last ho hs, Ev.step (f := fun _ => some F) (fun k => ?_) (Ev.now _)⟩
    simp only [graph_waves.l1]
    rw [if_neg (by simp)]
  | succ e ih =>
    intro d he F w h
    cases w with
    | nil =>
      refine ⟨F, h.len, h.last ho hs, Ev.step (f := fun _ => some F) (fun k => ?_) (Ev.now _)⟩
      simp only [graph_waves.l1]
      rw [if_neg (by simp)]
    | cons x w =>
      obtain ⟨r, r1, r2, r3⟩ := ih (d + 1) (by omega) _ _ (h.next ho hs)
      refine ⟨r, r1, r2, ?_⟩
      have hd : d ≤ 1000 := by omega
      have hfd : ∀ y ∈ x :: w, (0 ≤ y ∧ y < N) ∧ rd F y = d := by
        intro y hy
        obtain ⟨y0, y1, f⟩ := (h.wav y).1 hy
        refine ⟨⟨y0, y1⟩, ?_⟩
        rcases h.val y y0 y1 with ⟨j, hj, h1, h2⟩ | ⟨h1, h2⟩
        · rw [h1, h2.eq f]
        · exact absurd f.1 (h2 d (Nat.le_refl _))
      have hj0 : Jn N d F (fun _ => False) (F, []) := by
        refine ⟨h.len, fun _ _ _ _ => rfl, fun y y0 y1 hy => ?_, by simp, by simp⟩
        rcases h.val y y0 y1 with ⟨j, hj, h1, h2⟩ | ⟨h1, h2⟩
        · omega
        · exact .inr ⟨h1, fun q => q, by simp⟩
      have h2 := wav_l2 b n l ho hl hd hN (x :: w) (Nat.le_trans h.cnt hN) hfd r (x :: w).length 0 (by omega) (by omega) _ F [] hj0 (by simpa using r3)
      refine Ev.step (fun k => ?_) h2
      simp only [graph_waves.l1]
      rw [if_pos (by simp)]
      rfl
theorem wav_l0 {N : Nat} (b : Bool) (n : Int) (l : List S46) (hN : N ≤ 1000) (s : Int) (hs : 0 ≤ s ∧ s < N) (r : List Int) :
    ∀ (e i : Nat), N - i = e → i ≤ N → ∀ (F : List Int), F.length = N → (∀ y : Int, 0 ≤ y → y < (i : Int) → rd F y = -1) →
      (∀ G : List Int, G.length = N → (∀ y : Int, 0 ≤ y → y < N → rd G y = if y = s then 0 else -1) → Ev (fun k => graph_waves.l1 k b G [s] n l) r) →
      Ev (fun k => graph_waves.l0 k s b F (N : Int) (i : Int) n l) r := by
  intro e
  induction e with
  | zero =>
    intro i he hi F hF hv h
    refine Ev.step (fun k => ?_) (h (F.set s.toNat 0) (by simp [hF]) (fun y y0 y1 => ?_))
    · simp only [graph_waves.l0]
      rw [if_neg (by omega), if_pos hs.1, if_pos (by omega)]
    · rw [rd_set _ _ _ _ hs.1 (by omega) y0]
      split
      · rfl
      · exact hv y y0 (by omega)
  | succ e ih =>
    intro i he hi F hF hv h
    have hn := ih (i + 1) (by omega) (by omega) (F.set ((i : Int)).toNat (-1)) (by simp [hF]) (fun y y0 y1 => by
      rw [rd_set _ _ _ _ (by omega) (by omega) y0]
      split
      · rfl
      · exact hv y y0 (by omega)) h
    refine Ev.step (fun k => ?_) hn
    simp only [graph_waves.l0]
    rw [if_pos (by omega), if_pos (by omega), if_pos (by omega), w64 (by omega)]
/-- The distances from s. -/
structure Far (N : Nat) (l : List S46) (b : Bool) (s : Int) (F : List Int) : Prop where
  len : F.length = N
  val : ∀ y : Int, 0 ≤ y → y < N → IsD l b s y (rd F y)
theorem Far.one {N : Nat} {l : List S46} {b : Bool} {s : Int} {F G : List Int} (h : Far N l b s F) (k : Far N l b s G) : F = G := by
  apply List.ext_getElem (h.len.trans k.len.symm)
  intro i h1 h2
  have e := (h.val i (by omega) (by have := h.len; omega)).eq (k.val i (by omega) (by have := h.len; omega))
  rwa [rdI F i h1, rdI G i h2] at e
theorem waves_ev {N : Nat} (b : Bool) (l : List S46) (ho : Ok N l) (hl : l.length ≤ 1000000) (hN : N ≤ 1000) (s : Int) (hs : 0 ≤ s ∧ s < N) : ∃ F : List Int, Far N l b s F ∧ Ev (fun k => graph_waves.f k (N : Int) l s b) F := by
  have hin : ∀ G : List Int, G.length = N → (∀ y : Int, 0 ≤ y → y < N → rd G y = if y = s then 0 else -1) → In N l b s 0 G [s] := by
    intro G hG hv
    refine ⟨hG, fun y y0 y1 => ?_, fun y => ⟨fun hy => ?_, fun hy => ?_⟩, by simp; omega⟩
    · rw [hv y y0 y1]
      by_cases c : y = s
      · subst c
        rw [if_pos rfl]
        exact .inl ⟨0, Nat.le_refl _, rfl, rfl, fun e he => absurd he (by omega)⟩
      · rw [if_neg c]
        refine .inr ⟨rfl, fun e he w => ?_⟩
        have : e = 0 := by omega
        subst this
        exact c w
    · simp at hy; subst hy
      exact ⟨hs.1, hs.2, rfl, fun e he => absurd he (by omega)⟩
    · have : y = s := hy.2.2.1
      simp [this]
  have hG0 : ∃ G : List Int, G.length = N ∧ ∀ y : Int, 0 ≤ y → y < N → rd G y = if y = s then 0 else -1 := by
    refine ⟨(List.replicate N (-1)).set s.toNat 0, by simp, fun y y0 y1 => ?_⟩
    rw [rd_set _ _ _ _ hs.1 (by simp; omega) y0]
    split
    · rfl
    · obtain ⟨m, rfl⟩ := Int.eq_ofNat_of_zero_le y0
      rw [rdI _ m (by simp; omega)]; simp
  obtain ⟨G0, g1, g2⟩ := hG0
  obtain ⟨r, r1, r2, r3⟩ := wav_l1 b (N : Int) l ho hl hN s hs N 0 (by omega) G0 [s] (hin G0 g1 g2)
  refine ⟨r, ⟨r1, r2⟩, ?_⟩
  have hone : ∀ G : List Int, G.length = N → (∀ y : Int, 0 ≤ y → y < N → rd G y = if y = s then 0 else -1) → G = G0 := by
    intro G h1 h2
    apply List.ext_getElem (h1.trans g1.symm)
    intro i i1 i2
    have e := (h2 i (by omega) (by omega)).trans (g2 i (by omega) (by omega)).symm
    rwa [rdI G i i1, rdI G0 i i2] at e
  have h0 := wav_l0 b (N : Int) l hN s hs r N 0 (by omega) (by omega) (List.replicate N 0) (by simp) (fun y y0 y1 => by omega) (fun G h1 h2 => by rw [hone G h1 h2]; exact r3)
  refine Ev.congr (fun k => ?_) h0
  unfold graph_waves.f
  rw [if_pos (by omega), Int.toNat_natCast, if_pos (by omega)]
  simp
end Go.Proofs.Ytlbkbodadkhogaa.Pure
