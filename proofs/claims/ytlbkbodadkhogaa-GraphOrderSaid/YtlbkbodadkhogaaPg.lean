/- The plain laws of graphs, G: orders. -/
import Derived.Test.YtlbkbodadkhogaaPd
import Derived.Test.YtlbkbodadkhogaaX18
import Derived.Test.YtlbkbodadkhogaaOr
namespace Go.Proofs.Ytlbkbodadkhogaa.Pure
open Go.RowKit Go.Proofs.Ytlbkbodadkhogaa.X Go.Proofs.YtlbkbodadkhogaaW.PrintWords
set_option linter.unusedVariables false
/-- How many arcs come to y from nodes that are not out. -/
def cin (l : List S46) (out : List Int) (y : Int) : Nat := l.countP (fun a => decide (a.f1 = y) && !decide (a.f0 ∈ out))
def cfr (l : List S46) (x y : Int) : Nat := l.countP (fun a => decide (a.f1 = y) && decide (a.f0 = x))
theorem cin_zero {l : List S46} {out : List Int} {y : Int} : cin l out y = 0 ↔ ∀ a ∈ l, a.f1 = y → a.f0 ∈ out := by
  unfold cin
  rw [List.countP_eq_zero]
  constructor
  · intro h a ha e
    have := h a ha
    simpa [e] using this
  · intro h a ha
    have := h a ha
    simp
    exact this
theorem cin_push (out : List Int) (x y : Int) (hx : x ∉ out) : ∀ (l : List S46), cin l out y = cin l (out ++ [x]) y + cfr l x y := by
  intro l
  induction l with
  | nil => rfl
  | cons a l ih =>
    unfold cin cfr at ih ⊢
    rw [List.countP_cons, List.countP_cons, List.countP_cons, ih]
    by_cases c : a.f1 = y
    · by_cases d : a.f0 = x
      · simp [c, d, hx]; omega
      · by_cases e : a.f0 ∈ out
        · simp [c, d, e]
        · simp [c, d, e]; omega
    · simp [c]
theorem cin_le (l : List S46) (out : List Int) (y : Int) : cin l out y ≤ l.length := List.countP_le_length
theorem cfr_cons (a : S46) (l : List S46) (x y : Int) : cfr (a :: l) x y = cfr l x y + if a.f1 = y ∧ a.f0 = x then 1 else 0 := by
  unfold cfr
  rw [List.countP_cons]
  by_cases c : a.f1 = y ∧ a.f0 = x
  · simp [c]
  · rw [if_neg c]
    have : (decide (a.f1 = y) && decide (a.f0 = x)) = false := by
      rw [Bool.eq_false_iff]; simpa using c
    simp [this]
theorem ins_lt {x : Int} {F : List Int} (h : F.Pairwise (· < ·)) (hx : x ∉ F) : (ins x F).Pairwise (· < ·) := by
  have h1 := ins_sorted x F (h.imp (fun q => Int.le_of_lt q))
  have h2 : (ins x F).Nodup := by
    rw [(ins_perm x F).nodup_iff, List.nodup_cons]
    exact ⟨hx, h.imp (fun q e => by omega)⟩
  exact (h1.and h2).imp (fun q => Int.lt_iff_le_and_ne.2 q)
theorem mem_ins {x y : Int} {F : List Int} : y ∈ ins x F ↔ y = x ∨ y ∈ F := by
  rw [(ins_perm x F).mem_iff, List.mem_cons]
/-- What is known at the head of a round. -/
structure Kn (N : Nat) (l : List S46) (c F out : List Int) : Prop where
  len : c.length = N
  cnt : ∀ y : Int, 0 ≤ y → y < N → rd c y = (cin l out y : Nat)
  srt : F.Pairwise (· < ·)
  mem : ∀ y : Int, y ∈ F ↔ (0 ≤ y ∧ y < N ∧ y ∉ out ∧ rd c y = 0)
  nod : out.Nodup
  rng : ∀ y ∈ out, 0 ≤ y ∧ y < (N : Int)
  ord : ∀ (i : Nat) (h : i < out.length), ∀ a ∈ l, a.f1 = out[i] → a.f0 ∈ out.take i
theorem Kn.cls {N : Nat} {l : List S46} {c F out : List Int} (h : Kn N l c F out) : ∀ a ∈ l, a.f1 ∈ out → a.f0 ∈ out := by
  intro a ha q
  obtain ⟨i, hi, e⟩ := List.mem_iff_getElem.1 q
  exact List.mem_of_mem_take (h.ord i hi a ha e.symm)
theorem relax_ok {N : Nat} (x : Int) (out : List Int) (T : Int → Nat) : ∀ (p : List S46), p.length ≤ 1000000 → Ok N p → (∀ a ∈ p, a.f0 = x → a.f1 ∉ out) → (∀ y, T y ≤ 1000000) → ∀ (c F : List Int), c.length = N →
    (∀ y : Int, 0 ≤ y → y < N → rd c y = ((T y + cfr p x y : Nat) : Int)) → F.Pairwise (· < ·) → (∀ y : Int, y ∈ F ↔ (0 ≤ y ∧ y < N ∧ y ∉ out ∧ rd c y = 0)) →
    (ordRelax x p (c, F)).1.length = N ∧ (∀ y : Int, 0 ≤ y → y < N → rd (ordRelax x p (c, F)).1 y = (T y : Nat)) ∧ (ordRelax x p (c, F)).2.Pairwise (· < ·) ∧ (∀ y : Int, y ∈ (ordRelax x p (c, F)).2 ↔ (0 ≤ y ∧ y < N ∧ y ∉ out ∧ rd (ordRelax x p (c, F)).1 y = 0)) := by
  intro p
  induction p with
  | nil =>
    intro _ _ _ _ c F hc hv hs hm
    exact ⟨hc, fun y y0 y1 => by have := hv y y0 y1; simp only [cfr, List.countP_nil, Nat.add_zero] at this; exact this, hs, hm⟩
  | cons a p ih =>
    intro hpl ho hx hT c F hc hv hs hm
    simp only [List.length_cons] at hpl
    have ha := ho a (by simp)
    have go := ih (by omega) (fun z hz => ho z (by simp [hz])) (fun z hz => hx z (by simp [hz])) hT
    by_cases q : a.f0 = x
    · obtain ⟨y0, hy0⟩ : ∃ y, y = a.f1 := ⟨_, rfl⟩
      have hyr : 0 ≤ y0 ∧ y0 < N := by omega
      have hno : y0 ∉ out := by rw [hy0]; exact hx a (by simp) q
      have h0 := hv y0 hyr.1 hyr.2
      rw [cfr_cons, if_pos ⟨hy0.symm, q⟩] at h0
      have hcf : cfr p x y0 ≤ p.length := List.countP_le_length
      have hw : wrap64 (rd c y0 - 1) = rd c y0 - 1 := by have := hT y0; unfold wrap64; omega
      have hnF : y0 ∉ F := fun w => by have := ((hm y0).1 w).2.2.2; omega
      have e : ordRelax x (a :: p) (c, F) = ordRelax x p (c.set y0.toNat (rd c y0 - 1), if rd c y0 - 1 = 0 then ins y0 F else F) := by
        unfold ordRelax
        rw [List.foldl_cons, if_pos q, ← hy0, hw]
      rw [e]
      refine go _ _ (by simp [hc]) (fun y z0 z1 => ?_) ?_ (fun y => ?_)
      · rw [rd_set _ _ _ _ hyr.1 (by omega) z0]
        by_cases w : y = y0
        · subst w; rw [if_pos rfl]; omega
        · rw [if_neg w, hv y z0 z1, cfr_cons, if_neg (fun z => w (by rw [hy0]; exact z.1.symm))]; rfl
      · split
        · exact ins_lt hs hnF
        · exact hs
      · by_cases w : y = y0
        · subst w
          rw [rd_set _ _ _ _ hyr.1 (by omega) hyr.1, if_pos rfl]
          split
          · rename_i z
            rw [mem_ins]
            exact ⟨fun _ => ⟨hyr.1, hyr.2, hno, z⟩, fun _ => .inl rfl⟩
          · rename_i z
            exact ⟨fun u => absurd u hnF, fun u => absurd u.2.2.2 z⟩
        · have hmem : y ∈ (if rd c y0 - 1 = 0 then ins y0 F else F) ↔ y ∈ F := by
            split
            · rw [mem_ins]; exact ⟨fun u => u.resolve_left w, .inr⟩
            · exact Iff.rfl
          rw [hmem, hm y]
          constructor
          · rintro ⟨u1, u2, u3, u4⟩
            exact ⟨u1, u2, u3, by rw [rd_set _ _ _ _ hyr.1 (by omega) u1, if_neg w]; exact u4⟩
          · rintro ⟨u1, u2, u3, u4⟩
            exact ⟨u1, u2, u3, by rw [rd_set _ _ _ _ hyr.1 (by omega) u1, if_neg w] at u4; exact u4⟩
    · have e : ordRelax x (a :: p) (c, F) = ordRelax x p (c, F) := by
        unfold ordRelax
        rw [List.foldl_cons, if_neg q]
      rw [e]
      refine go c F hc (fun y z0 z1 => ?_) hs hm
      rw [hv y z0 z1, cfr_cons, if_neg (fun z => q z.2)]; rfl
theorem Kn.next {N : Nat} {l : List S46} {c F out : List Int} {x : Int} (hl : l.length ≤ 1000000) (ho : Ok N l) (h : Kn N l c (x :: F) out) : Kn N l (ordRelax x l (c, F)).1 (ordRelax x l (c, F)).2 (out ++ [x]) := by
  obtain ⟨x0, x1, xo, xc⟩ := (h.mem x).1 (by simp)
  have hz : ∀ a ∈ l, a.f1 = x → a.f0 ∈ out := cin_zero.1 (by have := h.cnt x x0 x1; omega)
  obtain ⟨hxF, hsF⟩ := List.pairwise_cons.1 h.srt
  have hno : ∀ a ∈ l, a.f0 = x → a.f1 ∉ out ++ [x] := by
    intro a ha e q
    rcases List.mem_append.1 q with q | q
    · exact xo (e ▸ h.cls a ha q)
    · exact xo (e ▸ hz a ha (by simpa using q))
  obtain ⟨r1, r2, r3, r4⟩ := relax_ok (N := N) x (out ++ [x]) (fun y => cin l (out ++ [x]) y) l hl ho hno (fun y => Nat.le_trans (cin_le _ _ _) hl) c F h.len
    (fun y y0 y1 => by rw [h.cnt y y0 y1, cin_push out x y xo l]) hsF (fun y => by
      have := h.mem y
      rw [List.mem_cons] at this
      constructor
      · intro q
        obtain ⟨u1, u2, u3, u4⟩ := this.1 (.inr q)
        refine ⟨u1, u2, ?_, u4⟩
        rw [List.mem_append]
        rintro (w | w)
        · exact u3 w
        · simp at w; have := hxF y q; omega
      · rintro ⟨u1, u2, u3, u4⟩
        rw [List.mem_append] at u3
        rcases this.2 ⟨u1, u2, fun w => u3 (.inl w), u4⟩ with w | w
        · exact absurd (.inr (by simp [w])) u3
        · exact w)
  refine ⟨r1, r2, r3, r4, ?_, ?_, ?_⟩
  · rw [List.nodup_append]
    exact ⟨h.nod, by simp, fun z hz' w hw => by simp at hw; subst hw; exact fun e => xo (e ▸ hz')⟩
  · intro y hy
    rcases List.mem_append.1 hy with q | q
    · exact h.rng y q
    · simp at q; subst q; exact ⟨x0, x1⟩
  · intro i hi a ha e
    by_cases c : i < out.length
    · rw [List.getElem_append_left c] at e
      rw [List.take_append_of_le_length (by omega)]
      exact h.ord i c a ha e
    · have hi2 : i = out.length := by simp at hi; omega
      subst hi2
      rw [List.getElem_append_right (by omega)] at e
      simp at e
      rw [List.take_left]
      exact hz a ha e
theorem ordCnt_rd {N : Nat} : ∀ (l : List S46), Ok N l → ∀ (c : List Int), c.length = N → (∀ y : Int, 0 ≤ y → y < N → 0 ≤ rd c y ∧ rd c y + (l.length : Int) ≤ 1000000) → ∀ y : Int, 0 ≤ y → y < N → rd (ordCnt l c) y = rd c y + (cin l [] y : Nat) := by
  intro l
  induction l with
  | nil => intro _ c _ _ y _ _; simp [ordCnt, cin]
  | cons a l ih =>
    intro ho c hc hv y y0 y1
    have ha := ho a (by simp)
    simp only [List.length_cons] at hv
    have h1 := hv a.f1 ha.2.2.1 ha.2.2.2
    have hw : wrap64 (rd c a.f1 + 1) = rd c a.f1 + 1 := by unfold wrap64; omega
    have hset := fun (z : Int) (z0 : 0 ≤ z) => rd_set c a.f1 (rd c a.f1 + 1) z ha.2.2.1 (by omega) z0
    have e : ordCnt (a :: l) c = ordCnt l (c.set a.f1.toNat (rd c a.f1 + 1)) := by
      unfold ordCnt
      rw [List.foldl_cons, hw]
    rw [e, ih (fun z hz => ho z (by simp [hz])) _ (by simp [hc]) (fun z z0 z1 => by
      rw [hset z z0]
      have := hv z z0 z1
      split
      · rename_i q; subst q; omega
      · omega) y y0 y1, hset y y0]
    unfold cin
    rw [List.countP_cons]
    by_cases q : y = a.f1
    · subst q; simp; omega
    · rw [if_neg q]
      have : ¬ a.f1 = y := fun w => q w.symm
      simp [this]
theorem ordFree_ok (c : List Int) : ∀ (i : Nat), (ordFree i c).Pairwise (· < ·) ∧ ∀ y : Int, y ∈ ordFree i c ↔ (0 ≤ y ∧ y < (i : Int) ∧ rd c y = 0) := by
  intro i
  induction i with
  | zero => exact ⟨List.Pairwise.nil, fun y => by simp [ordFree]; omega⟩
  | succ i ih =>
    obtain ⟨h1, h2⟩ := ih
    unfold ordFree
    have hni : (i : Int) ∉ ordFree i c := fun q => by have := (h2 _).1 q; omega
    by_cases q : rd c i = 0
    · rw [if_pos q]
      refine ⟨ins_lt h1 hni, fun y => ?_⟩
      rw [mem_ins, h2]
      constructor
      · rintro (rfl | ⟨u1, u2, u3⟩)
        · exact ⟨by omega, by omega, q⟩
        · exact ⟨u1, by omega, u3⟩
      · rintro ⟨u1, u2, u3⟩
        by_cases w : y = i
        · exact .inl w
        · exact .inr ⟨u1, by omega, u3⟩
    · rw [if_neg q]
      refine ⟨h1, fun y => ?_⟩
      rw [h2]
      constructor
      · rintro ⟨u1, u2, u3⟩; exact ⟨u1, by omega, u3⟩
      · rintro ⟨u1, u2, u3⟩
        by_cases w : y = i
        · subst w; exact absurd u3 q
        · exact ⟨u1, by omega, u3⟩
theorem Kn.zero {N : Nat} {l : List S46} (hl : l.length ≤ 100000) (ho : Ok N l) : Kn N l (ordCnt l (List.replicate N 0)) (ordFree N (ordCnt l (List.replicate N 0))) [] := by
  have hr : ∀ y : Int, rd (List.replicate N 0) y = 0 := by
    intro y
    unfold rd
    rw [List.getD_eq_getElem?_getD, List.getElem?_replicate]
    split <;> rfl
  have hc := fun (y : Int) y0 y1 => ordCnt_rd l ho (List.replicate N 0) (by simp) (fun z _ _ => by rw [hr]; omega) y y0 y1
  obtain ⟨f1, f2⟩ := ordFree_ok (ordCnt l (List.replicate N 0)) N
  refine ⟨by rw [ordCnt_length]; simp, fun y y0 y1 => by rw [hc y y0 y1, hr]; omega, f1, fun y => ?_, List.nodup_nil, by simp, fun i h => by simp at h⟩
  rw [f2]
  simp
theorem rdOf_set' (L : List Bool) (i : Nat) (v : Bool) (y : Int) (h1 : i < L.length) (hy : 0 ≤ y) : rdOf false (L.set i v) y = if y = i then v else rdOf false L y := by
  unfold rdOf
  rw [List.getD_eq_getElem?_getD, List.getD_eq_getElem?_getD, List.getElem?_set]
  by_cases c : y = i
  · subst c; rw [if_pos rfl, if_pos (by omega), if_pos h1]; rfl
  · rw [if_neg (by omega), if_neg c]
/-! The reference: the least free node is next. -/
def Fre (N : Nat) (l : List S46) (out : List Int) (y : Int) : Prop := 0 ≤ y ∧ y < N ∧ y ∉ out ∧ ∀ a ∈ l, a.f1 = y → a.f0 ∈ out
structure Dn (N : Nat) (D : List Bool) (out : List Int) : Prop where
  len : D.length = N
  val : ∀ y : Int, 0 ≤ y → y < N → (rdOf false D y = true ↔ y ∈ out)
theorem ro_l2 {N : Nat} (hN : N ≤ 1000) (l : List S46) (hl : l.length ≤ 1000000) (ho : Ok N l) (D : List Bool) (hD : D.length = N) (o : List Int) (m z : Int) (r : List Int × Int) : ∀ (e i : Nat), l.length - i = e → i ≤ l.length → ∀ (b : Bool),
    Ev (fun k => dancestudioref09_Order.l1 k D o (if (b && (l.drop i).all (fun a => !decide (a.f1 = z) || rdOf false D a.f0)) = true then z else m) (wrap64 (z + 1)) (N : Int) l) r →
    Ev (fun k => dancestudioref09_Order.l2 k D o m z b (i : Int) (N : Int) l) r := by
  intro e
  induction e with
  | zero =>
    intro i he hi b h
    rw [List.drop_eq_nil_of_le (by omega)] at h
    simp only [List.all_nil, Bool.and_true] at h
    refine Ev.step (fun k => ?_) h
    simp only [dancestudioref09_Order.l2]
    rw [if_neg (by omega)]
    cases b <;> simp
  | succ e ih =>
    intro i he hi b h
    have hlt : i < l.length := by omega
    have ha := ho l[i] (List.getElem_mem _)
    rw [List.drop_eq_getElem_cons hlt, List.all_cons, ← Bool.and_assoc] at h
    have hn := ih (i + 1) (by omega) (by omega) _ h
    refine Ev.step (fun k => ?_) hn
    simp only [dancestudioref09_Order.l2]
    rw [if_pos (by omega), w64 (by omega), rdT l i hlt]
    cases b with
    | false => simp
    | true =>
      rw [if_pos rfl, if_pos (by omega)]
      by_cases c : l[i].f1 = z
      · rw [if_pos c, if_pos ha.1, if_pos (by omega)]
        simp [c]
      · rw [if_neg c]
        simp [c]
theorem fre_iff {N : Nat} {l : List S46} {D : List Bool} {out : List Int} (ho : Ok N l) (hD : Dn N D out) {z : Int} (z0 : 0 ≤ z) (z1 : z < N) : (!(rdOf false D z) && l.all (fun a => !decide (a.f1 = z) || rdOf false D a.f0)) = true ↔ Fre N l out z := by
  unfold Fre
  rw [Bool.and_eq_true, List.all_eq_true]
  constructor
  · rintro ⟨h1, h2⟩
    refine ⟨z0, z1, fun q => ?_, fun a ha e => ?_⟩
    · rw [(hD.val z z0 z1).2 q] at h1; simp at h1
    · have := h2 a ha
      have hr := ho a ha
      exact (hD.val a.f0 hr.1 hr.2.1).1 (by simpa [e] using this)
  · rintro ⟨_, _, h1, h2⟩
    refine ⟨?_, fun a ha => ?_⟩
    · cases h : rdOf false D z with
      | false => rfl
      | true => exact absurd ((hD.val z z0 z1).1 h) h1
    · by_cases e : a.f1 = z
      · have hr := ho a ha
        rw [(hD.val a.f0 hr.1 hr.2.1).2 (h2 a ha e)]
        simp
      · simp [e]
theorem ro_l1 {N : Nat} (hN : N ≤ 1000) (l : List S46) (hl : l.length ≤ 1000000) (ho : Ok N l) (D : List Bool) (o : List Int) (hD : Dn N D o) (r : List Int × Int) (i : Nat) (hi : i < N)
    (h1 : Fre N l o i → Ev (fun k => dancestudioref09_Order.l1 k D o (i : Int) ((i + 1 : Nat) : Int) (N : Int) l) r)
    (h2 : ¬ Fre N l o i → Ev (fun k => dancestudioref09_Order.l1 k D o (-1) ((i + 1 : Nat) : Int) (N : Int) l) r) :
    Ev (fun k => dancestudioref09_Order.l1 k D o (-1) (i : Int) (N : Int) l) r := by
  have hf := fre_iff ho hD (z := (i : Int)) (by omega) (by omega)
  have hE := ro_l2 hN l hl ho D hD.len o (-1) (i : Int) r l.length 0 (by omega) (by omega) (!(rdOf false D i)) (by
    rw [List.drop_zero, w64 (by omega)]
    by_cases c : Fre N l o i
    · rw [if_pos (hf.2 c)]; exact h1 c
    · rw [if_neg (fun q => c (hf.1 q))]; exact h2 c)
  refine Ev.step (f := fun k => dancestudioref09_Order.j2 k D o (-1) (i : Int) true (N : Int) l) (fun k => ?_) (Ev.step (fun k => ?_) hE)
  · simp only [dancestudioref09_Order.l1]
    rw [if_pos (by omega)]
    rfl
  · simp only [dancestudioref09_Order.j2]
    rw [if_pos trivial, if_pos (by omega), if_pos (by have := hD.len; omega)]
    rfl
theorem ro_none {N : Nat} (hN : N ≤ 1000) (l : List S46) (hl : l.length ≤ 1000000) (ho : Ok N l) (D : List Bool) (o : List Int) (hD : Dn N D o) (hf : ∀ y, ¬ Fre N l o y) : ∀ (e i : Nat), N - i = e → i ≤ N → Ev (fun k => dancestudioref09_Order.l1 k D o (-1) (i : Int) (N : Int) l) ([], 15) := by
  intro e
  induction e with
  | zero =>
    intro i he hi
    refine Ev.step (f := fun k => dancestudioref09_Order.j2 k D o (-1) (i : Int) false (N : Int) l) (fun k => ?_) (Ev.step (f := fun _ => some ([], 15)) (fun k => ?_) (Ev.now _))
    · simp only [dancestudioref09_Order.l1]
      rw [if_neg (by omega)]
    · simp only [dancestudioref09_Order.j2]
      rw [if_neg (by simp), if_pos (by omega)]
  | succ e ih =>
    intro i he hi
    exact ro_l1 hN l hl ho D o hD _ i (by omega) (fun q => absurd q (hf _)) (fun _ => ih (i + 1) (by omega) (by omega))
theorem ro_some {N : Nat} (hN : N ≤ 1000) (l : List S46) (hl : l.length ≤ 1000000) (ho : Ok N l) (D : List Bool) (o : List Int) (hD : Dn N D o) (hol : o.length ≤ 100000) (z : Nat) (hz : z < N) (hf : Fre N l o z) (hm : ∀ y, Fre N l o y → (z : Int) ≤ y) (r : List Int × Int)
    (h : Ev (fun k => dancestudioref09_Order.l0 k (D.set z true) (o ++ [(z : Int)]) (N : Int) l) r) : ∀ (e i : Nat), z - i = e → i ≤ z → Ev (fun k => dancestudioref09_Order.l1 k D o (-1) (i : Int) (N : Int) l) r := by
  intro e
  induction e with
  | zero =>
    intro i he hi
    have : i = z := by omega
    subst this
    refine ro_l1 hN l hl ho D o hD _ i (by omega) (fun _ => ?_) (fun q => absurd hf q)
    refine Ev.step (f := fun k => dancestudioref09_Order.j2 k D o (i : Int) ((i + 1 : Nat) : Int) false (N : Int) l) (fun k => ?_) (Ev.step (fun k => ?_) h)
    · simp only [dancestudioref09_Order.l1]
      by_cases c : ((i + 1 : Nat) : Int) < (N : Int)
      · rw [if_pos c, decide_eq_false (by omega)]
      · rw [if_neg c]
    · simp only [dancestudioref09_Order.j2]
      rw [if_neg (by simp), if_neg (by omega), if_pos (by omega), if_pos (by have := hD.len; omega), if_pos (by omega), Int.toNat_natCast]
  | succ e ih =>
    intro i he hi
    exact ro_l1 hN l hl ho D o hD _ i (by omega) (fun q => by have := hm _ q; omega) (fun _ => ih (i + 1) (by omega) (by omega))
theorem Kn.fre {N : Nat} {l : List S46} {c F out : List Int} (h : Kn N l c F out) (y : Int) : y ∈ F ↔ Fre N l out y := by
  rw [h.mem]
  unfold Fre
  constructor
  · rintro ⟨y0, y1, q, e⟩
    exact ⟨y0, y1, q, cin_zero.1 (by have := h.cnt y y0 y1; omega)⟩
  · rintro ⟨y0, y1, q, e⟩
    exact ⟨y0, y1, q, by rw [h.cnt y y0 y1, cin_zero.2 e]; rfl⟩
/-- What Order answers. -/
def OrdIs (N : Nat) (l : List S46) (r : List Int × Int) : Prop := ∃ c out, Kn N l c [] out ∧ r = if (out.length : Int) < N then ([], 15) else (out, 0)
theorem order_go {N : Nat} (hN : N ≤ 64) (l : List S46) (hl : l.length ≤ 512) (ho : Ok N l) : ∀ (e : Nat) (c F out : List Int) (D : List Bool) (k : Nat), N - out.length = e → Kn N l c F out → Dn N D out → e < k →
    ∃ out' c', Kn N l c' [] out' ∧ ordGo k l c F out = some out' ∧ Ev (fun k => dancestudioref09_Order.l0 k D out (N : Int) l) (if (out'.length : Int) < N then ([], 15) else (out', 0)) := by
  intro e
  induction e with
  | zero =>
    intro c F out D k he h hD hk
    obtain ⟨k, rfl⟩ : ∃ j, k = j + 1 := ⟨k - 1, by omega⟩
    have hF : F = [] := by
      cases F with
      | nil => rfl
      | cons x F =>
        obtain ⟨x0, x1, xo, _⟩ := (h.mem x).1 (by simp)
        have := pigeon N (x :: out) (List.nodup_cons.2 ⟨xo, h.nod⟩) (fun y hy => by
          rcases List.mem_cons.1 hy with rfl | q
          · exact ⟨x0, x1⟩
          · exact h.rng y q)
        simp at this; omega
    subst hF
    refine ⟨out, c, h, rfl, ?_⟩
    rw [if_neg (by omega)]
    refine Ev.step (f := fun _ => some (out, 0)) (fun k => ?_) (Ev.now _)
    simp only [dancestudioref09_Order.l0]
    rw [if_neg (by omega)]
  | succ e ih =>
    intro c F out D k he h hD hk
    obtain ⟨k, rfl⟩ : ∃ j, k = j + 1 := ⟨k - 1, by omega⟩
    cases F with
    | nil =>
      refine ⟨out, c, h, rfl, ?_⟩
      rw [if_pos (by omega)]
      refine Ev.step (f := fun k => dancestudioref09_Order.l1 k D out (-1) 0 (N : Int) l) (fun k => ?_) (ro_none (by omega) l (by omega) ho D out hD (fun y q => by simpa using (h.fre y).2 q) N 0 (by omega) (by omega))
      simp only [dancestudioref09_Order.l0]
      rw [if_pos (by omega)]
    | cons x F =>
      obtain ⟨x0, x1, xo, _⟩ := (h.mem x).1 (by simp)
      have hn := h.next (by omega) ho
      obtain ⟨z, rfl⟩ := Int.eq_ofNat_of_zero_le x0
      have hD2 : Dn N (D.set z true) (out ++ [(z : Int)]) := by
        refine ⟨by simp [hD.len], fun y y0 y1 => ?_⟩
        have := rdOf_set' D z true y (by rw [hD.len]; omega) y0
        rw [this, List.mem_append]
        split
        · rename_i q; subst q; simp
        · rename_i q
          rw [hD.val y y0 y1]
          exact ⟨.inl, fun w => w.elim id (fun w => absurd (by simpa using w) q)⟩
      obtain ⟨out', c', r1, r2, r3⟩ := ih _ _ _ _ k (by simp only [List.length_append, List.length_cons, List.length_nil]; omega) hn hD2 (by omega)
      have hFl : (((z : Int) :: F)).length ≤ N := pigeon N _ (h.srt.imp (fun q e => by omega)) (fun y hy => by
        obtain ⟨u1, u2, _⟩ := (h.mem y).1 hy
        exact ⟨u1, u2⟩)
      refine ⟨out', c', r1, ?_, ?_⟩
      · show (if _ ≤ 80000 then (if out.length ≤ 80000 then _ else none) else none) = _
        rw [if_pos (by omega), if_pos (by omega)]
        exact r2
      · have hz : z < N := by omega
        refine Ev.step (f := fun k => dancestudioref09_Order.l1 k D out (-1) 0 (N : Int) l) (fun k => ?_) (ro_some (by omega) l (by omega) ho D out hD (by omega) z hz ((h.fre _).1 (by simp)) (fun y q => ?_) _ r3 z 0 (by omega) (by omega))
        · simp only [dancestudioref09_Order.l0]
          rw [if_pos (by omega)]
        · rcases List.mem_cons.1 ((h.fre y).2 q) with w | w
          · omega
          · have := (List.pairwise_cons.1 h.srt).1 y w; omega
theorem order_ev {n : Int} {l : List S46} {N : Nat} (hn : n = N) (hN : N ≤ 64) (hl : l.length ≤ 512) (ho : Ok N l) (hz : gchk n l = 0) :
    ∃ r, OrdIs N l r ∧ graph_order n l = some r ∧ Ev (fun k => dancestudioref09_Order.f k n l) r := by
  subst hn
  obtain ⟨out, c, h1, h2, h3⟩ := order_go hN l hl ho N _ _ [] (List.replicate N false) 100 (by simp) (Kn.zero (by omega) ho) ⟨by simp, fun y y0 y1 => by simp only [rdOf, List.getD_eq_getElem?_getD, List.getElem?_replicate]; split <;> simp⟩ (by omega)
  refine ⟨_, ⟨c, out, h1, rfl⟩, ?_, ?_⟩
  · unfold graph_order
    rw [if_pos hz, Int.toNat_natCast, h2]
    simp only [Option.bind_some]
    split <;> rfl
  · unfold dancestudioref09_Order.f
    refine Ev.bind (rchk_ev (N : Int) l) ?_
    refine Ev.congr (fun k => ?_) h3
    rw [if_pos hz, if_pos (by omega), Int.toNat_natCast, if_pos (by omega)]
theorem order_bad {n : Int} {l : List S46} (h : gchk n l ≠ 0) : graph_order n l = some ([], gchk n l) ∧ Ev (fun k => dancestudioref09_Order.f k n l) ([], gchk n l) := by
  constructor
  · unfold graph_order; rw [if_neg h]
  · unfold dancestudioref09_Order.f
    refine Ev.bind (rchk_ev n l) ?_
    exact Ev.congr (f := fun _ => some ([], gchk n l)) (fun k => by rw [if_neg h]) (Ev.now _)
end Go.Proofs.Ytlbkbodadkhogaa.Pure
