/- The plain laws of graphs, B: walks, distances, waves. -/
import Derived.Test.YtlbkbodadkhogaaPa
namespace Go.Proofs.Ytlbkbodadkhogaa.Pure
open Go.RowKit Go.Proofs.Ytlbkbodadkhogaa.X Go.Proofs.YtlbkbodadkhogaaW.PrintWords
set_option linter.unusedVariables false
def frm (b : Bool) (a : S46) : Int := if b = true then a.f1 else a.f0
def tow (b : Bool) (a : S46) : Int := if b = true then a.f0 else a.f1
/-- An arc (backwards if b is set) leads from x to y. -/
def Ed (l : List S46) (b : Bool) (x y : Int) : Prop := ∃ a ∈ l, frm b a = x ∧ tow b a = y
/-- A walk of d arcs leads from s to y. -/
def Wk (l : List S46) (b : Bool) (s : Int) : Nat → Int → Prop
  | 0, y => y = s
  | d + 1, y => ∃ x, Wk l b s d x ∧ Ed l b x y
/-- The shortest walk from s to y has d arcs. -/
def Fst (l : List S46) (b : Bool) (s : Int) (d : Nat) (y : Int) : Prop := Wk l b s d y ∧ ∀ e, e < d → ¬ Wk l b s e y
/-- v tells how far y is: -1 if no walk leads there. -/
def IsD (l : List S46) (b : Bool) (s y v : Int) : Prop := (v = -1 ∧ ∀ d, ¬ Wk l b s d y) ∨ (∃ d : Nat, v = (d : Int) ∧ Fst l b s d y)
def Ok (N : Nat) (l : List S46) : Prop := ∀ a ∈ l, 0 ≤ a.f0 ∧ a.f0 < (N : Int) ∧ 0 ≤ a.f1 ∧ a.f1 < (N : Int)
section
variable {l : List S46} {b : Bool} {s : Int} {N : Nat}
theorem Fst.eq {d e : Nat} {y : Int} (h : Fst l b s d y) (k : Fst l b s e y) : d = e := by
  rcases Nat.lt_trichotomy d e with q | q | q
  · exact absurd h.1 (k.2 d q)
  · exact q
  · exact absurd k.1 (h.2 e q)
theorem IsD.eq {y v w : Int} (h : IsD l b s y v) (k : IsD l b s y w) : v = w := by
  rcases h with ⟨h1, h2⟩ | ⟨d, h1, h2⟩ <;> rcases k with ⟨k1, k2⟩ | ⟨e, k1, k2⟩
  · rw [h1, k1]
  · exact absurd k2.1 (h2 e)
  · exact absurd h2.1 (k2 d)
  · rw [h1, k1, h2.eq k2]
theorem Ed.range (h : Ok N l) {x y : Int} (e : Ed l b x y) : (0 ≤ x ∧ x < N) ∧ (0 ≤ y ∧ y < N) := by
  obtain ⟨a, ha, e1, e2⟩ := e
  have := h a ha
  unfold frm at e1
  unfold tow at e2
  cases b <;> simp at e1 e2 <;> omega
theorem Wk.range (h : Ok N l) (hs : 0 ≤ s ∧ s < N) : ∀ {d : Nat} {y : Int}, Wk l b s d y → 0 ≤ y ∧ y < N := by
  intro d y w
  cases d with
  | zero => cases w; exact hs
  | succ d => obtain ⟨x, _, e⟩ := w; exact (e.range h).2
theorem Fst.pred {d : Nat} {y : Int} (h : Fst l b s (d + 1) y) : ∃ x, Fst l b s d x ∧ Ed l b x y := by
  obtain ⟨⟨x, w, e⟩, h2⟩ := h
  exact ⟨x, ⟨w, fun j hj q => h2 (j + 1) (by omega) ⟨x, q, e⟩⟩, e⟩
theorem first_of {d : Nat} {y : Int} (h : Wk l b s d y) : ∃ e, e ≤ d ∧ Fst l b s e y := by
  induction d using Nat.strongRecOn with
  | ind d ih =>
    by_cases c : ∃ e, e < d ∧ Wk l b s e y
    · obtain ⟨e, he, w⟩ := c
      obtain ⟨j, hj, f⟩ := ih e he w
      exact ⟨j, by omega, f⟩
    · exact ⟨d, Nat.le_refl _, h, fun e he w => c ⟨e, he, w⟩⟩
theorem Fst.down {d : Nat} : ∀ {j : Nat} {y : Int}, Fst l b s (d + j) y → ∃ z, Fst l b s d z := by
  intro j
  induction j with
  | zero => intro y h; exact ⟨y, h⟩
  | succ j ih => intro y h; obtain ⟨x, hx, _⟩ := Fst.pred (d := d + j) h; exact ih hx
/-- Distinct numbers from 0 to N-1 are at most N. -/
theorem pigeon : ∀ (N : Nat) (L : List Int), L.Nodup → (∀ x ∈ L, 0 ≤ x ∧ x < (N : Int)) → L.length ≤ N := by
  intro N
  induction N with
  | zero =>
    intro L _ h
    cases L with
    | nil => simp
    | cons x L => have := h x (by simp); omega
  | succ N ih =>
    intro L hn h
    have h1 := ih (L.filter (fun x => x ≠ (N : Int))) (hn.filter _) (fun x hx => by
      have hx' := List.mem_filter.1 hx
      have := h x hx'.1
      have hne : x ≠ (N : Int) := by simpa using hx'.2
      omega)
    have h2 : L.length ≤ (L.filter (fun x => x ≠ (N : Int))).length + 1 := by
      clear ih h h1
      induction L with
      | nil => simp
      | cons x L ih =>
        rw [List.nodup_cons] at hn
        by_cases c : x = (N : Int)
        · have hL : L.filter (fun x => x ≠ (N : Int)) = L := List.filter_eq_self.2 (fun z hz => by
            have : z ≠ (N : Int) := fun e => hn.1 (by rw [c, ← e]; exact hz)
            simpa using this)
          rw [List.filter_cons_of_neg (by simp [c]), hL]
          simp
        · rw [List.filter_cons_of_pos (by simpa using c)]
          have := ih hn.2
          simp only [List.length_cons]
          omega
    omega
theorem Fst.layers (h : Ok N l) (hs : 0 ≤ s ∧ s < N) : ∀ {d : Nat} {y : Int}, Fst l b s d y → ∃ L : List Int, L.length = d + 1 ∧ L.Nodup ∧ (∀ x ∈ L, 0 ≤ x ∧ x < (N : Int)) ∧ (∀ x ∈ L, ∃ e, e ≤ d ∧ Fst l b s e x) := by
  intro d
  induction d with
  | zero =>
    intro y f
    refine ⟨[y], rfl, by simp, ?_, ?_⟩
    · intro x hx; simp at hx; subst hx; exact f.1.range h hs
    · intro x hx; simp at hx; subst hx; exact ⟨0, Nat.le_refl _, f⟩
  | succ d ih =>
    intro y f
    obtain ⟨x, fx, _⟩ := f.pred
    obtain ⟨L, l1, l2, l3, l4⟩ := ih fx
    refine ⟨y :: L, by simp [l1], List.nodup_cons.2 ⟨fun hy => ?_, l2⟩, ?_, ?_⟩
    · obtain ⟨e, he, fe⟩ := l4 y hy
      have := f.eq fe
      omega
    · intro z hz
      rcases List.mem_cons.1 hz with rfl | hz
      · exact f.1.range h hs
      · exact l3 z hz
    · intro z hz
      rcases List.mem_cons.1 hz with rfl | hz
      · exact ⟨d + 1, Nat.le_refl _, f⟩
      · obtain ⟨e, he, fe⟩ := l4 z hz
        exact ⟨e, by omega, fe⟩
/-- No shortest walk has as many arcs as there are nodes. -/
theorem Fst.lt (h : Ok N l) (hs : 0 ≤ s ∧ s < N) {d : Nat} {y : Int} (f : Fst l b s d y) : d < N := by
  obtain ⟨L, l1, l2, l3, _⟩ := f.layers h hs
  have := pigeon N L l2 l3
  omega
end
/-! The waves. -/
/-- One arc: y is new. -/
def wst (b : Bool) (x : Int) (s : List Int × List Int) (a : S46) : List Int × List Int :=
  if frm b a = x then (if rd s.1 (tow b a) < 0 then (s.1.set (tow b a).toNat (rd s.1 x + 1), s.2 ++ [tow b a]) else s) else s
/-- What is known within a round: D tells which nodes an arc has been seen to from the wave. -/
structure Jn (N : Nat) (d : Nat) (far0 : List Int) (D : Int → Prop) (s : List Int × List Int) : Prop where
  len : s.1.length = N
  old : ∀ y : Int, 0 ≤ y → y < N → 0 ≤ rd far0 y → rd s.1 y = rd far0 y
  new : ∀ y : Int, 0 ≤ y → y < N → rd far0 y < 0 → (rd s.1 y = (d : Int) + 1 ∧ D y ∧ y ∈ s.2) ∨ (rd s.1 y = -1 ∧ ¬ D y ∧ y ∉ s.2)
  sub : ∀ y ∈ s.2, 0 ≤ y ∧ y < N ∧ rd far0 y < 0
  cnt : s.2.length ≤ N ∧ s.2.Nodup
theorem rd_set (L : List Int) (i : Int) (v y : Int) (h0 : 0 ≤ i) (h1 : i < L.length) (hy : 0 ≤ y) : rd (L.set i.toNat v) y = if y = i then v else rd L y := by
  unfold rd
  rw [List.getD_eq_getElem?_getD, List.getD_eq_getElem?_getD, List.getElem?_set]
  by_cases c : y = i
  · subst c; rw [if_pos rfl, if_pos (by omega), if_pos rfl]; rfl
  · rw [if_neg (by omega), if_neg c]
theorem Jn.step {N d : Nat} {far0 : List Int} {D : Int → Prop} {s : List Int × List Int} (h : Jn N d far0 D s) (b : Bool) (x : Int) (a : S46) (hx : 0 ≤ x ∧ x < N) (hd : rd far0 x = d) (ha : 0 ≤ tow b a ∧ tow b a < N) :
    Jn N d far0 (fun y => D y ∨ (frm b a = x ∧ tow b a = y)) (wst b x s a) := by
  unfold wst
  by_cases c : frm b a = x
  · rw [if_pos c]
    have hxd : rd s.1 x = d := by rw [h.old x hx.1 hx.2 (by omega), hd]
    obtain ⟨y, hy⟩ : ∃ y, y = tow b a := ⟨_, rfl⟩
    rw [← hy] at ha ⊢
    by_cases e : rd s.1 y < 0
    · rw [if_pos e, hxd]
      have hf : rd far0 y < 0 := by
        rcases Classical.em (rd far0 y < 0) with q | q
        · exact q
        · have := h.old y ha.1 ha.2 (by omega); omega
      have hny : y ∉ s.2 := by
        rcases h.new y ha.1 ha.2 hf with q | q
        · omega
        · exact q.2.2
      have hnd : (s.2 ++ [y]).Nodup := by
        rw [List.nodup_append]
        refine ⟨h.cnt.2, by simp, fun z hz w hw => ?_⟩
        simp at hw; subst hw
        exact fun q => hny (q ▸ hz)
      have hsub : ∀ z ∈ s.2 ++ [y], 0 ≤ z ∧ z < N ∧ rd far0 z < 0 := by
        intro z hz
        rcases List.mem_append.1 hz with q | q
        · exact h.sub z q
        · simp at q; subst q; exact ⟨ha.1, ha.2, hf⟩
      refine ⟨by simp [h.len], fun z z0 z1 hz => ?_, fun z z0 z1 hz => ?_, hsub, pigeon N _ hnd (fun z hz => ⟨(hsub z hz).1, (hsub z hz).2.1⟩), hnd⟩
      · rw [rd_set _ _ _ _ ha.1 (by rw [h.len]; exact ha.2) z0]
        rw [if_neg (by rintro rfl; omega)]
        exact h.old z z0 z1 hz
      · rw [rd_set _ _ _ _ ha.1 (by rw [h.len]; exact ha.2) z0]
        by_cases q : z = y
        · subst q
          rw [if_pos rfl]
          exact .inl ⟨rfl, .inr ⟨c, rfl⟩, by simp⟩
        · rw [if_neg q]
          rcases h.new z z0 z1 hz with ⟨r1, r2, r3⟩ | ⟨r1, r2, r3⟩
          · exact .inl ⟨r1, .inl r2, by simp [r3]⟩
          · exact .inr ⟨r1, fun w => w.elim r2 (fun w => q w.2.symm), by simp [r3, q]⟩
    · rw [if_neg e]
      refine ⟨h.len, h.old, fun z z0 z1 hz => ?_, h.sub, h.cnt⟩
      rcases h.new z z0 z1 hz with ⟨r1, r2, r3⟩ | ⟨r1, r2, r3⟩
      · exact .inl ⟨r1, .inl r2, r3⟩
      · refine .inr ⟨r1, fun w => w.elim r2 (fun w => ?_), r3⟩
        rw [w.2] at e; omega
  · rw [if_neg c]
    refine ⟨h.len, h.old, fun z z0 z1 hz => ?_, h.sub, h.cnt⟩
    rcases h.new z z0 z1 hz with ⟨r1, r2, r3⟩ | ⟨r1, r2, r3⟩
    · exact .inl ⟨r1, .inl r2, r3⟩
    · exact .inr ⟨r1, fun w => w.elim r2 (fun w => c w.1), r3⟩
theorem Jn.imp {N d : Nat} {far0 : List Int} {D E : Int → Prop} {s : List Int × List Int} (h : Jn N d far0 D s) (e : ∀ y, D y ↔ E y) : Jn N d far0 E s :=
  ⟨h.len, h.old, fun z z0 z1 hz => (h.new z z0 z1 hz).imp (fun q => ⟨q.1, (e z).1 q.2.1, q.2.2⟩) (fun q => ⟨q.1, fun w => q.2.1 ((e z).2 w), q.2.2⟩), h.sub, h.cnt⟩
/-- One node of the wave. -/
def wnd (b : Bool) (l : List S46) (s : List Int × List Int) (x : Int) : List Int × List Int := l.foldl (wst b x) s
theorem Jn.node {N d : Nat} {far0 : List Int} (b : Bool) (x : Int) (hx : 0 ≤ x ∧ x < N) (hd : rd far0 x = d) : ∀ (l : List S46), (∀ a ∈ l, 0 ≤ tow b a ∧ tow b a < N) → ∀ {D : Int → Prop} {s : List Int × List Int}, Jn N d far0 D s → Jn N d far0 (fun y => D y ∨ Ed l b x y) (wnd b l s x) := by
  intro l
  induction l with
  | nil => intro _ D s h; exact h.imp (fun y => ⟨.inl, fun q => q.elim id (fun ⟨a, ha, _⟩ => by simp at ha)⟩)
  | cons a l ih =>
    intro hl D s h
    have h1 := h.step b x a hx hd (hl a (by simp))
    refine (ih (fun z hz => hl z (by simp [hz])) h1).imp (fun y => ⟨fun q => ?_, fun q => ?_⟩)
    · rcases q with (q | q) | ⟨z, hz, q⟩
      · exact .inl q
      · exact .inr ⟨a, by simp, q⟩
      · exact .inr ⟨z, by simp [hz], q⟩
    · rcases q with q | ⟨z, hz, q⟩
      · exact .inl (.inl q)
      · rcases List.mem_cons.1 hz with rfl | hz
        · exact .inl (.inr q)
        · exact .inr ⟨z, hz, q⟩
theorem Jn.wave {N d : Nat} {far0 : List Int} (b : Bool) (l : List S46) (hl : ∀ a ∈ l, 0 ≤ tow b a ∧ tow b a < N) : ∀ (w : List Int), (∀ x ∈ w, (0 ≤ x ∧ x < N) ∧ rd far0 x = d) → ∀ {D : Int → Prop} {s : List Int × List Int}, Jn N d far0 D s → Jn N d far0 (fun y => D y ∨ ∃ x ∈ w, Ed l b x y) (w.foldl (wnd b l) s) := by
  intro w
  induction w with
  | nil => intro _ D s h; exact h.imp (fun y => ⟨.inl, fun q => q.elim id (fun ⟨a, ha, _⟩ => by simp at ha)⟩)
  | cons x w ih =>
    intro hw D s h
    obtain ⟨h1, h2⟩ := hw x (by simp)
    refine (ih (fun z hz => hw z (by simp [hz])) (Jn.node b x h1 h2 l hl h)).imp (fun y => ⟨fun q => ?_, fun q => ?_⟩)
    · rcases q with (q | q) | ⟨z, hz, q⟩
      · exact .inl q
      · exact .inr ⟨x, by simp, q⟩
      · exact .inr ⟨z, by simp [hz], q⟩
    · rcases q with q | ⟨z, hz, q⟩
      · exact .inl (.inl q)
      · rcases List.mem_cons.1 hz with rfl | hz
        · exact .inl (.inr q)
        · exact .inr ⟨z, hz, q⟩
/-- At the head of a round. -/
structure In (N : Nat) (l : List S46) (b : Bool) (s : Int) (d : Nat) (far wave : List Int) : Prop where
  len : far.length = N
  val : ∀ y : Int, 0 ≤ y → y < N → (∃ e : Nat, e ≤ d ∧ rd far y = e ∧ Fst l b s e y) ∨ (rd far y = -1 ∧ ∀ e, e ≤ d → ¬ Wk l b s e y)
  wav : ∀ y : Int, y ∈ wave ↔ (0 ≤ y ∧ y < N ∧ Fst l b s d y)
  cnt : wave.length ≤ N
theorem In.next_of {N : Nat} {l : List S46} {b : Bool} {s : Int} {d : Nat} {far wave : List Int} (ho : Ok N l) (hs : 0 ≤ s ∧ s < N) (h : In N l b s d far wave) {S : List Int × List Int} (hj : Jn N d far (fun y => False ∨ ∃ x ∈ wave, Ed l b x y) S) :
    In N l b s (d + 1) S.1 S.2 := by
  have hD : ∀ y, (∀ e, e ≤ d → ¬ Wk l b s e y) → ((False ∨ ∃ x ∈ wave, Ed l b x y) ↔ Wk l b s (d + 1) y) := by
    intro y hy
    constructor
    · rintro (q | ⟨x, hx, e⟩)
      · exact q.elim
      · exact ⟨x, ((h.wav x).1 hx).2.2.1, e⟩
    · rintro ⟨x, w, e⟩
      refine .inr ⟨x, (h.wav x).2 ?_, e⟩
      have hr := w.range ho hs
      exact ⟨hr.1, hr.2, w, fun j hj q => hy (j + 1) (by omega) ⟨x, q, e⟩⟩
  have hneg : ∀ y : Int, 0 ≤ y → y < N → rd far y < 0 → rd far y = -1 ∧ ∀ e, e ≤ d → ¬ Wk l b s e y := by
    intro y y0 y1 hy
    rcases h.val y y0 y1 with ⟨e, he, h1, h2⟩ | q
    · omega
    · exact q
  refine ⟨hj.len, fun y y0 y1 => ?_, fun y => ⟨fun hy => ?_, fun hy => ?_⟩, hj.cnt.1⟩
  · rcases h.val y y0 y1 with ⟨e, he, h1, h2⟩ | ⟨h1, h2⟩
    · exact .inl ⟨e, by omega, by rw [hj.old y y0 y1 (by omega)]; exact h1, h2⟩
    · rcases hj.new y y0 y1 (by omega) with ⟨r1, r2, _⟩ | ⟨r1, r2, _⟩
      · refine .inl ⟨d + 1, Nat.le_refl _, by rw [r1]; omega, (hD y h2).1 r2, fun e he => h2 e (by omega)⟩
      · refine .inr ⟨r1, fun e he q => ?_⟩
        rcases Nat.lt_or_ge d e with c | c
        · have : e = d + 1 := by omega
          subst this
          exact r2 ((hD y h2).2 q)
        · exact h2 e c q
  · obtain ⟨y0, y1, hf⟩ := hj.sub y hy
    obtain ⟨h1, h2⟩ := hneg y y0 y1 hf
    rcases hj.new y y0 y1 hf with ⟨_, r2, _⟩ | ⟨_, _, r3⟩
    · exact ⟨y0, y1, (hD y h2).1 r2, fun e he => h2 e (by omega)⟩
    · exact absurd hy r3
  · obtain ⟨y0, y1, f⟩ := hy
    have hf : rd far y < 0 := by
      rcases h.val y y0 y1 with ⟨e, he, h1, h2⟩ | ⟨h1, h2⟩
      · have := h2.eq f; omega
      · omega
    obtain ⟨h1, h2⟩ := hneg y y0 y1 hf
    rcases hj.new y y0 y1 hf with ⟨_, _, r3⟩ | ⟨_, r2, _⟩
    · exact r3
    · exact absurd ((hD y h2).2 f.1) r2
theorem In.next {N : Nat} {l : List S46} {b : Bool} {s : Int} {d : Nat} {far wave : List Int} (ho : Ok N l) (hs : 0 ≤ s ∧ s < N) (h : In N l b s d far wave) :
    In N l b s (d + 1) (wave.foldl (wnd b l) (far, [])).1 (wave.foldl (wnd b l) (far, [])).2 := by
  have hl : ∀ a ∈ l, 0 ≤ tow b a ∧ tow b a < N := fun a ha => by have := ho a ha; unfold tow; cases b <;> simp <;> omega
  have hfd : ∀ y : Int, Fst l b s d y → rd far y = d := by
    intro y f
    have hr := f.1.range ho hs
    rcases h.val y hr.1 hr.2 with ⟨e, he, h1, h2⟩ | ⟨h1, h2⟩
    · rw [h1, h2.eq f]
    · exact absurd f.1 (h2 d (Nat.le_refl _))
  have hj0 : Jn N d far (fun _ => False) (far, []) := by
    refine ⟨h.len, fun _ _ _ _ => rfl, fun y y0 y1 hy => ?_, by simp, by simp⟩
    rcases h.val y y0 y1 with ⟨e, he, h1, h2⟩ | ⟨h1, h2⟩
    · omega
    · exact .inr ⟨h1, fun q => q, by simp⟩
  have hj := Jn.wave b l hl wave (fun x hx => by
    obtain ⟨q1, q2, q3⟩ := (h.wav x).1 hx
    exact ⟨⟨q1, q2⟩, hfd x q3⟩) hj0
  exact h.next_of ho hs hj
theorem In.start {N : Nat} {l : List S46} {b : Bool} {s : Int} {d : Nat} {far wave : List Int} (h : In N l b s d far wave) : Jn N d far (fun _ => False) (far, []) := by
  refine ⟨h.len, fun _ _ _ _ => rfl, fun y y0 y1 hy => ?_, by simp, by simp⟩
  rcases h.val y y0 y1 with ⟨e, he, h1, h2⟩ | ⟨h1, h2⟩
  · omega
  · exact .inr ⟨h1, fun q => q, by simp⟩
/-- When the wave is empty, all is known. -/
theorem In.last {N : Nat} {l : List S46} {b : Bool} {s : Int} {d : Nat} {far : List Int} (ho : Ok N l) (hs : 0 ≤ s ∧ s < N) (h : In N l b s d far []) : ∀ y : Int, 0 ≤ y → y < N → IsD l b s y (rd far y) := by
  intro y y0 y1
  rcases h.val y y0 y1 with ⟨e, he, h1, h2⟩ | ⟨h1, h2⟩
  · exact .inr ⟨e, h1, h2⟩
  · refine .inl ⟨h1, fun e w => ?_⟩
    obtain ⟨j, _, f⟩ := first_of w
    rcases Nat.lt_or_ge d j with c | c
    · obtain ⟨i, rfl⟩ : ∃ i, j = d + i := ⟨j - d, by omega⟩
      obtain ⟨z, hz⟩ := f.down
      have hr := hz.1.range ho hs
      have := (h.wav z).2 ⟨hr.1, hr.2, hz⟩
      simp at this
    · exact h2 j c f.1
end Go.Proofs.Ytlbkbodadkhogaa.Pure
