/- Texts of this claim in one: Pb, Pc, Pd, Ph, Pj, Pk. -/
import Derived.Test.YtlbkbodadkhogaaPa
import Derived.Test.YtlbkbodadkhogaaX7
import Derived.Test.YtlbkbodadkhogaaX8
import Derived.Test.YtlbkbodadkhogaaX11
import Derived.Test.YtlbkbodadkhogaaX12
import Derived.Test.YtlbkbodadkhogaaCl
/- The plain laws of graphs, B: walks, distances, waves. -/
section
namespace Go.Proofs.Ytlbkbodadkhogaa.Pure
open Go.RowKit Go.Proofs.Ytlbkbodadkhogaa.X Go.Proofs.YtlbkbodadkhogaaW.PrintWords
set_option linter.unusedVariables false
def frm (b : Bool) (a : S46) : Int := if b = true then a.f1 else a.f0
def tow (b : Bool) (a : S46) : Int := if b = true then a.f0 else a.f1
/-- An arc (backwards if b is set) leads from x to y. -/
def Ed (l : List S46) (b : Bool) (x y : Int) : Prop := ∃ a ∈ l, frm b a = x ∧ tow b a = y
/-- A walk of d arcs leads from s to y. -/
def Wk (l : List S46) (b : Bool) (s : Int) : Nat → Int → Prop
  | 0, y => y = s
  | d + 1, y => ∃ x, Wk l b s d x ∧ Ed l b x y
/-- The shortest walk from s to y has d arcs. -/
def Fst (l : List S46) (b : Bool) (s : Int) (d : Nat) (y : Int) : Prop := Wk l b s d y ∧ ∀ e, e < d → ¬ Wk l b s e y
/-- v tells how far y is: -1 if no walk leads there. -/
def IsD (l : List S46) (b : Bool) (s y v : Int) : Prop := (v = -1 ∧ ∀ d, ¬ Wk l b s d y) ∨ (∃ d : Nat, v = (d : Int) ∧ Fst l b s d y)
def Ok (N : Nat) (l : List S46) : Prop := ∀ a ∈ l, 0 ≤ a.f0 ∧ a.f0 < (N : Int) ∧ 0 ≤ a.f1 ∧ a.f1 < (N : Int)
section
variable {l : List S46} {b : Bool} {s : Int} {N : Nat}
theorem Fst.eq {d e : Nat} {y : Int} (h : Fst l b s d y) (k : Fst l b s e y) : d = e := by
  rcases Nat.lt_trichotomy d e with q | q | q
  · exact absurd h.1 (k.2 d q)
  · exact q
  · exact absurd k.1 (h.2 e q)
theorem IsD.eq {y v w : Int} (h : IsD l b s y v) (k : IsD l b s y w) : v = w := by
  rcases h with ⟨h1, h2⟩ | ⟨d, h1, h2⟩ <;> rcases k with ⟨k1, k2⟩ | ⟨e, k1, k2⟩
  · rw [h1, k1]
  · exact absurd k2.1 (h2 e)
  · exact absurd h2.1 (k2 d)
  · rw [h1, k1, h2.eq k2]
theorem Ed.range (h : Ok N l) {x y : Int} (e : Ed l b x y) : (0 ≤ x ∧ x < N) ∧ (0 ≤ y ∧ y < N) := by
  obtain ⟨a, ha, e1, e2⟩ := e
  have := h a ha
  unfold frm at e1
  unfold tow at e2
  cases b <;> simp at e1 e2 <;> omega
theorem Wk.range (h : Ok N l) (hs : 0 ≤ s ∧ s < N) : ∀ {d : Nat} {y : Int}, Wk l b s d y → 0 ≤ y ∧ y < N := by
  intro d y w
  cases d with
  | zero => cases w; exact hs
  | succ d => obtain ⟨x, _, e⟩ := w; exact (e.range h).2
theorem Fst.pred {d : Nat} {y : Int} (h : Fst l b s (d + 1) y) : ∃ x, Fst l b s d x ∧ Ed l b x y := by
  obtain ⟨⟨x, w, e⟩, h2⟩ := h
  exact ⟨x, ⟨w, fun j hj q => h2 (j + 1) (by omega) ⟨x, q, e⟩⟩, e⟩
theorem first_of {d : Nat} {y : Int} (h : Wk l b s d y) : ∃ e, e ≤ d ∧ Fst l b s e y := by
  induction d using Nat.strongRecOn with
  | ind d ih =>
    by_cases c : ∃ e, e < d ∧ Wk l b s e y
    · obtain ⟨e, he, w⟩ := c
      obtain ⟨j, hj, f⟩ := ih e he w
      exact ⟨j, by omega, f⟩
    · exact ⟨d, Nat.le_refl _, h, fun e he w => c ⟨e, he, w⟩⟩
theorem Fst.down {d : Nat} : ∀ {j : Nat} {y : Int}, Fst l b s (d + j) y → ∃ z, Fst l b s d z := by
  intro j
  induction j with
  | zero => intro y h; exact ⟨y, h⟩
  | succ j ih => intro y h; obtain ⟨x, hx, _⟩ := Fst.pred (d := d + j) h; exact ih hx
/-- Distinct numbers from 0 to N-1 are at most N. -/
theorem pigeon : ∀ (N : Nat) (L : List Int), L.Nodup → (∀ x ∈ L, 0 ≤ x ∧ x < (N : Int)) → L.length ≤ N := by
  intro N
  induction N with
  | zero =>
    intro L _ h
    cases L with
    | nil => simp
    | cons x L => have := h x (by simp); omega
  | succ N ih =>
    intro L hn h
    have h1 := ih (L.filter (fun x => x ≠ (N : Int))) (hn.filter _) (fun x hx => by
      have hx' := List.mem_filter.1 hx
      have := h x hx'.1
      have hne : x ≠ (N : Int) := by simpa using hx'.2
      omega)
    have h2 : L.length ≤ (L.filter (fun x => x ≠ (N : Int))).length + 1 := by
      clear ih h h1
      induction L with
      | nil => simp
      | cons x L ih =>
        rw [List.nodup_cons] at hn
        by_cases c : x = (N : Int)
        · have hL : L.filter (fun x => x ≠ (N : Int)) = L := List.filter_eq_self.2 (fun z hz => by
            have : z ≠ (N : Int) := fun e => hn.1 (by rw [c, ← e]; exact hz)
            simpa using this)
          rw [List.filter_cons_of_neg (by simp [c]), hL]
          simp
        · rw [List.filter_cons_of_pos (by simpa using c)]
          have := ih hn.2
          simp only [List.length_cons]
          omega
    omega
theorem Fst.layers (h : Ok N l) (hs : 0 ≤ s ∧ s < N) : ∀ {d : Nat} {y : Int}, Fst l b s d y → ∃ L : List Int, L.length = d + 1 ∧ L.Nodup ∧ (∀ x ∈ L, 0 ≤ x ∧ x < (N : Int)) ∧ (∀ x ∈ L, ∃ e, e ≤ d ∧ Fst l b s e x) := by
  intro d
  induction d with
  | zero =>
    intro y f
    refine ⟨[y], rfl, by simp, ?_, ?_⟩
    · intro x hx; simp at hx; subst hx; exact f.1.range h hs
    · intro x hx; simp at hx; subst hx; exact ⟨0, Nat.le_refl _, f⟩
  | succ d ih =>
    intro y f
    obtain ⟨x, fx, _⟩ := f.pred
    obtain ⟨L, l1, l2, l3, l4⟩ := ih fx
    refine ⟨y :: L, by simp [l1], List.nodup_cons.2 ⟨fun hy => ?_, l2⟩, ?_, ?_⟩
    · obtain ⟨e, he, fe⟩ := l4 y hy
      have := f.eq fe
      omega
    · intro z hz
      rcases List.mem_cons.1 hz with rfl | hz
      · exact f.1.range h hs
      · exact l3 z hz
    · intro z hz
      rcases List.mem_cons.1 hz with rfl | hz
      · exact ⟨d + 1, Nat.le_refl _, f⟩
      · obtain ⟨e, he, fe⟩ := l4 z hz
        exact ⟨e, by omega, fe⟩
/-- No shortest walk has as many arcs as there are nodes. -/
theorem Fst.lt (h : Ok N l) (hs : 0 ≤ s ∧ s < N) {d : Nat} {y : Int} (f : Fst l b s d y) : d < N := by
  obtain ⟨L, l1, l2, l3, _⟩ := f.layers h hs
  have := pigeon N L l2 l3
  omega
end
/-! The waves. -/
/-- One arc: y is new. -/
def wst (b : Bool) (x : Int) (s : List Int × List Int) (a : S46) : List Int × List Int :=
  if frm b a = x then (if rd s.1 (tow b a) < 0 then (s.1.set (tow b a).toNat (rd s.1 x + 1), s.2 ++ [tow b a]) else s) else s
/-- What is known within a round: D tells which nodes an arc has been seen to from the wave. -/
structure Jn (N : Nat) (d : Nat) (far0 : List Int) (D : Int → Prop) (s : List Int × List Int) : Prop where
  len : s.1.length = N
  old : ∀ y : Int, 0 ≤ y → y < N → 0 ≤ rd far0 y → rd s.1 y = rd far0 y
  new : ∀ y : Int, 0 ≤ y → y < N → rd far0 y < 0 → (rd s.1 y = (d : Int) + 1 ∧ D y ∧ y ∈ s.2) ∨ (rd s.1 y = -1 ∧ ¬ D y ∧ y ∉ s.2)
  sub : ∀ y ∈ s.2, 0 ≤ y ∧ y < N ∧ rd far0 y < 0
  cnt : s.2.length ≤ N ∧ s.2.Nodup
theorem rd_set (L : List Int) (i : Int) (v y : Int) (h0 : 0 ≤ i) (h1 : i < L.length) (hy : 0 ≤ y) : rd (L.set i.toNat v) y = if y = i then v else rd L y := by
  unfold rd
  rw [List.getD_eq_getElem?_getD, List.getD_eq_getElem?_getD, List.getElem?_set]
  by_cases c : y = i
  · subst c; rw [if_pos rfl, if_pos (by omega), if_pos rfl]; rfl
  · rw [if_neg (by omega), if_neg c]
theorem Jn.step {N d : Nat} {far0 : List Int} {D : Int → Prop} {s : List Int × List Int} (h : Jn N d far0 D s) (b : Bool) (x : Int) (a : S46) (hx : 0 ≤ x ∧ x < N) (hd : rd far0 x = d) (ha : 0 ≤ tow b a ∧ tow b a < N) :
    Jn N d far0 (fun y => D y ∨ (frm b a = x ∧ tow b a = y)) (wst b x s a) := by
  unfold wst
  by_cases c : frm b a = x
  · rw [if_pos c]
    have hxd : rd s.1 x = d := by rw [h.old x hx.1 hx.2 (by omega), hd]
    obtain ⟨y, hy⟩ : ∃ y, y = tow b a := ⟨_, rfl⟩
    rw [← hy] at ha ⊢
    by_cases e : rd s.1 y < 0
    · rw [if_pos e, hxd]
      have hf : rd far0 y < 0 := by
        rcases Classical.em (rd far0 y < 0) with q | q
        · exact q
        · have := h.old y ha.1 ha.2 (by omega); omega
      have hny : y ∉ s.2 := by
        rcases h.new y ha.1 ha.2 hf with q | q
        · omega
        · exact q.2.2
      have hnd : (s.2 ++ [y]).Nodup := by
        rw [List.nodup_append]
        refine ⟨h.cnt.2, by simp, fun z hz w hw => ?_⟩
        simp at hw; subst hw
        exact fun q => hny (q ▸ hz)
      have hsub : ∀ z ∈ s.2 ++ [y], 0 ≤ z ∧ z < N ∧ rd far0 z < 0 := by
        intro z hz
        rcases List.mem_append.1 hz with q | q
        · exact h.sub z q
        · simp at q; subst q; exact ⟨ha.1, ha.2, hf⟩
      refine ⟨by simp [h.len], fun z z0 z1 hz => ?_, fun z z0 z1 hz => ?_, hsub, pigeon N _ hnd (fun z hz => ⟨(hsub z hz).1, (hsub z hz).2.1⟩), hnd⟩
      · rw [rd_set _ _ _ _ ha.1 (by rw [h.len]; exact ha.2) z0]
        rw [if_neg (by rintro rfl; omega)]
        exact h.old z z0 z1 hz
      · rw [rd_set _ _ _ _ ha.1 (by rw [h.len]; exact ha.2) z0]
        by_cases q : z = y
        · subst q
          rw [if_pos rfl]
          exact .inl ⟨rfl, .inr ⟨c, rfl⟩, by simp⟩
        · rw [if_neg q]
          rcases h.new z z0 z1 hz with ⟨r1, r2, r3⟩ | ⟨r1, r2, r3⟩
          · exact .inl ⟨r1, .inl r2, by simp [r3]⟩
          · exact .inr ⟨r1, fun w => w.elim r2 (fun w => q w.2.symm), by simp [r3, q]⟩
    · rw [if_neg e]
      refine ⟨h.len, h.old, fun z z0 z1 hz => ?_, h.sub, h.cnt⟩
      rcases h.new z z0 z1 hz with ⟨r1, r2, r3⟩ | ⟨r1, r2, r3⟩
      · exact .inl ⟨r1, .inl r2, r3⟩
      · refine .inr ⟨r1, fun w => w.elim r2 (fun w => ?_), r3⟩
        rw [w.2] at e; omega
  · rw [if_neg c]
    refine ⟨h.len, h.old, fun z z0 z1 hz => ?_, h.sub, h.cnt⟩
    rcases h.new z z0 z1 hz with ⟨r1, r2, r3⟩ | ⟨r1, r2, r3⟩
    · exact .inl ⟨r1, .inl r2, r3⟩
    · exact .inr ⟨r1, fun w => w.elim r2 (fun w => c w.1), r3⟩
theorem Jn.imp {N d : Nat} {far0 : List Int} {D E : Int → Prop} {s : List Int × List Int} (h : Jn N d far0 D s) (e : ∀ y, D y ↔ E y) : Jn N d far0 E s :=
  ⟨h.len, h.old, fun z z0 z1 hz => (h.new z z0 z1 hz).imp (fun q => ⟨q.1, (e z).1 q.2.1, q.2.2⟩) (fun q => ⟨q.1, fun w => q.2.1 ((e z).2 w), q.2.2⟩), h.sub, h.cnt⟩
/-- One node of the wave. -/
def wnd (b : Bool) (l : List S46) (s : List Int × List Int) (x : Int) : List Int × List Int := l.foldl (wst b x) s
theorem Jn.node {N d : Nat} {far0 : List Int} (b : Bool) (x : Int) (hx : 0 ≤ x ∧ x < N) (hd : rd far0 x = d) : ∀ (l : List S46), (∀ a ∈ l, 0 ≤ tow b a ∧ tow b a < N) → ∀ {D : Int → Prop} {s : List Int × List Int}, Jn N d far0 D s → Jn N d far0 (fun y => D y ∨ Ed l b x y) (wnd b l s x) := by
  intro l
  induction l with
  | nil => intro _ D s h; exact h.imp (fun y => ⟨.inl, fun q => q.elim id (fun ⟨a, ha, _⟩ => by simp at ha)⟩)
  | cons a l ih =>
    intro hl D s h
    have h1 := h.step b x a hx hd (hl a (by simp))
    refine (ih (fun z hz => hl z (by simp [hz])) h1).imp (fun y => ⟨fun q => ?_, fun q => ?_⟩)
    · rcases q with (q | q) | ⟨z, hz, q⟩
      · exact .inl q
      · exact .inr ⟨a, by simp, q⟩
      · exact .inr ⟨z, by simp [hz], q⟩
    · rcases q with q | ⟨z, hz, q⟩
      · exact .inl (.inl q)
      · rcases List.mem_cons.1 hz with rfl | hz
        · exact .inl (.inr q)
        · exact .inr ⟨z, hz, q⟩
theorem Jn.wave {N d : Nat} {far0 : List Int} (b : Bool) (l : List S46) (hl : ∀ a ∈ l, 0 ≤ tow b a ∧ tow b a < N) : ∀ (w : List Int), (∀ x ∈ w, (0 ≤ x ∧ x < N) ∧ rd far0 x = d) → ∀ {D : Int → Prop} {s : List Int × List Int}, Jn N d far0 D s → Jn N d far0 (fun y => D y ∨ ∃ x ∈ w, Ed l b x y) (w.foldl (wnd b l) s) := by
  intro w
  induction w with
  | nil => intro _ D s h; exact h.imp (fun y => ⟨.inl, fun q => q.elim id (fun ⟨a, ha, _⟩ => by simp at ha)⟩)
  | cons x w ih =>
    intro hw D s h
    obtain ⟨h1, h2⟩ := hw x (by simp)
    refine (ih (fun z hz => hw z (by simp [hz])) (Jn.node b x h1 h2 l hl h)).imp (fun y => ⟨fun q => ?_, fun q => ?_⟩)
    · rcases q with (q | q) | ⟨z, hz, q⟩
      · exact .inl q
      · exact .inr ⟨x, by simp, q⟩
      · exact .inr ⟨z, by simp [hz], q⟩
    · rcases q with q | ⟨z, hz, q⟩
      · exact .inl (.inl q)
      · rcases List.mem_cons.1 hz with rfl | hz
        · exact .inl (.inr q)
        · exact .inr ⟨z, hz, q⟩
/-- At the head of a round. -/
structure In (N : Nat) (l : List S46) (b : Bool) (s : Int) (d : Nat) (far wave : List Int) : Prop where
  len : far.length = N
  val : ∀ y : Int, 0 ≤ y → y < N → (∃ e : Nat, e ≤ d ∧ rd far y = e ∧ Fst l b s e y) ∨ (rd far y = -1 ∧ ∀ e, e ≤ d → ¬ Wk l b s e y)
  wav : ∀ y : Int, y ∈ wave ↔ (0 ≤ y ∧ y < N ∧ Fst l b s d y)
  cnt : wave.length ≤ N
theorem In.next_of {N : Nat} {l : List S46} {b : Bool} {s : Int} {d : Nat} {far wave : List Int} (ho : Ok N l) (hs : 0 ≤ s ∧ s < N) (h : In N l b s d far wave) {S : List Int × List Int} (hj : Jn N d far (fun y => False ∨ ∃ x ∈ wave, Ed l b x y) S) :
    In N l b s (d + 1) S.1 S.2 := by
  have hD : ∀ y, (∀ e, e ≤ d → ¬ Wk l b s e y) → ((False ∨ ∃ x ∈ wave, Ed l b x y) ↔ Wk l b s (d + 1) y) := by
    intro y hy
    constructor
    · rintro (q | ⟨x, hx, e⟩)
      · exact q.elim
      · exact ⟨x, ((h.wav x).1 hx).2.2.1, e⟩
    · rintro ⟨x, w, e⟩
      refine .inr ⟨x, (h.wav x).2 ?_, e⟩
      have hr := w.range ho hs
      exact ⟨hr.1, hr.2, w, fun j hj q => hy (j + 1) (by omega) ⟨x, q, e⟩⟩
  have hneg : ∀ y : Int, 0 ≤ y → y < N → rd far y < 0 → rd far y = -1 ∧ ∀ e, e ≤ d → ¬ Wk l b s e y := by
    intro y y0 y1 hy
    rcases h.val y y0 y1 with ⟨e, he, h1, h2⟩ | q
    · omega
    · exact q
  refine ⟨hj.len, fun y y0 y1 => ?_, fun y => ⟨fun hy => ?_, fun hy => ?_⟩, hj.cnt.1⟩
  · rcases h.val y y0 y1 with ⟨e, he, h1, h2⟩ | ⟨h1, h2⟩
    · exact .inl ⟨e, by omega, by rw [hj.old y y0 y1 (by omega)]; exact h1, h2⟩
    · rcases hj.new y y0 y1 (by omega) with ⟨r1, r2, _⟩ | ⟨r1, r2, _⟩
      · refine .inl ⟨d + 1, Nat.le_refl _, by rw [r1]; omega, (hD y h2).1 r2, fun e he => h2 e (by omega)⟩
      · refine .inr ⟨r1, fun e he q => ?_⟩
        rcases Nat.lt_or_ge d e with c | c
        · have : e = d + 1 := by omega
          subst this
          exact r2 ((hD y h2).2 q)
        · exact h2 e c q
  · obtain ⟨y0, y1, hf⟩ := hj.sub y hy
    obtain ⟨h1, h2⟩ := hneg y y0 y1 hf
    rcases hj.new y y0 y1 hf with ⟨_, r2, _⟩ | ⟨_, _, r3⟩
    · exact ⟨y0, y1, (hD y h2).1 r2, fun e he => h2 e (by omega)⟩
    · exact absurd hy r3
  · obtain ⟨y0, y1, f⟩ := hy
    have hf : rd far y < 0 := by
      rcases h.val y y0 y1 with ⟨e, he, h1, h2⟩ | ⟨h1, h2⟩
      · have := h2.eq f; omega
      · omega
    obtain ⟨h1, h2⟩ := hneg y y0 y1 hf
    rcases hj.new y y0 y1 hf with ⟨_, _, r3⟩ | ⟨_, r2, _⟩
    · exact r3
    · exact absurd ((hD y h2).2 f.1) r2
theorem In.next {N : Nat} {l : List S46} {b : Bool} {s : Int} {d : Nat} {far wave : List Int} (ho : Ok N l) (hs : 0 ≤ s ∧ s < N) (h : In N l b s d far wave) :
    In N l b s (d + 1) (wave.foldl (wnd b l) (far, [])).1 (wave.foldl (wnd b l) (far, [])).2 := by
  have hl : ∀ a ∈ l, 0 ≤ tow b a ∧ tow b a < N := fun a ha => by have := ho a ha; unfold tow; cases b <;> simp <;> omega
  have hfd : ∀ y : Int, Fst l b s d y → rd far y = d := by
    intro y f
    have hr := f.1.range ho hs
    rcases h.val y hr.1 hr.2 with ⟨e, he, h1, h2⟩ | ⟨h1, h2⟩
    · rw [h1, h2.eq f]
    · exact absurd f.1 (h2 d (Nat.le_refl _))
  have hj0 : Jn N d far (fun _ => False) (far, []) := by
    refine ⟨h.len, fun _ _ _ _ => rfl, fun y y0 y1 hy => ?_, by simp, by simp⟩
    rcases h.val y y0 y1 with ⟨e, he, h1, h2⟩ | ⟨h1, h2⟩
    · omega
    · exact .inr ⟨h1, fun q => q, by simp⟩
  have hj := Jn.wave b l hl wave (fun x hx => by
    obtain ⟨q1, q2, q3⟩ := (h.wav x).1 hx
    exact ⟨⟨q1, q2⟩, hfd x q3⟩) hj0
  exact h.next_of ho hs hj
theorem In.start {N : Nat} {l : List S46} {b : Bool} {s : Int} {d : Nat} {far wave : List Int} (h : In N l b s d far wave) : Jn N d far (fun _ => False) (far, []) := by
  refine ⟨h.len, fun _ _ _ _ => rfl, fun y y0 y1 hy => ?_, by simp, by simp⟩
  rcases h.val y y0 y1 with ⟨e, he, h1, h2⟩ | ⟨h1, h2⟩
  · omega
  · exact .inr ⟨h1, fun q => q, by simp⟩
/-- When the wave is empty, all is known. -/
theorem In.last {N : Nat} {l : List S46} {b : Bool} {s : Int} {d : Nat} {far : List Int} (ho : Ok N l) (hs : 0 ≤ s ∧ s < N) (h : In N l b s d far []) : ∀ y : Int, 0 ≤ y → y < N → IsD l b s y (rd far y) := by
  intro y y0 y1
  rcases h.val y y0 y1 with ⟨e, he, h1, h2⟩ | ⟨h1, h2⟩
  · exact .inr ⟨e, h1, h2⟩
  · refine .inl ⟨h1, fun e w => ?_⟩
    obtain ⟨j, _, f⟩ := first_of w
    rcases Nat.lt_or_ge d j with c | c
    · obtain ⟨i, rfl⟩ : ∃ i, j = d + i := ⟨j - d, by omega⟩
      obtain ⟨z, hz⟩ := f.down
      have hr := hz.1.range ho hs
      have := (h.wav z).2 ⟨hr.1, hr.2, hz⟩
      simp at this
    · exact h2 j c f.1
end Go.Proofs.Ytlbkbodadkhogaa.Pure
end

/- The plain laws of graphs, C: graph.waves tells distances; Reach. -/
section
namespace Go.Proofs.Ytlbkbodadkhogaa.Pure
open Go.RowKit Go.Proofs.Ytlbkbodadkhogaa.X Go.Proofs.YtlbkbodadkhogaaW.PrintWords
set_option linter.unusedVariables false
theorem wav_l3 {N d : Nat} {far0 : List Int} (b : Bool) (n : Int) (l : List S46) (ho : Ok N l) (hl : l.length ≤ 1000000) (hd : d ≤ 1000) (hN : N ≤ 1000) (x : Int) (w : List Int) (j : Int) (hx : 0 ≤ x ∧ x < N) (hxd : rd far0 x = d) (r : List Int) :
    ∀ (e i : Nat), l.length - i = e → i ≤ l.length → ∀ (D : Int → Prop) (F nx : List Int), Jn N d far0 D (F, nx) →
      Ev (fun k => graph_waves.l2 k b ((l.drop i).foldl (wst b x) (F, nx)).1 ((l.drop i).foldl (wst b x) (F, nx)).2 w (w.length : Int) (wrap64 (j + 1)) n l) r →
      Ev (fun k => graph_waves.l3 k b F nx x w (w.length : Int) j l (l.length : Int) (i : Int) n l) r := by
  intro e
  induction e with
  | zero =>
    intro i he hi D F nx hj h
    rw [List.drop_eq_nil_of_le (by omega)] at h
    refine Ev.step (fun k => ?_) h
    simp only [graph_waves.l3]
    rw [if_neg (by omega)]
    rfl
  | succ e ih =>
    intro i he hi D F nx hj h
    have hlt : i < l.length := by omega
    have ha := ho l[i] (List.getElem_mem _)
    have hta : 0 ≤ tow b l[i] ∧ tow b l[i] < N := by unfold tow; cases b <;> simp <;> omega
    have hj2 := hj.step b x l[i] hx hxd hta
    have hFx : rd F x = d := by have := hj.old x hx.1 hx.2 (by omega); rw [this, hxd]
    have hFl : (F.length : Int) = N := by have := hj.len; simp only at this; omega
    have hnx : nx.length ≤ N := hj.cnt.1
    rw [List.drop_eq_getElem_cons hlt, List.foldl_cons] at h
    obtain ⟨T, hT⟩ : ∃ T, T = wst b x (F, nx) l[i] := ⟨_, rfl⟩
    rw [← hT] at h hj2
    obtain ⟨T1, T2⟩ := T
    have hn := ih (i + 1) (by omega) (by omega) _ T1 T2 hj2 h
    have hw : wrap64 ((d : Int) + 1) = (d : Int) + 1 := by unfold wrap64; omega
    refine Ev.step (fun k => ?_) hn
    simp only [graph_waves.l3]
    rw [if_pos (by omega), if_pos (by omega), if_pos (by omega), rdT l i hlt, w64 (by omega)]
    unfold wst at hT
    simp only at hT
    cases b with
    | true =>
      rw [if_pos rfl]
      simp only [frm, tow, if_true] at hT hta
      by_cases c : l[i].f1 = x
      · rw [if_pos c] at hT ⊢
        rw [if_pos hta.1, if_pos (by omega)]
        by_cases q : rd F l[i].f0 < 0
        · rw [if_pos q] at hT ⊢
          rw [if_pos hx.1, if_pos (by omega), if_pos (by omega), hFx, hw]
          rw [hFx] at hT
          obtain ⟨rfl, rfl⟩ := Prod.mk.inj hT
          rfl
        · rw [if_neg q] at hT ⊢
          obtain ⟨rfl, rfl⟩ := Prod.mk.inj hT
          rfl
      · rw [if_neg c] at hT ⊢
        obtain ⟨rfl, rfl⟩ := Prod.mk.inj hT
        rfl
    | false =>
      rw [if_neg (by simp)]
      simp only [frm, tow, Bool.false_eq_true, if_false] at hT hta
      by_cases c : l[i].f0 = x
      · rw [if_pos c] at hT ⊢
        rw [if_pos hta.1, if_pos (by omega)]
        by_cases q : rd F l[i].f1 < 0
        · rw [if_pos q] at hT ⊢
          rw [if_pos hx.1, if_pos (by omega), if_pos (by omega), hFx, hw]
          rw [hFx] at hT
          obtain ⟨rfl, rfl⟩ := Prod.mk.inj hT
          rfl
        · rw [if_neg q] at hT ⊢
          obtain ⟨rfl, rfl⟩ := Prod.mk.inj hT
          rfl
      · rw [if_neg c] at hT ⊢
        obtain ⟨rfl, rfl⟩ := Prod.mk.inj hT
        rfl
theorem wav_l2 {N d : Nat} {far0 : List Int} (b : Bool) (n : Int) (l : List S46) (ho : Ok N l) (hl : l.length ≤ 1000000) (hd : d ≤ 1000) (hN : N ≤ 1000) (w : List Int) (hwl : w.length ≤ 1000) (hw : ∀ x ∈ w, (0 ≤ x ∧ x < N) ∧ rd far0 x = d) (r : List Int) :
    ∀ (e j : Nat), w.length - j = e → j ≤ w.length → ∀ (D : Int → Prop) (F nx : List Int), Jn N d far0 D (F, nx) →
      Ev (fun k => graph_waves.l1 k b ((w.drop j).foldl (wnd b l) (F, nx)).1 ((w.drop j).foldl (wnd b l) (F, nx)).2 n l) r →
      Ev (fun k => graph_waves.l2 k b F nx w (w.length : Int) (j : Int) n l) r := by
  intro e
  induction e with
  | zero =>
    intro j he hi D F nx hj h
    rw [List.drop_eq_nil_of_le (by omega)] at h
    refine Ev.step (fun k => ?_) h
    simp only [graph_waves.l2]
    rw [if_neg (by omega)]
    rfl
  | succ e ih =>
    intro j he hi D F nx hj h
    have hlt : j < w.length := by omega
    obtain ⟨hx, hxd⟩ := hw w[j] (List.getElem_mem _)
    have hl' : ∀ a ∈ l, 0 ≤ tow b a ∧ tow b a < N := fun a ha => by have := ho a ha; unfold tow; cases b <;> simp <;> omega
    rw [List.drop_eq_getElem_cons hlt, List.foldl_cons] at h
    have hj2 := Jn.node b w[j] hx hxd l hl' hj
    have hn := ih (j + 1) (by omega) (by omega) _ _ _ hj2 h
    have h3 := wav_l3 b n l ho hl hd hN w[j] w (j : Int) hx hxd r l.length 0 (by omega) (by omega) D F nx hj (by rw [w64 (by omega)]; exact hn)
    refine Ev.step (fun k => ?_) h3
    simp only [graph_waves.l2]
    rw [if_pos (by omega), if_pos (by omega), if_pos (by omega), rdI w j hlt]
    rfl
theorem wav_l1 {N : Nat} (b : Bool) (n : Int) (l : List S46) (ho : Ok N l) (hl : l.length ≤ 1000000) (hN : N ≤ 1000) (s : Int) (hs : 0 ≤ s ∧ s < N) :
    ∀ (e d : Nat), N - d = e → ∀ (F w : List Int), In N l b s d F w → ∃ r : List Int, r.length = N ∧ (∀ y : Int, 0 ≤ y → y < N → IsD l b s y (rd r y)) ∧ Ev (fun k => graph_waves.l1 k b F w n l) r := by
  intro e
  induction e with
  | zero =>
    intro d he F w h
    have hw : w = [] := by
      cases w with
      | nil => rfl
      | cons x w =>
        obtain ⟨_, _, f⟩ := (h.wav x).1 (by simp)
        have := f.lt ho hs
        omega
    subst hw
    refine ⟨F, h.len, h.last ho hs, Ev.step (f := fun _ => some F) (fun k => ?_) (Ev.now _)⟩
    simp only [graph_waves.l1]
    rw [if_neg (by simp)]
  | succ e ih =>
    intro d he F w h
    cases w with
    | nil =>
      refine ⟨F, h.len, h.last ho hs, Ev.step (f := fun _ => some F) (fun k => ?_) (Ev.now _)⟩
      simp only [graph_waves.l1]
      rw [if_neg (by simp)]
    | cons x w =>
      obtain ⟨r, r1, r2, r3⟩ := ih (d + 1) (by omega) _ _ (h.next ho hs)
      refine ⟨r, r1, r2, ?_⟩
      have hd : d ≤ 1000 := by omega
      have hfd : ∀ y ∈ x :: w, (0 ≤ y ∧ y < N) ∧ rd F y = d := by
        intro y hy
        obtain ⟨y0, y1, f⟩ := (h.wav y).1 hy
        refine ⟨⟨y0, y1⟩, ?_⟩
        rcases h.val y y0 y1 with ⟨j, hj, h1, h2⟩ | ⟨h1, h2⟩
        · rw [h1, h2.eq f]
        · exact absurd f.1 (h2 d (Nat.le_refl _))
      have hj0 : Jn N d F (fun _ => False) (F, []) := by
        refine ⟨h.len, fun _ _ _ _ => rfl, fun y y0 y1 hy => ?_, by simp, by simp⟩
        rcases h.val y y0 y1 with ⟨j, hj, h1, h2⟩ | ⟨h1, h2⟩
        · omega
        · exact .inr ⟨h1, fun q => q, by simp⟩
      have h2 := wav_l2 b n l ho hl hd hN (x :: w) (Nat.le_trans h.cnt hN) hfd r (x :: w).length 0 (by omega) (by omega) _ F [] hj0 (by simpa using r3)
      refine Ev.step (fun k => ?_) h2
      simp only [graph_waves.l1]
      rw [if_pos (by simp)]
      rfl
theorem wav_l0 {N : Nat} (b : Bool) (n : Int) (l : List S46) (hN : N ≤ 1000) (s : Int) (hs : 0 ≤ s ∧ s < N) (r : List Int) :
    ∀ (e i : Nat), N - i = e → i ≤ N → ∀ (F : List Int), F.length = N → (∀ y : Int, 0 ≤ y → y < (i : Int) → rd F y = -1) →
      (∀ G : List Int, G.length = N → (∀ y : Int, 0 ≤ y → y < N → rd G y = if y = s then 0 else -1) → Ev (fun k => graph_waves.l1 k b G [s] n l) r) →
      Ev (fun k => graph_waves.l0 k s b F (N : Int) (i : Int) n l) r := by
  intro e
  induction e with
  | zero =>
    intro i he hi F hF hv h
    refine Ev.step (fun k => ?_) (h (F.set s.toNat 0) (by simp [hF]) (fun y y0 y1 => ?_))
    · simp only [graph_waves.l0]
      rw [if_neg (by omega), if_pos hs.1, if_pos (by omega)]
    · rw [rd_set _ _ _ _ hs.1 (by omega) y0]
      split
      · rfl
      · exact hv y y0 (by omega)
  | succ e ih =>
    intro i he hi F hF hv h
    have hn := ih (i + 1) (by omega) (by omega) (F.set ((i : Int)).toNat (-1)) (by simp [hF]) (fun y y0 y1 => by
      rw [rd_set _ _ _ _ (by omega) (by omega) y0]
      split
      · rfl
      · exact hv y y0 (by omega)) h
    refine Ev.step (fun k => ?_) hn
    simp only [graph_waves.l0]
    rw [if_pos (by omega), if_pos (by omega), if_pos (by omega), w64 (by omega)]
/-- The distances from s. -/
structure Far (N : Nat) (l : List S46) (b : Bool) (s : Int) (F : List Int) : Prop where
  len : F.length = N
  val : ∀ y : Int, 0 ≤ y → y < N → IsD l b s y (rd F y)
theorem Far.one {N : Nat} {l : List S46} {b : Bool} {s : Int} {F G : List Int} (h : Far N l b s F) (k : Far N l b s G) : F = G := by
  apply List.ext_getElem (h.len.trans k.len.symm)
  intro i h1 h2
  have e := (h.val i (by omega) (by have := h.len; omega)).eq (k.val i (by omega) (by have := h.len; omega))
  rwa [rdI F i h1, rdI G i h2] at e
theorem waves_ev {N : Nat} (b : Bool) (l : List S46) (ho : Ok N l) (hl : l.length ≤ 1000000) (hN : N ≤ 1000) (s : Int) (hs : 0 ≤ s ∧ s < N) : ∃ F : List Int, Far N l b s F ∧ Ev (fun k => graph_waves.f k (N : Int) l s b) F := by
  have hin : ∀ G : List Int, G.length = N → (∀ y : Int, 0 ≤ y → y < N → rd G y = if y = s then 0 else -1) → In N l b s 0 G [s] := by
    intro G hG hv
    refine ⟨hG, fun y y0 y1 => ?_, fun y => ⟨fun hy => ?_, fun hy => ?_⟩, by simp; omega⟩
    · rw [hv y y0 y1]
      by_cases c : y = s
      · subst c
        rw [if_pos rfl]
        exact .inl ⟨0, Nat.le_refl _, rfl, rfl, fun e he => absurd he (by omega)⟩
      · rw [if_neg c]
        refine .inr ⟨rfl, fun e he w => ?_⟩
        have : e = 0 := by omega
        subst this
        exact c w
    · simp at hy; subst hy
      exact ⟨hs.1, hs.2, rfl, fun e he => absurd he (by omega)⟩
    · have : y = s := hy.2.2.1
      simp [this]
  have hG0 : ∃ G : List Int, G.length = N ∧ ∀ y : Int, 0 ≤ y → y < N → rd G y = if y = s then 0 else -1 := by
    refine ⟨(List.replicate N (-1)).set s.toNat 0, by simp, fun y y0 y1 => ?_⟩
    rw [rd_set _ _ _ _ hs.1 (by simp; omega) y0]
    split
    · rfl
    · obtain ⟨m, rfl⟩ := Int.eq_ofNat_of_zero_le y0
      rw [rdI _ m (by simp; omega)]; simp
  obtain ⟨G0, g1, g2⟩ := hG0
  obtain ⟨r, r1, r2, r3⟩ := wav_l1 b (N : Int) l ho hl hN s hs N 0 (by omega) G0 [s] (hin G0 g1 g2)
  refine ⟨r, ⟨r1, r2⟩, ?_⟩
  have hone : ∀ G : List Int, G.length = N → (∀ y : Int, 0 ≤ y → y < N → rd G y = if y = s then 0 else -1) → G = G0 := by
    intro G h1 h2
    apply List.ext_getElem (h1.trans g1.symm)
    intro i i1 i2
    have e := (h2 i (by omega) (by omega)).trans (g2 i (by omega) (by omega)).symm
    rwa [rdI G i i1, rdI G0 i i2] at e
  have h0 := wav_l0 b (N : Int) l hN s hs r N 0 (by omega) (by omega) (List.replicate N 0) (by simp) (fun y y0 y1 => by omega) (fun G h1 h2 => by rw [hone G h1 h2]; exact r3)
  refine Ev.congr (fun k => ?_) h0
  unfold graph_waves.f
  rw [if_pos (by omega), Int.toNat_natCast, if_pos (by omega)]
  simp
end Go.Proofs.Ytlbkbodadkhogaa.Pure
end

/- The plain laws of graphs, D: Reach, of the program and of the reference; the reference's distances. -/
section
namespace Go.Proofs.Ytlbkbodadkhogaa.Pure
open Go.RowKit Go.Proofs.Ytlbkbodadkhogaa.X Go.Proofs.YtlbkbodadkhogaaW.PrintWords
set_option linter.unusedVariables false
theorem ok_of {n : Int} {l : List S46} (h : gchk n l = 0) : ∃ N : Nat, n = (N : Int) ∧ N ≤ 64 ∧ l.length ≤ 512 ∧ Ok N l := by
  obtain ⟨h0, h1, h2, h3⟩ := gchk_ok h
  obtain ⟨N, rfl⟩ := Int.eq_ofNat_of_zero_le h0
  exact ⟨N, rfl, by omega, h2, h3⟩
/-- Which nodes are reached from s. -/
structure RchL (N : Nat) (l : List S46) (s : Int) (B : List Bool) : Prop where
  len : B.length = N
  val : ∀ y : Int, 0 ≤ y → y < N → (rdOf false B y = true ↔ ∃ d, Wk l false s d y)
theorem RchL.one {N : Nat} {l : List S46} {s : Int} {A B : List Bool} (h : RchL N l s A) (k : RchL N l s B) : A = B := by
  apply List.ext_getElem (h.len.trans k.len.symm)
  intro i h1 h2
  have e := (h.val i (by omega) (by have := h.len; omega)).trans (k.val i (by omega) (by have := h.len; omega)).symm
  rw [rdB A i h1, rdB B i h2] at e
  exact Bool.eq_iff_iff.2 e
theorem reach_l0 (F : List Int) (hF : F.length ≤ 100000) : ∀ (e i : Nat), F.length - i = e → i ≤ F.length → ∀ (o : List Bool), o.length ≤ i → Ev (fun k => graph_Reach.l0 k o F (F.length : Int) (i : Int)) (o ++ (F.drop i).map (fun v => decide (v ≥ 0)), 0) := by
  intro e
  induction e with
  | zero =>
    intro i he hi o ho
    rw [List.drop_eq_nil_of_le (by omega)]
    refine Ev.step (f := fun _ => some (o, 0)) (fun k => ?_) (by simpa using Ev.now (o, (0 : Int)))
    simp only [graph_Reach.l0]
    rw [if_neg (by omega)]
  | succ e ih =>
    intro i he hi o ho
    have hlt : i < F.length := by omega
    have hn := ih (i + 1) (by omega) (by omega) (o ++ [decide (F[i] ≥ 0)]) (by simp; omega)
    rw [List.drop_eq_getElem_cons hlt, List.map_cons, show o ++ decide (F[i] ≥ 0) :: (F.drop (i + 1)).map (fun v => decide (v ≥ 0)) = (o ++ [decide (F[i] ≥ 0)]) ++ (F.drop (i + 1)).map (fun v => decide (v ≥ 0)) by simp]
    refine Ev.step (fun k => ?_) hn
    simp only [graph_Reach.l0]
    rw [if_pos (by omega), if_pos (by omega), if_pos (by omega), if_pos (by omega), rdI F i hlt, w64 (by omega)]
theorem greach_ev {n : Int} {l : List S46} {N : Nat} (hn : n = N) (hN : N ≤ 64) (hl : l.length ≤ 512) (ho : Ok N l) (hz : gchk n l = 0) (s : Int) (hs : 0 ≤ s ∧ s < N) : ∃ B, RchL N l s B ∧ Ev (fun k => graph_Reach.f k n l s) (B, 0) := by
  subst hn
  obtain ⟨F, hF, hE⟩ := waves_ev false l ho (by omega) (by omega) s hs
  have h0 := reach_l0 F (by rw [hF.len]; omega) F.length 0 (by omega) (by omega) [] (by simp)
  refine ⟨F.map (fun v => decide (v ≥ 0)), ⟨by simp [hF.len], fun y y0 y1 => ?_⟩, ?_⟩
  · obtain ⟨i, rfl⟩ := Int.eq_ofNat_of_zero_le y0
    have hi : i < F.length := by rw [hF.len]; omega
    rw [rdB _ i (by simpa using hi)]
    have hv := hF.val i y0 y1
    rw [rdI F i hi] at hv
    simp only [List.getElem_map, decide_eq_true_eq]
    rcases hv with ⟨h1, h2⟩ | ⟨d, h1, h2⟩
    · exact ⟨fun q => by omega, fun ⟨d, w⟩ => absurd w (h2 d)⟩
    · exact ⟨fun _ => ⟨d, h2.1⟩, fun _ => by omega⟩
  · unfold graph_Reach.f
    refine Ev.bind (gchk_ev (N : Int) l) ?_
    refine Ev.step (fun k => ?_) (Ev.bind (f := fun k t => graph_Reach.l0 k [] t (t.length : Int) 0) hE (by simpa using h0))
    rw [if_pos hz, if_neg (by omega), decide_eq_false (by omega)]
    simp only [graph_Reach.j0]
    rw [if_neg (by simp)]
theorem greach_bad (n : Int) (l : List S46) (s : Int) (h : gchk n l ≠ 0 ∨ ¬ (0 ≤ s ∧ s < n)) : Ev (fun k => graph_Reach.f k n l s) ([], if gchk n l ≠ 0 then gchk n l else 6) := by
  unfold graph_Reach.f
  refine Ev.bind (gchk_ev n l) ?_
  by_cases hz : gchk n l = 0
  · have hs : ¬ (0 ≤ s ∧ s < n) := by rcases h with h | h; exact absurd hz h; exact h
    rw [if_neg (by simp [hz])]
    refine Ev.step (f := fun _ => some ([], 6)) (fun k => ?_) (Ev.now _)
    rw [if_pos hz]
    by_cases c : s < 0
    · rw [if_pos c]; simp only [graph_Reach.j0]; rfl
    · rw [if_neg c, decide_eq_true (by omega)]; simp only [graph_Reach.j0]; rfl
  · rw [if_pos hz]
    exact Ev.congr (f := fun _ => some ([], gchk n l)) (fun k => by rw [if_neg hz]) (Ev.now _)
end Go.Proofs.Ytlbkbodadkhogaa.Pure
end

/- The plain laws of graphs, H: components. -/
section
namespace Go.Proofs.Ytlbkbodadkhogaa.Pure
open Go.RowKit Go.Proofs.Ytlbkbodadkhogaa.X Go.Proofs.YtlbkbodadkhogaaW.PrintWords
set_option linter.unusedVariables false
theorem Ed.turn {l : List S46} {b : Bool} {x y : Int} (h : Ed l b x y) : Ed l (!b) y x := by
  obtain ⟨a, ha, e1, e2⟩ := h
  refine ⟨a, ha, ?_, ?_⟩
  · cases b <;> simpa [frm, tow] using e2
  · cases b <;> simpa [frm, tow] using e1
theorem Wk.lead {l : List S46} {b : Bool} {s x : Int} (h : Ed l b s x) : ∀ {d : Nat} {y : Int}, Wk l b x d y → Wk l b s (d + 1) y := by
  intro d
  induction d with
  | zero => intro y w; cases w; exact ⟨s, rfl, h⟩
  | succ d ih => intro y w; obtain ⟨z, w, e⟩ := w; exact ⟨z, ih w, e⟩
theorem Wk.turn {l : List S46} {b : Bool} {s : Int} : ∀ {d : Nat} {y : Int}, Wk l b s d y → Wk l (!b) y d s := by
  intro d
  induction d with
  | zero => intro y w; cases w; exact rfl
  | succ d ih => intro y w; obtain ⟨z, w, e⟩ := w; exact Wk.lead e.turn (ih w)
theorem Wk.trans {l : List S46} {b : Bool} {s x : Int} {d : Nat} (h : Wk l b s d x) : ∀ {e : Nat} {y : Int}, Wk l b x e y → Wk l b s (d + e) y := by
  intro e
  induction e with
  | zero => intro y w; cases w; exact h
  | succ e ih => intro y w; obtain ⟨z, w, q⟩ := w; exact ⟨z, ih w, q⟩
def Rch (l : List S46) (x y : Int) : Prop := ∃ d, Wk l false x d y
theorem Rch.refl (l : List S46) (x : Int) : Rch l x x := ⟨0, rfl⟩
theorem Rch.trans {l : List S46} {x y z : Int} (h : Rch l x y) (k : Rch l y z) : Rch l x z := by
  obtain ⟨d, h⟩ := h
  obtain ⟨e, k⟩ := k
  exact ⟨d + e, h.trans k⟩
/-- Each leads to the other. -/
def Mut (l : List S46) (x y : Int) : Prop := Rch l x y ∧ Rch l y x
open Classical in
noncomputable def mutB (l : List S46) (x y : Int) : Bool := decide (Mut l x y)
theorem mutB_iff {l : List S46} {x y : Int} : mutB l x y = true ↔ Mut l x y := by unfold mutB; exact @decide_eq_true_iff _ (Classical.propDecidable _)
def flt (m : Int → Bool) : Nat → Nat → List Int
  | _, 0 => []
  | i, e + 1 => if m i = true then (i : Int) :: flt m (i + 1) e else flt m (i + 1) e
def mark (m : Int → Bool) : List Bool → Nat → Nat → List Bool
  | D, _, 0 => D
  | D, i, e + 1 => mark m (if m i = true then D.set i true else D) (i + 1) e
theorem flt_len (m : Int → Bool) : ∀ (e i : Nat), (flt m i e).length ≤ e := by
  intro e
  induction e with
  | zero => intro i; simp [flt]
  | succ e ih => intro i; unfold flt; have := ih (i + 1); split <;> simp <;> omega
theorem mark_len (m : Int → Bool) : ∀ (e i : Nat) (D : List Bool), (mark m D i e).length = D.length := by
  intro e
  induction e with
  | zero => intro i D; rfl
  | succ e ih => intro i D; unfold mark; rw [ih]; split <;> simp
theorem flt_skip (m : Int → Bool) (e : Nat) : ∀ (j i : Nat), (∀ w : Nat, i ≤ w → w < i + j → m w = false) → flt m i (j + e) = flt m (i + j) e := by
  intro j
  induction j with
  | zero => intro i _; simp
  | succ j ih =>
    intro i h
    rw [show j + 1 + e = (j + e) + 1 from by omega]
    show (if m i = true then _ else _) = _
    rw [if_neg (by rw [h i (by omega) (by omega)]; simp), ih (i + 1) (fun w h1 h2 => h w (by omega) (by omega)), show i + 1 + j = i + (j + 1) from by omega]
theorem mark_skip (m : Int → Bool) (e : Nat) (D : List Bool) : ∀ (j i : Nat), (∀ w : Nat, i ≤ w → w < i + j → m w = false) → mark m D i (j + e) = mark m D (i + j) e := by
  intro j
  induction j with
  | zero => intro i _; simp
  | succ j ih =>
    intro i h
    rw [show j + 1 + e = (j + e) + 1 from by omega]
    show mark m (if m i = true then _ else _) (i + 1) (j + e) = _
    rw [if_neg (by rw [h i (by omega) (by omega)]; simp), ih (i + 1) (fun w h1 h2 => h w (by omega) (by omega)), show i + 1 + j = i + (j + 1) from by omega]
theorem rdB_set (L : List Bool) (i : Nat) (v : Bool) (y : Nat) (h1 : i < L.length) : rdOf false (L.set i v) (y : Int) = if y = i then v else rdOf false L (y : Int) := by
  unfold rdOf
  rw [List.getD_eq_getElem?_getD, List.getD_eq_getElem?_getD, List.getElem?_set, Int.toNat_natCast]
  by_cases c : y = i
  · subst c; rw [if_pos rfl, if_pos h1, if_pos rfl]; rfl
  · rw [if_neg (fun q => c q.symm), if_neg c]
theorem mark_rd (m : Int → Bool) : ∀ (e i : Nat) (D : List Bool), i + e ≤ D.length → ∀ y : Nat, (rdOf false (mark m D i e) (y : Int) = true ↔ (rdOf false D (y : Int) = true ∨ (i ≤ y ∧ y < i + e ∧ m y = true))) := by
  intro e
  induction e with
  | zero => intro i D _ y; unfold mark; exact ⟨.inl, fun q => q.elim id (fun q => by omega)⟩
  | succ e ih =>
    intro i D h y
    unfold mark
    have hlen : (if m i = true then D.set i true else D).length = D.length := by split <;> simp
    rw [ih (i + 1) (if m i = true then D.set i true else D) (by rw [hlen]; omega) y]
    by_cases c : m i = true
    · rw [if_pos c, rdB_set _ _ _ _ (by omega)]
      by_cases q : y = i
      · subst q; rw [if_pos rfl]; exact ⟨fun _ => .inr ⟨Nat.le_refl _, by omega, c⟩, fun _ => .inl rfl⟩
      · rw [if_neg q]
        constructor
        · rintro (r | ⟨r1, r2, r3⟩)
          · exact .inl r
          · exact .inr ⟨by omega, by omega, r3⟩
        · rintro (r | ⟨r1, r2, r3⟩)
          · exact .inl r
          · exact .inr ⟨by omega, by omega, r3⟩
    · rw [if_neg c]
      constructor
      · rintro (r | ⟨r1, r2, r3⟩)
        · exact .inl r
        · exact .inr ⟨by omega, by omega, r3⟩
      · rintro (r | ⟨r1, r2, r3⟩)
        · exact .inl r
        · refine .inr ⟨?_, by omega, r3⟩
          rcases Nat.lt_or_ge i y with q | q
          · omega
          · have : y = i := by omega
            subst this; exact absurd r3 c
/-- The components, in the order of their least nodes. -/
def prts (m : Int → Int → Bool) (N : Nat) : Nat → Nat → List Bool → List (List Int) → List (List Int)
  | 0, _, _, P => P
  | e + 1, v, D, P => if rdOf false D (v : Int) = true then prts m N e (v + 1) D P else prts m N e (v + 1) (mark (m v) D 0 N) (P ++ [flt (m v) 0 N])
theorem prts_len (m : Int → Int → Bool) (N : Nat) : ∀ (e v : Nat) (D : List Bool) (P : List (List Int)), (∀ p ∈ P, p.length ≤ N) → (prts m N e v D P).length ≤ P.length + e ∧ ∀ p ∈ prts m N e v D P, p.length ≤ N := by
  intro e
  induction e with
  | zero => intro v D P h; exact ⟨by simp [prts], h⟩
  | succ e ih =>
    intro v D P h
    unfold prts
    split
    · obtain ⟨h1, h2⟩ := ih (v + 1) D P h
      exact ⟨by omega, h2⟩
    · obtain ⟨h1, h2⟩ := ih (v + 1) (mark (m v) D 0 N) (P ++ [flt (m v) 0 N]) (fun p hp => by
        rcases List.mem_append.1 hp with q | q
        · exact h p q
        · simp at q; subst q; exact flt_len _ _ _)
      simp only [List.length_append, List.length_cons, List.length_nil] at h1
      exact ⟨by omega, h2⟩
/-! The program. -/
theorem gp_l1 {N : Nat} (hN : N ≤ 64) (l : List S46) (A B : List Int) (hA : A.length = N) (hB : B.length = N) (m : Int → Bool) (hm : ∀ w : Nat, w < N → (m w = true ↔ (rd A w ≥ 0 ∧ rd B w ≥ 0))) (P : List (List Int)) (hP : P.length ≤ 1000) (v : Int) (r : List (List Int) × Int) :
    ∀ (e i : Nat), N - i = e → i ≤ N → ∀ (D : List Bool) (o : List Int), D.length = N → o.length ≤ i →
      Ev (fun k => graph_Parts.l0 k (mark m D i e) (P ++ [o ++ flt m i e]) (N : Int) (wrap64 (v + 1)) (N : Int) l) r →
      Ev (fun k => graph_Parts.l1 k D P A B o (N : Int) v (N : Int) (i : Int) (N : Int) l) r := by
  intro e
  induction e with
  | zero =>
    intro i he hi D o hD ho h
    simp only [mark, flt, List.append_nil] at h
    refine Ev.step (fun k => ?_) h
    simp only [graph_Parts.l1]
    rw [if_neg (by omega), if_pos (by omega)]
  | succ e ih =>
    intro i he hi D o hD ho h
    have hlt : i < N := by omega
    have hmi := hm i hlt
    by_cases c : m i = true
    · obtain ⟨c1, c2⟩ := hmi.1 c
      have hn := ih (i + 1) (by omega) (by omega) (D.set i true) (o ++ [(i : Int)]) (by simp [hD]) (by simp; omega) (by
        unfold mark flt at h
        rw [if_pos c, if_pos c] at h
        simpa using h)
      refine Ev.step (fun k => ?_) hn
      simp only [graph_Parts.l1]
      rw [if_pos (by omega), if_pos (by omega), if_pos (by omega), if_pos c1, if_pos (by omega), if_pos c2, if_pos (by omega), if_pos (by omega), Int.toNat_natCast, w64 (by omega)]
    · have hn := ih (i + 1) (by omega) (by omega) D o hD (by omega) (by
        unfold mark flt at h
        rw [if_neg c, if_neg c] at h
        exact h)
      refine Ev.step (fun k => ?_) hn
      simp only [graph_Parts.l1]
      rw [if_pos (by omega), if_pos (by omega), if_pos (by omega), w64 (by omega)]
      by_cases c1 : rd A i ≥ 0
      · rw [if_pos c1, if_pos (by omega), if_neg (fun q => c (hmi.2 ⟨c1, q⟩))]
      · rw [if_neg c1]
theorem gp_l0 {N : Nat} (hN : N ≤ 64) (l : List S46) (hl : l.length ≤ 512) (ho : Ok N l) : ∀ (e v : Nat), N - v = e → v ≤ N → ∀ (D : List Bool) (P : List (List Int)), D.length = N → P.length ≤ v →
    Ev (fun k => graph_Parts.l0 k D P (N : Int) (v : Int) (N : Int) l) (prts (mutB l) N e v D P, 0) := by
  intro e
  induction e with
  | zero =>
    intro v he hv D P hD hP
    refine Ev.step (f := fun _ => some (P, 0)) (fun k => ?_) (Ev.now _)
    simp only [graph_Parts.l0]
    rw [if_neg (by omega)]
  | succ e ih =>
    intro v he hv D P hD hP
    unfold prts
    by_cases c : rdOf false D (v : Int) = true
    · rw [if_pos c]
      refine Ev.step (fun k => ?_) (ih (v + 1) (by omega) (by omega) D P hD (by omega))
      simp only [graph_Parts.l0]
      rw [if_pos (by omega), if_pos (by omega), if_pos (by omega), if_pos c, w64 (by omega)]
    · rw [if_neg c]
      have hvr : 0 ≤ (v : Int) ∧ (v : Int) < N := by omega
      obtain ⟨A, hA, hEA⟩ := waves_ev false l ho (by omega) (by omega) v hvr
      obtain ⟨B, hB, hEB⟩ := waves_ev true l ho (by omega) (by omega) v hvr
      refine Ev.step (fun k => by simp only [graph_Parts.l0]; rw [if_pos (by omega), if_pos (by omega), if_pos (by omega), if_neg c]) (Ev.bind hEA (Ev.bind hEB ?_))
      refine gp_l1 hN l A B hA.len hB.len (mutB l v) (fun w hw => ?_) P (by omega) v _ N 0 (by omega) (by omega) D [] hD (by simp) ?_
      · rw [mutB_iff]
        unfold Mut Rch
        have h1 := hA.val w (by omega) (by omega)
        have h2 := hB.val w (by omega) (by omega)
        constructor
        · rintro ⟨⟨d, w1⟩, ⟨f, w2⟩⟩
          constructor
          · rcases h1 with ⟨_, q⟩ | ⟨j, q, _⟩
            · exact absurd w1 (q d)
            · omega
          · rcases h2 with ⟨_, q⟩ | ⟨j, q, _⟩
            · exact absurd (Wk.turn (b := false) w2) (q f)
            · omega
        · rintro ⟨q1, q2⟩
          constructor
          · rcases h1 with ⟨q, _⟩ | ⟨j, _, q⟩
            · omega
            · exact ⟨j, q.1⟩
          · rcases h2 with ⟨q, _⟩ | ⟨j, _, q⟩
            · omega
            · exact ⟨j, Wk.turn (b := true) q.1⟩
      · rw [w64 (by omega), List.nil_append]
        exact ih (v + 1) (by omega) (by omega) _ _ (by rw [mark_len, hD]) (by simp; omega)
theorem gparts_ev {n : Int} {l : List S46} {N : Nat} (hn : n = N) (hN : N ≤ 64) (hl : l.length ≤ 512) (ho : Ok N l) (hz : gchk n l = 0) : Ev (fun k => graph_Parts.f k n l) (prts (mutB l) N N 0 (List.replicate N false) [], 0) := by
  subst hn
  unfold graph_Parts.f
  refine Ev.bind (gchk_ev (N : Int) l) ?_
  refine Ev.congr (fun k => ?_) (gp_l0 hN l hl ho N 0 (by omega) (by omega) (List.replicate N false) [] (by simp) (by simp))
  rw [if_pos hz, if_pos (by omega), Int.toNat_natCast, if_pos (by omega)]
  rfl
end Go.Proofs.Ytlbkbodadkhogaa.Pure
end

/- The plain laws of graphs, J: closures, plain. -/
section
namespace Go.Proofs.Ytlbkbodadkhogaa.Pure
open Go.RowKit Go.Proofs.Ytlbkbodadkhogaa.X Go.Proofs.YtlbkbodadkhogaaW.PrintWords
set_option linter.unusedVariables false
/-! Rows of arcs in strict order. -/
def Str (L : List S46) : Prop := L.Pairwise (fun a b => cmpA a b < 0)
theorem cmpA_lt {x y : S46} : cmpA x y < 0 ↔ (x.f0 < y.f0 ∨ (x.f0 = y.f0 ∧ x.f1 < y.f1)) := by
  unfold cmpA
  split <;> constructor <;> intro h <;> omega
theorem cmpA_le {x y : S46} : cmpA x y ≤ 0 ↔ (x.f0 < y.f0 ∨ (x.f0 = y.f0 ∧ x.f1 ≤ y.f1)) := by
  unfold cmpA
  split <;> constructor <;> intro h <;> omega
theorem S46_ext {x y : S46} (h0 : x.f0 = y.f0) (h1 : x.f1 = y.f1) : x = y := by
  cases x; cases y; simp only at h0 h1; subst h0; subst h1; rfl
theorem Str.one : ∀ {L M : List S46}, Str L → Str M → (∀ a, a ∈ L ↔ a ∈ M) → L = M := by
  intro L
  induction L with
  | nil =>
    intro M _ _ h
    cases M with
    | nil => rfl
    | cons y M => exact absurd ((h y).2 (by simp)) (by simp)
  | cons x L ih =>
    intro M h1 h2 h
    cases M with
    | nil => exact absurd ((h x).1 (by simp)) (by simp)
    | cons y M =>
      obtain ⟨p1, p2⟩ := List.pairwise_cons.1 h1
      obtain ⟨q1, q2⟩ := List.pairwise_cons.1 h2
      have e : x = y := by
        rcases List.mem_cons.1 ((h x).1 (by simp)) with e | a
        · exact e
        · rcases List.mem_cons.1 ((h y).2 (by simp)) with e | b
          · exact e.symm
          · have u := cmpA_lt.1 (q1 x a)
            have v := cmpA_lt.1 (p1 y b)
            omega
      subst e
      rw [ih p2 q2 (fun a => ?_)]
      constructor
      · intro ha
        rcases List.mem_cons.1 ((h a).1 (by simp [ha])) with e | b
        · subst e; have := cmpA_lt.1 (p1 a ha); omega
        · exact b
      · intro ha
        rcases List.mem_cons.1 ((h a).2 (by simp [ha])) with e | b
        · subst e; have := cmpA_lt.1 (q1 a ha); omega
        · exact b
/-- Each once. -/
def dd : Option S46 → List S46 → List S46
  | _, [] => []
  | p, a :: r => if sameA p a = true then dd (some a) r else a :: dd (some a) r
theorem eqB_iff {x y : S46} : eqB x y = true ↔ x = y := by
  unfold eqB
  rw [Bool.and_eq_true, decide_eq_true_iff, decide_eq_true_iff]
  exact ⟨fun h => S46_ext h.1 h.2, fun h => by subst h; exact ⟨rfl, rfl⟩⟩
theorem cloOut_dd : ∀ (S : List S46) (p : Option S46) (out : List S46), out.length ≤ 512 → cloOut S p out = if out.length + (dd p S).length ≤ 512 then (out ++ dd p S, false) else ([], true) := by
  intro S
  induction S with
  | nil => intro p out h; simp [cloOut, dd, h]
  | cons a r ih =>
    intro p out h
    unfold cloOut dd
    by_cases c : sameA p a = true
    · rw [if_pos c, if_pos c, ih _ _ h]
    · rw [if_neg c, if_neg c]
      by_cases d : out.length = 512
      · rw [if_pos d, if_neg (by simp only [List.length_cons]; omega)]
      · rw [if_neg d, ih _ _ (by simp; omega)]
        simp only [List.length_append, List.length_cons, List.length_nil, List.append_assoc, List.cons_append, List.nil_append]
        rw [show out.length + (0 + 1) + (dd (some a) r).length = out.length + ((dd (some a) r).length + 1) from by omega]
theorem dd_some : ∀ (S : List S46) (p : S46), (p :: S).Pairwise (fun a b => cmpA a b ≤ 0) → Str (p :: dd (some p) S) ∧ ∀ a, a ∈ p :: dd (some p) S ↔ a ∈ p :: S := by
  intro S
  induction S with
  | nil => intro p _; exact ⟨by simp [Str, dd], fun a => Iff.rfl⟩
  | cons x S ih =>
    intro p h
    obtain ⟨h1, h2⟩ := List.pairwise_cons.1 h
    obtain ⟨g1, g2⟩ := ih x h2
    unfold dd
    by_cases c : sameA (some p) x = true
    · have e : p = x := (eqB_iff.1 c).symm
      subst e
      rw [if_pos c]
      refine ⟨g1, fun a => ?_⟩
      rw [g2 a]
      simp
    · rw [if_neg c]
      have hne : p ≠ x := fun e => c (eqB_iff.2 e.symm)
      have hpx : cmpA p x < 0 := by
        have u := cmpA_le.1 (h1 x (by simp))
        refine cmpA_lt.2 ?_
        rcases u with u | ⟨u, v⟩
        · exact .inl u
        · by_cases w : p.f1 < x.f1
          · exact .inr ⟨u, w⟩
          · exact absurd (S46_ext u (by omega)) hne
      refine ⟨List.pairwise_cons.2 ⟨fun b hb => ?_, g1⟩, fun a => ?_⟩
      · rcases List.mem_cons.1 hb with e | hb
        · subst e; exact hpx
        · have v := cmpA_lt.1 ((List.pairwise_cons.1 g1).1 b hb)
          have u := cmpA_lt.1 hpx
          exact cmpA_lt.2 (by omega)
      · rw [List.mem_cons, g2 a, ← List.mem_cons]
theorem dd_none (S : List S46) (h : S.Pairwise (fun a b => cmpA a b ≤ 0)) : Str (dd none S) ∧ ∀ a, a ∈ dd none S ↔ a ∈ S := by
  cases S with
  | nil => exact ⟨List.Pairwise.nil, fun a => Iff.rfl⟩
  | cons x S =>
    have : dd none (x :: S) = x :: dd (some x) S := rfl
    rw [this]
    exact dd_some S x h
/-! All arcs in order. -/
def row (m : Int → Int → Bool) (N : Nat) (x : Nat) : List S46 := (flt (m x) 0 N).map (fun y => ⟨(x : Int), y⟩)
def gen (m : Int → Int → Bool) (N : Nat) : Nat → Nat → List S46
  | 0, _ => []
  | e + 1, x => row m N x ++ gen m N e (x + 1)
theorem mem_flt (m : Int → Bool) : ∀ (e i : Nat) (y : Int), y ∈ flt m i e ↔ ((i : Int) ≤ y ∧ y < (i : Int) + e ∧ m y = true) := by
  intro e
  induction e with
  | zero => intro i y; simp [flt]; omega
  | succ e ih =>
    intro i y
    unfold flt
    have h := ih (i + 1) y
    by_cases c : m i = true
    · rw [if_pos c, List.mem_cons, h]
      constructor
      · rintro (e | ⟨h1, h2, h3⟩)
        · subst e; exact ⟨by omega, by omega, c⟩
        · exact ⟨by omega, by omega, h3⟩
      · rintro ⟨h1, h2, h3⟩
        by_cases q : y = i
        · exact .inl q
        · exact .inr ⟨by omega, by omega, h3⟩
    · rw [if_neg c, h]
      constructor
      · rintro ⟨h1, h2, h3⟩; exact ⟨by omega, by omega, h3⟩
      · rintro ⟨h1, h2, h3⟩
        by_cases q : y = i
        · subst q; exact absurd h3 c
        · exact ⟨by omega, by omega, h3⟩
theorem flt_lt (m : Int → Bool) : ∀ (e i : Nat), (flt m i e).Pairwise (· < ·) := by
  intro e
  induction e with
  | zero => intro i; exact List.Pairwise.nil
  | succ e ih =>
    intro i
    unfold flt
    split
    · exact List.pairwise_cons.2 ⟨fun y hy => by have := (mem_flt m e (i + 1) y).1 hy; omega, ih (i + 1)⟩
    · exact ih (i + 1)
theorem mem_gen (m : Int → Int → Bool) (N : Nat) : ∀ (e x : Nat) (a : S46), a ∈ gen m N e x ↔ ((x : Int) ≤ a.f0 ∧ a.f0 < (x : Int) + e ∧ 0 ≤ a.f1 ∧ a.f1 < N ∧ m a.f0 a.f1 = true) := by
  intro e
  induction e with
  | zero => intro x a; simp [gen]; omega
  | succ e ih =>
    intro x a
    unfold gen
    rw [List.mem_append, ih]
    have hrow : a ∈ row m N x ↔ (a.f0 = x ∧ 0 ≤ a.f1 ∧ a.f1 < N ∧ m a.f0 a.f1 = true) := by
      unfold row
      rw [List.mem_map]
      constructor
      · rintro ⟨y, hy, e⟩
        have := (mem_flt _ _ _ _).1 hy
        subst e
        exact ⟨rfl, by simp only; omega, by simp only; omega, this.2.2⟩
      · rintro ⟨h1, h2, h3, h4⟩
        refine ⟨a.f1, (mem_flt _ _ _ _).2 ⟨by omega, by omega, by rw [← h1]; exact h4⟩, S46_ext h1.symm rfl⟩
    rw [hrow]
    constructor
    · rintro (⟨h1, h2, h3, h4⟩ | ⟨h1, h2, h3⟩)
      · exact ⟨by omega, by omega, h2, h3, h4⟩
      · exact ⟨by omega, by omega, h3⟩
    · rintro ⟨h1, h2, h3⟩
      by_cases q : a.f0 = x
      · exact .inl ⟨q, h3⟩
      · exact .inr ⟨by omega, by omega, h3⟩
theorem gen_str (m : Int → Int → Bool) (N : Nat) : ∀ (e x : Nat), Str (gen m N e x) := by
  intro e
  induction e with
  | zero => intro x; exact List.Pairwise.nil
  | succ e ih =>
    intro x
    unfold gen Str
    rw [List.pairwise_append]
    refine ⟨?_, ih (x + 1), fun a ha b hb => ?_⟩
    · unfold row
      rw [List.pairwise_map]
      refine List.Pairwise.imp ?_ (flt_lt (m x) N 0)
      intro y z h
      exact cmpA_lt.2 (.inr ⟨rfl, h⟩)
    · unfold row at ha
      obtain ⟨y, hy, e⟩ := List.mem_map.1 ha
      subst e
      have := (mem_gen m N _ _ b).1 hb
      exact cmpA_lt.2 (.inl (by simp only; omega))
/-! What Close finds. -/
def Cls (l : List S46) (x y : Int) : Prop := ∃ a ∈ l, a.f0 = x ∧ Rch l a.f1 y
open Classical in
noncomputable def clsB (l : List S46) (x y : Int) : Bool := decide (Cls l x y)
theorem clsB_iff {l : List S46} {x y : Int} : clsB l x y = true ↔ Cls l x y := by unfold clsB; exact @decide_eq_true_iff _ (Classical.propDecidable _)
/-- What Close answers. -/
noncomputable def CloseIs (N : Nat) (l : List S46) : Int × List S46 × Int := if (gen (clsB l) N N 0).length ≤ 512 then ((N : Int), gen (clsB l) N N 0, 0) else (0, [], 3)
end Go.Proofs.Ytlbkbodadkhogaa.Pure
end

/- The plain laws of graphs, K: Close, of the program and of the reference. -/
section
namespace Go.Proofs.Ytlbkbodadkhogaa.Pure
open Go.RowKit Go.Proofs.Ytlbkbodadkhogaa.X Go.Proofs.YtlbkbodadkhogaaW.PrintWords
set_option linter.unusedVariables false
theorem mem_hits (x : Int) (far : List Int) : ∀ (i : Nat) (b : S46), b ∈ hitsN x far i ↔ (b.f0 = x ∧ 0 ≤ b.f1 ∧ b.f1 < (i : Int) ∧ 0 ≤ rd far b.f1) := by
  intro i
  induction i with
  | zero => intro b; simp [hitsN]; omega
  | succ i ih =>
    intro b
    unfold hitsN
    rw [List.mem_append, ih]
    by_cases c : 0 ≤ rd far i
    · rw [if_pos c, List.mem_singleton]
      constructor
      · rintro (⟨h1, h2, h3, h4⟩ | e)
        · exact ⟨h1, h2, by omega, h4⟩
        · subst e; exact ⟨rfl, by simp only; omega, by simp only; omega, c⟩
      · rintro ⟨h1, h2, h3, h4⟩
        by_cases q : b.f1 = i
        · exact .inr (S46_ext h1 q)
        · exact .inl ⟨h1, h2, by omega, h4⟩
    · rw [if_neg c]
      constructor
      · rintro (⟨h1, h2, h3, h4⟩ | e)
        · exact ⟨h1, h2, by omega, h4⟩
        · simp at e
      · rintro ⟨h1, h2, h3, h4⟩
        by_cases q : b.f1 = i
        · rw [q] at h4; exact absurd h4 c
        · exact .inl ⟨h1, h2, by omega, h4⟩
theorem cloAll_ev {N : Nat} (hN : N ≤ 64) (l : List S46) (hl : l.length ≤ 512) (ho : Ok N l) : ∀ (p : List S46), (∀ a ∈ p, a ∈ l) → ∀ acc : List S46, acc.length + 64 * p.length ≤ 100000 →
    ∃ all, Ev (fun k => cloAll (fun y => graph_waves.f k (N : Int) l y false) p acc) all ∧ ∀ b, b ∈ all ↔ (b ∈ acc ∨ ∃ a ∈ p, b.f0 = a.f0 ∧ 0 ≤ b.f1 ∧ b.f1 < N ∧ Rch l a.f1 b.f1) := by
  intro p
  induction p with
  | nil => intro _ acc _; exact ⟨acc, Ev.congr (f := fun _ => some acc) (fun k => rfl) (Ev.now _), fun b => by simp⟩
  | cons a p ih =>
    intro hp acc hb
    simp only [List.length_cons] at hb
    have ha := ho a (hp a (by simp))
    obtain ⟨F, hF, hE⟩ := waves_ev false l ho (by omega) (by omega) a.f1 ⟨ha.2.2.1, ha.2.2.2⟩
    have hFl := hF.len
    have hh := hitsN_len a.f0 F F.length
    obtain ⟨all, h1, h2⟩ := ih (fun z hz => hp z (by simp [hz])) (acc ++ hitsN a.f0 F F.length) (by rw [List.length_append]; omega)
    refine ⟨all, ?_, fun b => ?_⟩
    · refine Ev.congr (fun k => by unfold cloAll; rfl) (Ev.bind hE ?_)
      exact Ev.congr (fun k => by rw [if_pos (by omega)]) h1
    · rw [h2, List.mem_append, mem_hits]
      have key : (0 ≤ b.f1 ∧ b.f1 < (F.length : Int) ∧ 0 ≤ rd F b.f1) ↔ (0 ≤ b.f1 ∧ b.f1 < N ∧ Rch l a.f1 b.f1) := by
        rw [hFl]
        constructor
        · rintro ⟨q1, q2, q3⟩
          rcases hF.val b.f1 q1 q2 with ⟨w, _⟩ | ⟨d, _, w⟩
          · omega
          · exact ⟨q1, q2, d, w.1⟩
        · rintro ⟨q1, q2, d, w⟩
          rcases hF.val b.f1 q1 q2 with ⟨_, v⟩ | ⟨j, v, _⟩
          · exact absurd w (v d)
          · exact ⟨q1, q2, by omega⟩
      constructor
      · rintro ((q | ⟨q, w⟩) | ⟨z, hz, q⟩)
        · exact .inl q
        · exact .inr ⟨a, by simp, q, key.1 w⟩
        · exact .inr ⟨z, by simp [hz], q⟩
      · rintro (q | ⟨z, hz, q, w⟩)
        · exact .inl (.inl q)
        · rcases List.mem_cons.1 hz with e | hz
          · subst e; exact .inl (.inr ⟨q, key.2 w⟩)
          · exact .inr ⟨z, hz, q, w⟩
theorem gclose_ev {n : Int} {l : List S46} {N : Nat} (hn : n = N) (hN : N ≤ 64) (hl : l.length ≤ 512) (ho : Ok N l) (hz : gchk n l = 0) : Ev (fun k => graph_Close.f k n l) (CloseIs N l) := by
  subst hn
  obtain ⟨all, h1, h2⟩ := cloAll_ev hN l hl ho l (fun a ha => ha) [] (by simp; omega)
  have hs := sortA_sorted all
  obtain ⟨d1, d2⟩ := dd_none (sortA all) hs
  have hg : dd none (sortA all) = gen (clsB l) N N 0 := Str.one d1 (gen_str _ _ _ _) (fun b => by
    rw [d2, (sortA_perm all).mem_iff, h2, mem_gen, clsB_iff]
    constructor
    · rintro (q | ⟨a, ha, q, q1, q2, q3⟩)
      · simp at q
      · have hr := ho a ha
        exact ⟨by omega, by omega, q1, q2, a, ha, q.symm, q3⟩
    · rintro ⟨q1, q2, q3, q4, a, ha, q5, q6⟩
      exact .inr ⟨a, ha, q5.symm, q3, q4, q6⟩)
  have hc := cloOut_dd (sortA all) none [] (by simp)
  rw [hg] at hc
  simp only [List.length_nil, Nat.zero_add, List.nil_append] at hc
  unfold graph_Close.f graph_close
  refine Ev.congr (fun k => if_pos hz) (Ev.bind h1 ?_)
  refine Ev.congr (f := fun _ => some (CloseIs N l)) (fun k => ?_) (Ev.now _)
  rw [hc]
  unfold CloseIs
  by_cases c : (gen (clsB l) N N 0).length ≤ 512
  · simp [c]
  · simp [c]
end Go.Proofs.Ytlbkbodadkhogaa.Pure
end
