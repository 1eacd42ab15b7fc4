/- Texts of this claim in one: Pb, Pc, Pd, Pe, Pf. -/
import Derived.Test.YtlbkbodadkhogaaPa
import Derived.Test.YtlbkbodadkhogaaX7
import Derived.Test.YtlbkbodadkhogaaX8
import Derived.Test.YtlbkbodadkhogaaX20
import Derived.Test.YtlbkbodadkhogaaX22
import Derived.Test.YtlbkbodadkhogaaX9
import Derived.Test.YtlbkbodadkhogaaX23
/- The plain laws of graphs, B: walks, distances, waves. -/
section
namespace Go.Proofs.Ytlbkbodadkhogaa.Pure
open Go.RowKit Go.Proofs.Ytlbkbodadkhogaa.X Go.Proofs.YtlbkbodadkhogaaW.PrintWords
set_option linter.unusedVariables false
def frm (b : Bool) (a : S46) : Int := if b = true then a.f1 else a.f0
def tow (b : Bool) (a : S46) : Int := if b = true then a.f0 else a.f1
/-- An arc (backwards if b is set) leads from x to y. -/
def Ed (l : List S46) (b : Bool) (x y : Int) : Prop := ∃ a ∈ l, frm b a = x ∧ tow b a = y
/-- A walk of d arcs leads from s to y. -/
def Wk (l : List S46) (b : Bool) (s : Int) : Nat → Int → Prop
  | 0, y => y = s
  | d + 1, y => ∃ x, Wk l b s d x ∧ Ed l b x y
/-- The shortest walk from s to y has d arcs. -/
def Fst (l : List S46) (b : Bool) (s : Int) (d : Nat) (y : Int) : Prop := Wk l b s d y ∧ ∀ e, e < d → ¬ Wk l b s e y
/-- v tells how far y is: -1 if no walk leads there. -/
def IsD (l : List S46) (b : Bool) (s y v : Int) : Prop := (v = -1 ∧ ∀ d, ¬ Wk l b s d y) ∨ (∃ d : Nat, v = (d : Int) ∧ Fst l b s d y)
def Ok (N : Nat) (l : List S46) : Prop := ∀ a ∈ l, 0 ≤ a.f0 ∧ a.f0 < (N : Int) ∧ 0 ≤ a.f1 ∧ a.f1 < (N : Int)
section
variable {l : List S46} {b : Bool} {s : Int} {N : Nat}
theorem Fst.eq {d e : Nat} {y : Int} (h : Fst l b s d y) (k : Fst l b s e y) : d = e := by
  rcases Nat.lt_trichotomy d e with q | q | q
  · exact absurd h.1 (k.2 d q)
  · exact q
  · exact absurd k.1 (h.2 e q)
theorem IsD.eq {y v w : Int} (h : IsD l b s y v) (k : IsD l b s y w) : v = w := by
  rcases h with ⟨h1, h2⟩ | ⟨d, h1, h2⟩ <;> rcases k with ⟨k1, k2⟩ | ⟨e, k1, k2⟩
  · rw [h1, k1]
  · exact absurd k2.1 (h2 e)
  · exact absurd h2.1 (k2 d)
  · rw [h1, k1, h2.eq k2]
theorem Ed.range (h : Ok N l) {x y : Int} (e : Ed l b x y) : (0 ≤ x ∧ x < N) ∧ (0 ≤ y ∧ y < N) := by
  obtain ⟨a, ha, e1, e2⟩ := e
  have := h a ha
  unfold frm at e1
  unfold tow at e2
  cases b <;> simp at e1 e2 <;> omega
theorem Wk.range (h : Ok N l) (hs : 0 ≤ s ∧ s < N) : ∀ {d : Nat} {y : Int}, Wk l b s d y → 0 ≤ y ∧ y < N := by
  intro d y w
  cases d with
  | zero => cases w; exact hs
  | succ d => obtain ⟨x, _, e⟩ := w; exact (e.range h).2
theorem Fst.pred {d : Nat} {y : Int} (h : Fst l b s (d + 1) y) : ∃ x, Fst l b s d x ∧ Ed l b x y := by
  obtain ⟨⟨x, w, e⟩, h2⟩ := h
  exact ⟨x, ⟨w, fun j hj q => h2 (j + 1) (by omega) ⟨x, q, e⟩⟩, e⟩
theorem first_of {d : Nat} {y : Int} (h : Wk l b s d y) : ∃ e, e ≤ d ∧ Fst l b s e y := by
  induction d using Nat.strongRecOn with
  | ind d ih =>
    by_cases c : ∃ e, e < d ∧ Wk l b s e y
    · obtain ⟨e, he, w⟩ := c
      obtain ⟨j, hj, f⟩ := ih e he w
      exact ⟨j, by omega, f⟩
    · exact ⟨d, Nat.le_refl _, h, fun e he w => c ⟨e, he, w⟩⟩
theorem Fst.down {d : Nat} : ∀ {j : Nat} {y : Int}, Fst l b s (d + j) y → ∃ z, Fst l b s d z := by
  intro j
  induction j with
  | zero => intro y h; exact ⟨y, h⟩
  | succ j ih => intro y h; obtain ⟨x, hx, _⟩ := Fst.pred (d := d + j) h; exact ih hx
/-- Distinct numbers from 0 to N-1 are at most N. -/
theorem pigeon : ∀ (N : Nat) (L : List Int), L.Nodup → (∀ x ∈ L, 0 ≤ x ∧ x < (N : Int)) → L.length ≤ N := by
  intro N
  induction N with
  | zero =>
    intro L _ h
    cases L with
    | nil => simp
    | cons x L => have := h x (by simp); omega
  | succ N ih =>
    intro L hn h
    have h1 := ih (L.filter (fun x => x ≠ (N : Int))) (hn.filter _) (fun x hx => by
      have hx' := List.mem_filter.1 hx
      have := h x hx'.1
      have hne : x ≠ (N : Int) := by simpa using hx'.2
      omega)
    have h2 : L.length ≤ (L.filter (fun x => x ≠ (N : Int))).length + 1 := by
      clear ih h h1
      induction L with
      | nil => simp
      | cons x L ih =>
        rw [List.nodup_cons] at hn
        by_cases c : x = (N : Int)
        · have hL : L.filter (fun x => x ≠ (N : Int)) = L := List.filter_eq_self.2 (fun z hz => by
            have : z ≠ (N : Int) := fun e => hn.1 (by rw [c, ← e]; exact hz)
            simpa using this)
          rw [List.filter_cons_of_neg (by simp [c]), hL]
          simp
        · rw [List.filter_cons_of_pos (by simpa using c)]
          have := ih hn.2
          simp only [List.length_cons]
          omega
    omega
theorem Fst.layers (h : Ok N l) (hs : 0 ≤ s ∧ s < N) : ∀ {d : Nat} {y : Int}, Fst l b s d y → ∃ L : List Int, L.length = d + 1 ∧ L.Nodup ∧ (∀ x ∈ L, 0 ≤ x ∧ x < (N : Int)) ∧ (∀ x ∈ L, ∃ e, e ≤ d ∧ Fst l b s e x) := by
  intro d
  induction d with
  | zero =>
    intro y f
    refine ⟨[y], rfl, by simp, ?_, ?_⟩
    · intro x hx; simp at hx; subst hx; exact f.1.range h hs
    · intro x hx; simp at hx; subst hx; exact ⟨0, Nat.le_refl _, f⟩
  | succ d ih =>
    intro y f
    obtain ⟨x, fx, _⟩ := f.pred
    obtain ⟨L, l1, l2, l3, l4⟩ := ih fx
    refine ⟨y :: L, by simp [l1], List.nodup_cons.2 ⟨fun hy => ?_, l2⟩, ?_, ?_⟩
    · obtain ⟨e, he, fe⟩ := l4 y hy
      have := f.eq fe
      omega
    · intro z hz
      rcases List.mem_cons.1 hz with rfl | hz
      · exact f.1.range h hs
      · exact l3 z hz
    · intro z hz
      rcases List.mem_cons.1 hz with rfl | hz
      · exact ⟨d + 1, Nat.le_refl _, f⟩
      · obtain ⟨e, he, fe⟩ := l4 z hz
        exact ⟨e, by omega, fe⟩
/-- No shortest walk has as many arcs as there are nodes. -/
theorem Fst.lt (h : Ok N l) (hs : 0 ≤ s ∧ s < N) {d : Nat} {y : Int} (f : Fst l b s d y) : d < N := by
  obtain ⟨L, l1, l2, l3, _⟩ := f.layers h hs
  have := pigeon N L l2 l3
  omega
end
/-! The waves. -/
/-- One arc: y is new. -/
def wst (b : Bool) (x : Int) (s : List Int × List Int) (a : S46) : List Int × List Int :=
  if frm b a = x then (if rd s.1 (tow b a) < 0 then (s.1.set (tow b a).toNat (rd s.1 x + 1), s.2 ++ [tow b a]) else s) else s
/-- What is known within a round: D tells which nodes an arc has been seen to from the wave. -/
structure Jn (N : Nat) (d : Nat) (far0 : List Int) (D : Int → Prop) (s : List Int × List Int) : Prop where
  len : s.1.length = N
  old : ∀ y : Int, 0 ≤ y → y < N → 0 ≤ rd far0 y → rd s.1 y = rd far0 y
  new : ∀ y : Int, 0 ≤ y → y < N → rd far0 y < 0 → (rd s.1 y = (d : Int) + 1 ∧ D y ∧ y ∈ s.2) ∨ (rd s.1 y = -1 ∧ ¬ D y ∧ y ∉ s.2)
  sub : ∀ y ∈ s.2, 0 ≤ y ∧ y < N ∧ rd far0 y < 0
  cnt : s.2.length ≤ N ∧ s.2.Nodup
theorem rd_set (L : List Int) (i : Int) (v y : Int) (h0 : 0 ≤ i) (h1 : i < L.length) (hy : 0 ≤ y) : rd (L.set i.toNat v) y = if y = i then v else rd L y := by
  unfold rd
  rw [List.getD_eq_getElem?_getD, List.getD_eq_getElem?_getD, List.getElem?_set]
  by_cases c : y = i
  · subst c; rw [if_pos rfl, if_pos (by omega), if_pos rfl]; rfl
  · rw [if_neg (by omega), if_neg c]
theorem Jn.step {N d : Nat} {far0 : List Int} {D : Int → Prop} {s : List Int × List Int} (h : Jn N d far0 D s) (b : Bool) (x : Int) (a : S46) (hx : 0 ≤ x ∧ x < N) (hd : rd far0 x = d) (ha : 0 ≤ tow b a ∧ tow b a < N) :
    Jn N d far0 (fun y => D y ∨ (frm b a = x ∧ tow b a = y)) (wst b x s a) := by
  unfold wst
  by_cases c : frm b a = x
  · rw [if_pos c]
    have hxd : rd s.1 x = d := by rw [h.old x hx.1 hx.2 (by omega), hd]
    obtain ⟨y, hy⟩ : ∃ y, y = tow b a := ⟨_, rfl⟩
    rw [← hy] at ha ⊢
    by_cases e : rd s.1 y < 0
    · rw [if_pos e, hxd]
      have hf : rd far0 y < 0 := by
        rcases Classical.em (rd far0 y < 0) with q | q
        · exact q
        · have := h.old y ha.1 ha.2 (by omega); omega
      have hny : y ∉ s.2 := by
        rcases h.new y ha.1 ha.2 hf with q | q
        · omega
        · exact q.2.2
      have hnd : (s.2 ++ [y]).Nodup := by
        rw [List.nodup_append]
        refine ⟨h.cnt.2, by simp, fun z hz w hw => ?_⟩
        simp at hw; subst hw
        exact fun q => hny (q ▸ hz)
      have hsub : ∀ z ∈ s.2 ++ [y], 0 ≤ z ∧ z < N ∧ rd far0 z < 0 := by
        intro z hz
        rcases List.mem_append.1 hz with q | q
        · exact h.sub z q
        · simp at q; subst q; exact ⟨ha.1, ha.2, hf⟩
      refine ⟨by simp [h.len], fun z z0 z1 hz => ?_, fun z z0 z1 hz => ?_, hsub, pigeon N _ hnd (fun z hz => ⟨(hsub z hz).1, (hsub z hz).2.1⟩), hnd⟩
      · rw [rd_set _ _ _ _ ha.1 (by rw [h.len]; exact ha.2) z0]
        rw [if_neg (by rintro rfl; omega)]
        exact h.old z z0 z1 hz
      · rw [rd_set _ _ _ _ ha.1 (by rw [h.len]; exact ha.2) z0]
        by_cases q : z = y
        · subst q
          rw [if_pos rfl]
          exact .inl ⟨rfl, .inr ⟨c, rfl⟩, by simp⟩
        · rw [if_neg q]
          rcases h.new z z0 z1 hz with ⟨r1, r2, r3⟩ | ⟨r1, r2, r3⟩
          · exact .inl ⟨r1, .inl r2, by simp [r3]⟩
          · exact .inr ⟨r1, fun w => w.elim r2 (fun w => q w.2.symm), by simp [r3, q]⟩
    · rw [if_neg e]
      refine ⟨h.len, h.old, fun z z0 z1 hz => ?_, h.sub, h.cnt⟩
      rcases h.new z z0 z1 hz with ⟨r1, r2, r3⟩ | ⟨r1, r2, r3⟩
      · exact .inl ⟨r1, .inl r2, r3⟩
      · refine .inr ⟨r1, fun w => w.elim r2 (fun w => ?_), r3⟩
        rw [w.2] at e; omega
  · rw [if_neg c]
    refine ⟨h.len, h.old, fun z z0 z1 hz => ?_, h.sub, h.cnt⟩
    rcases h.new z z0 z1 hz with ⟨r1, r2, r3⟩ | ⟨r1, r2, r3⟩
    · exact .inl ⟨r1, .inl r2, r3⟩
    · exact .inr ⟨r1, fun w => w.elim r2 (fun w => c w.1), r3⟩
theorem Jn.imp {N d : Nat} {far0 : List Int} {D E : Int → Prop} {s : List Int × List Int} (h : Jn N d far0 D s) (e : ∀ y, D y ↔ E y) : Jn N d far0 E s :=
  ⟨h.len, h.old, fun z z0 z1 hz => (h.new z z0 z1 hz).imp (fun q => ⟨q.1, (e z).1 q.2.1, q.2.2⟩) (fun q => ⟨q.1, fun w => q.2.1 ((e z).2 w), q.2.2⟩), h.sub, h.cnt⟩
/-- One node of the wave. -/
def wnd (b : Bool) (l : List S46) (s : List Int × List Int) (x : Int) : List Int × List Int := l.foldl (wst b x) s
theorem Jn.node {N d : Nat} {far0 : List Int} (b : Bool) (x : Int) (hx : 0 ≤ x ∧ x < N) (hd : rd far0 x = d) : ∀ (l : List S46), (∀ a ∈ l, 0 ≤ tow b a ∧ tow b a < N) → ∀ {D : Int → Prop} {s : List Int × List Int}, Jn N d far0 D s → Jn N d far0 (fun y => D y ∨ Ed l b x y) (wnd b l s x) := by
  intro l
  induction l with
  | nil => intro _ D s h; exact h.imp (fun y => ⟨.inl, fun q => q.elim id (fun ⟨a, ha, _⟩ => by simp at ha)⟩)
  | cons a l ih =>
    intro hl D s h
    have h1 := h.step b x a hx hd (hl a (by simp))
    refine (ih (fun z hz => hl z (by simp [hz])) h1).imp (fun y => ⟨fun q => ?_, fun q => ?_⟩)
    · rcases q with (q | q) | ⟨z, hz, q⟩
      · exact .inl q
      · exact .inr ⟨a, by simp, q⟩
      · exact .inr ⟨z, by simp [hz], q⟩
    · rcases q with q | ⟨z, hz, q⟩
      · exact .inl (.inl q)
      · rcases List.mem_cons.1 hz with rfl | hz
        · exact .inl (.inr q)
        · exact .inr ⟨z, hz, q⟩
theorem Jn.wave {N d : Nat} {far0 : List Int} (b : Bool) (l : List S46) (hl : ∀ a ∈ l, 0 ≤ tow b a ∧ tow b a < N) : ∀ (w : List Int), (∀ x ∈ w, (0 ≤ x ∧ x < N) ∧ rd far0 x = d) → ∀ {D : Int → Prop} {s : List Int × List Int}, Jn N d far0 D s → Jn N d far0 (fun y => D y ∨ ∃ x ∈ w, Ed l b x y) (w.foldl (wnd b l) s) := by
  intro w
  induction w with
  | nil => intro _ D s h; exact h.imp (fun y => ⟨.inl, fun q => q.elim id (fun ⟨a, ha, _⟩ => by simp at ha)⟩)
  | cons x w ih =>
    intro hw D s h
    obtain ⟨h1, h2⟩ := hw x (by simp)
    refine (ih (fun z hz => hw z (by simp [hz])) (Jn.node b x h1 h2 l hl h)).imp (fun y => ⟨fun q => ?_, fun q => ?_⟩)
    · rcases q with (q | q) | ⟨z, hz, q⟩
      · exact .inl q
      · exact .inr ⟨x, by simp, q⟩
      · exact .inr ⟨z, by simp [hz], q⟩
    · rcases q with q | ⟨z, hz, q⟩
      · exact .inl (.inl q)
      · rcases List.mem_cons.1 hz with rfl | hz
        · exact .inl (.inr q)
        · exact .inr ⟨z, hz, q⟩
/-- At the head of a round. -/
structure In (N : Nat) (l : List S46) (b : Bool) (s : Int) (d : Nat) (far wave : List Int) : Prop where
  len : far.length = N
  val : ∀ y : Int, 0 ≤ y → y < N → (∃ e : Nat, e ≤ d ∧ rd far y = e ∧ Fst l b s e y) ∨ (rd far y = -1 ∧ ∀ e, e ≤ d → ¬ Wk l b s e y)
  wav : ∀ y : Int, y ∈ wave ↔ (0 ≤ y ∧ y < N ∧ Fst l b s d y)
  cnt : wave.length ≤ N
theorem In.next_of {N : Nat} {l : List S46} {b : Bool} {s : Int} {d : Nat} {far wave : List Int} (ho : Ok N l) (hs : 0 ≤ s ∧ s < N) (h : In N l b s d far wave) {S : List Int × List Int} (hj : Jn N d far (fun y => False ∨ ∃ x ∈ wave, Ed l b x y) S) :
    In N l b s (d + 1) S.1 S.2 := by
  have hD : ∀ y, (∀ e, e ≤ d → ¬ Wk l b s e y) → ((False ∨ ∃ x ∈ wave, Ed l b x y) ↔ Wk l b s (d + 1) y) := by
    intro y hy
    constructor
    · rintro (q | ⟨x, hx, e⟩)
      · exact q.elim
      · exact ⟨x, ((h.wav x).1 hx).2.2.1, e⟩
    · rintro ⟨x, w, e⟩
      refine .inr ⟨x, (h.wav x).2 ?_, e⟩
      have hr := w.range ho hs
      exact ⟨hr.1, hr.2, w, fun j hj q => hy (j + 1) (by omega) ⟨x, q, e⟩⟩
  have hneg : ∀ y : Int, 0 ≤ y → y < N → rd far y < 0 → rd far y = -1 ∧ ∀ e, e ≤ d → ¬ Wk l b s e y := by
    intro y y0 y1 hy
    rcases h.val y y0 y1 with ⟨e, he, h1, h2⟩ | q
    · omega
    · exact q
  refine ⟨hj.len, fun y y0 y1 => ?_, fun y => ⟨fun hy => ?_, fun hy => ?_⟩, hj.cnt.1⟩
  · rcases h.val y y0 y1 with ⟨e, he, h1, h2⟩ | ⟨h1, h2⟩
    · exact .inl ⟨e, by omega, by rw [hj.old y y0 y1 (by omega)]; exact h1, h2⟩
    · rcases hj.new y y0 y1 (by omega) with ⟨r1, r2, _⟩ | ⟨r1, r2, _⟩
      · refine .inl ⟨d + 1, Nat.le_refl _, by rw [r1]; omega, (hD y h2).1 r2, fun e he => h2 e (by omega)⟩
      · refine .inr ⟨r1, fun e he q => ?_⟩
        rcases Nat.lt_or_ge d e with c | c
        · have : e = d + 1 := by omega
          subst this
          exact r2 ((hD y h2).2 q)
        · exact h2 e c q
  · obtain ⟨y0, y1, hf⟩ := hj.sub y hy
    obtain ⟨h1, h2⟩ := hneg y y0 y1 hf
    rcases hj.new y y0 y1 hf with ⟨_, r2, _⟩ | ⟨_, _, r3⟩
    · exact ⟨y0, y1, (hD y h2).1 r2, fun e he => h2 e (by omega)⟩
    · exact absurd hy r3
  · obtain ⟨y0, y1, f⟩ := hy
    have hf : rd far y < 0 := by
      rcases h.val y y0 y1 with ⟨e, he, h1, h2⟩ | ⟨h1, h2⟩
      · have := h2.eq f; omega
      · omega
    obtain ⟨h1, h2⟩ := hneg y y0 y1 hf
    rcases hj.new y y0 y1 hf with ⟨_, _, r3⟩ | ⟨_, r2, _⟩
    · exact r3
    · exact absurd ((hD y h2).2 f.1) r2
theorem In.next {N : Nat} {l : List S46} {b : Bool} {s : Int} {d : Nat} {far wave : List Int} (ho : Ok N l) (hs : 0 ≤ s ∧ s < N) (h : In N l b s d far wave) :
    In N l b s (d + 1) (wave.foldl (wnd b l) (far, [])).1 (wave.foldl (wnd b l) (far, [])).2 := by
  have hl : ∀ a ∈ l, 0 ≤ tow b a ∧ tow b a < N := fun a ha => by have := ho a ha; unfold tow; cases b <;> simp <;> omega
  have hfd : ∀ y : Int, Fst l b s d y → rd far y = d := by
    intro y f
    have hr := f.1.range ho hs
    rcases h.val y hr.1 hr.2 with ⟨e, he, h1, h2⟩ | ⟨h1, h2⟩
    · rw [h1, h2.eq f]
    · exact absurd f.1 (h2 d (Nat.le_refl _))
  have hj0 : Jn N d far (fun _ => False) (far, []) := by
    refine ⟨h.len, fun _ _ _ _ => rfl, fun y y0 y1 hy => ?_, by simp, by simp⟩
    rcases h.val y y0 y1 with ⟨e, he, h1, h2⟩ | ⟨h1, h2⟩
    · omega
    · exact .inr ⟨h1, fun q => q, by simp⟩
  have hj := Jn.wave b l hl wave (fun x hx => by
    obtain ⟨q1, q2, q3⟩ := (h.wav x).1 hx
    exact ⟨⟨q1, q2⟩, hfd x q3⟩) hj0
  exact h.next_of ho hs hj
theorem In.start {N : Nat} {l : List S46} {b : Bool} {s : Int} {d : Nat} {far wave : List Int} (h : In N l b s d far wave) : Jn N d far (fun _ => False) (far, []) := by
  refine ⟨h.len, fun _ _ _ _ => rfl, fun y y0 y1 hy => ?_, by simp, by simp⟩
  rcases h.val y y0 y1 with ⟨e, he, h1, h2⟩ | ⟨h1, h2⟩
  · omega
  · exact .inr ⟨h1, fun q => q, by simp⟩
/-- When the wave is empty, all is known. -/
theorem In.last {N : Nat} {l : List S46} {b : Bool} {s : Int} {d : Nat} {far : List Int} (ho : Ok N l) (hs : 0 ≤ s ∧ s < N) (h : In N l b s d far []) : ∀ y : Int, 0 ≤ y → y < N → IsD l b s y (rd far y) := by
  intro y y0 y1
  rcases h.val y y0 y1 with ⟨e, he, h1, h2⟩ | ⟨h1, h2⟩
  · exact .inr ⟨e, h1, h2⟩
  · refine .inl ⟨h1, fun e w => ?_⟩
    obtain ⟨j, _, f⟩ := first_of w
    rcases Nat.lt_or_ge d j with c | c
    · obtain ⟨i, rfl⟩ : ∃ i, j = d + i := ⟨j - d, by omega⟩
      obtain ⟨z, hz⟩ := f.down
      have hr := hz.1.range ho hs
      have := (h.wav z).2 ⟨hr.1, hr.2, hz⟩
      simp at this
    · exact h2 j c f.1
end Go.Proofs.Ytlbkbodadkhogaa.Pure
end

/- The plain laws of graphs, C: graph.waves tells distances; Reach. -/
section
namespace Go.Proofs.Ytlbkbodadkhogaa.Pure
open Go.RowKit Go.Proofs.Ytlbkbodadkhogaa.X Go.Proofs.YtlbkbodadkhogaaW.PrintWords
set_option linter.unusedVariables false
theorem wav_l3 {N d : Nat} {far0 : List Int} (b : Bool) (n : Int) (l : List S46) (ho : Ok N l) (hl : l.length ≤ 1000000) (hd : d ≤ 1000) (hN : N ≤ 1000) (x : Int) (w : List Int) (j : Int) (hx : 0 ≤ x ∧ x < N) (hxd : rd far0 x = d) (r : List Int) :
    ∀ (e i : Nat), l.length - i = e → i ≤ l.length → ∀ (D : Int → Prop) (F nx : List Int), Jn N d far0 D (F, nx) →
      Ev (fun k => graph_waves.l2 k b ((l.drop i).foldl (wst b x) (F, nx)).1 ((l.drop i).foldl (wst b x) (F, nx)).2 w (w.length : Int) (wrap64 (j + 1)) n l) r →
      Ev (fun k => graph_waves.l3 k b F nx x w (w.length : Int) j l (l.length : Int) (i : Int) n l) r := by
  intro e
  induction e with
  | zero =>
    intro i he hi D F nx hj h
    rw [List.drop_eq_nil_of_le (by omega)] at h
    refine Ev.step (fun k => ?_) h
    simp only [graph_waves.l3]
    rw [if_neg (by omega)]
    rfl
  | succ e ih =>
    intro i he hi D F nx hj h
    have hlt : i < l.length := by omega
    have ha := ho l[i] (List.getElem_mem _)
    have hta : 0 ≤ tow b l[i] ∧ tow b l[i] < N := by unfold tow; cases b <;> simp <;> omega
    have hj2 := hj.step b x l[i] hx hxd hta
    have hFx : rd F x = d := by have := hj.old x hx.1 hx.2 (by omega); rw [this, hxd]
    have hFl : (F.length : Int) = N := by have := hj.len; simp only at this; omega
    have hnx : nx.length ≤ N := hj.cnt.1
    rw [List.drop_eq_getElem_cons hlt, List.foldl_cons] at h
    obtain ⟨T, hT⟩ : ∃ T, T = wst b x (F, nx) l[i] := ⟨_, rfl⟩
    rw [← hT] at h hj2
    obtain ⟨T1, T2⟩ := T
    have hn := ih (i + 1) (by omega) (by omega) _ T1 T2 hj2 h
    have hw : wrap64 ((d : Int) + 1) = (d : Int) + 1 := by unfold wrap64; omega
    refine Ev.step (fun k => ?_) hn
    simp only [graph_waves.l3]
    rw [if_pos (by omega), if_pos (by omega), if_pos (by omega), rdT l i hlt, w64 (by omega)]
    unfold wst at hT
    simp only at hT
    cases b with
    | true =>
      rw [if_pos rfl]
      simp only [frm, tow, if_true] at hT hta
      by_cases c : l[i].f1 = x
      · rw [if_pos c] at hT ⊢
        rw [if_pos hta.1, if_pos (by omega)]
        by_cases q : rd F l[i].f0 < 0
        · rw [if_pos q] at hT ⊢
          rw [if_pos hx.1, if_pos (by omega), if_pos (by omega), hFx, hw]
          rw [hFx] at hT
          obtain ⟨rfl, rfl⟩ := Prod.mk.inj hT
          rfl
        · rw [if_neg q] at hT ⊢
          obtain ⟨rfl, rfl⟩ := Prod.mk.inj hT
          rfl
      · rw [if_neg c] at hT ⊢
        obtain ⟨rfl, rfl⟩ := Prod.mk.inj hT
        rfl
    | false =>
      rw [if_neg (by simp)]
      simp only [frm, tow, Bool.false_eq_true, if_false] at hT hta
      by_cases c : l[i].f0 = x
      · rw [if_pos c] at hT ⊢
        rw [if_pos hta.1, if_pos (by omega)]
        by_cases q : rd F l[i].f1 < 0
        · rw [if_pos q] at hT ⊢
          rw [if_pos hx.1, if_pos (by omega), if_pos (by omega), hFx, hw]
          rw [hFx] at hT
          obtain ⟨rfl, rfl⟩ := Prod.mk.inj hT
          rfl
        · rw [if_neg q] at hT ⊢
          obtain ⟨rfl, rfl⟩ := Prod.mk.inj hT
          rfl
      · rw [if_neg c] at hT ⊢
        obtain ⟨rfl, rfl⟩ := Prod.mk.inj hT
        rfl
theorem wav_l2 {N d : Nat} {far0 : List Int} (b : Bool) (n : Int) (l : List S46) (ho : Ok N l) (hl : l.length ≤ 1000000) (hd : d ≤ 1000) (hN : N ≤ 1000) (w : List Int) (hwl : w.length ≤ 1000) (hw : ∀ x ∈ w, (0 ≤ x ∧ x < N) ∧ rd far0 x = d) (r : List Int) :
    ∀ (e j : Nat), w.length - j = e → j ≤ w.length → ∀ (D : Int → Prop) (F nx : List Int), Jn N d far0 D (F, nx) →
      Ev (fun k => graph_waves.l1 k b ((w.drop j).foldl (wnd b l) (F, nx)).1 ((w.drop j).foldl (wnd b l) (F, nx)).2 n l) r →
      Ev (fun k => graph_waves.l2 k b F nx w (w.length : Int) (j : Int) n l) r := by
  intro e
  induction e with
  | zero =>
    intro j he hi D F nx hj h
    rw [List.drop_eq_nil_of_le (by omega)] at h
    refine Ev.step (fun k => ?_) h
    simp only [graph_waves.l2]
    rw [if_neg (by omega)]
    rfl
  | succ e ih =>
    intro j he hi D F nx hj h
    have hlt : j < w.length := by omega
    obtain ⟨hx, hxd⟩ := hw w[j] (List.getElem_mem _)
    have hl' : ∀ a ∈ l, 0 ≤ tow b a ∧ tow b a < N := fun a ha => by have := ho a ha; unfold tow; cases b <;> simp <;> omega
    rw [List.drop_eq_getElem_cons hlt, List.foldl_cons] at h
    have hj2 := Jn.node b w[j] hx hxd l hl' hj
    have hn := ih (j + 1) (by omega) (by omega) _ _ _ hj2 h
    have h3 := wav_l3 b n l ho hl hd hN w[j] w (j : Int) hx hxd r l.length 0 (by omega) (by omega) D F nx hj (by rw [w64 (by omega)]; exact hn)
    refine Ev.step (fun k => ?_) h3
    simp only [graph_waves.l2]
    rw [if_pos (by omega), if_pos (by omega), if_pos (by omega), rdI w j hlt]
    rfl
theorem wav_l1 {N : Nat} (b : Bool) (n : Int) (l : List S46) (ho : Ok N l) (hl : l.length ≤ 1000000) (hN : N ≤ 1000) (s : Int) (hs : 0 ≤ s ∧ s < N) :
    ∀ (e d : Nat), N - d = e → ∀ (F w : List Int), In N l b s d F w → ∃ r : List Int, r.length = N ∧ (∀ y : Int, 0 ≤ y → y < N → IsD l b s y (rd r y)) ∧ Ev (fun k => graph_waves.l1 k b F w n l) r := by
  intro e
  induction e with
  | zero =>
    intro d he F w h
    have hw : w = [] := by
      cases w with
      | nil => rfl
      | cons x w =>
        obtain ⟨_, _, f⟩ := (h.wav x).1 (by simp)
        have := f.lt ho hs
        omega
    subst hw
    refine ⟨F, h.len, h.last ho hs, Ev.step (f := fun _ => some F) (fun k => ?_) (Ev.now _)⟩
    simp only [graph_waves.l1]
    rw [if_neg (by simp)]
  | succ e ih =>
    intro d he F w h
    cases w with
    | nil =>
      refine ⟨F, h.len, h.last ho hs, Ev.step (f := fun _ => some F) (fun k => ?_) (Ev.now _)⟩
      simp only [graph_waves.l1]
      rw [if_neg (by simp)]
    | cons x w =>
      obtain ⟨r, r1, r2, r3⟩ := ih (d + 1) (by omega) _ _ (h.next ho hs)
      refine ⟨r, r1, r2, ?_⟩
      have hd : d ≤ 1000 := by omega
      have hfd : ∀ y ∈ x :: w, (0 ≤ y ∧ y < N) ∧ rd F y = d := by
        intro y hy
        obtain ⟨y0, y1, f⟩ := (h.wav y).1 hy
        refine ⟨⟨y0, y1⟩, ?_⟩
        rcases h.val y y0 y1 with ⟨j, hj, h1, h2⟩ | ⟨h1, h2⟩
        · rw [h1, h2.eq f]
        · exact absurd f.1 (h2 d (Nat.le_refl _))
      have hj0 : Jn N d F (fun _ => False) (F, []) := by
        refine ⟨h.len, fun _ _ _ _ => rfl, fun y y0 y1 hy => ?_, by simp, by simp⟩
        rcases h.val y y0 y1 with ⟨j, hj, h1, h2⟩ | ⟨h1, h2⟩
        · omega
        · exact .inr ⟨h1, fun q => q, by simp⟩
      have h2 := wav_l2 b n l ho hl hd hN (x :: w) (Nat.le_trans h.cnt hN) hfd r (x :: w).length 0 (by omega) (by omega) _ F [] hj0 (by simpa using r3)
      refine Ev.step (fun k => ?_) h2
      simp only [graph_waves.l1]
      rw [if_pos (by simp)]
      rfl
theorem wav_l0 {N : Nat} (b : Bool) (n : Int) (l : List S46) (hN : N ≤ 1000) (s : Int) (hs : 0 ≤ s ∧ s < N) (r : List Int) :
    ∀ (e i : Nat), N - i = e → i ≤ N → ∀ (F : List Int), F.length = N → (∀ y : Int, 0 ≤ y → y < (i : Int) → rd F y = -1) →
      (∀ G : List Int, G.length = N → (∀ y : Int, 0 ≤ y → y < N → rd G y = if y = s then 0 else -1) → Ev (fun k => graph_waves.l1 k b G [s] n l) r) →
      Ev (fun k => graph_waves.l0 k s b F (N : Int) (i : Int) n l) r := by
  intro e
  induction e with
  | zero =>
    intro i he hi F hF hv h
    refine Ev.step (fun k => ?_) (h (F.set s.toNat 0) (by simp [hF]) (fun y y0 y1 => ?_))
    · simp only [graph_waves.l0]
      rw [if_neg (by omega), if_pos hs.1, if_pos (by omega)]
    · rw [rd_set _ _ _ _ hs.1 (by omega) y0]
      split
      · rfl
      · exact hv y y0 (by omega)
  | succ e ih =>
    intro i he hi F hF hv h
    have hn := ih (i + 1) (by omega) (by omega) (F.set ((i : Int)).toNat (-1)) (by simp [hF]) (fun y y0 y1 => by
      rw [rd_set _ _ _ _ (by omega) (by omega) y0]
      split
      · rfl
      · exact hv y y0 (by omega)) h
    refine Ev.step (fun k => ?_) hn
    simp only [graph_waves.l0]
    rw [if_pos (by omega), if_pos (by omega), if_pos (by omega), w64 (by omega)]
/-- The distances from s. -/
structure Far (N : Nat) (l : List S46) (b : Bool) (s : Int) (F : List Int) : Prop where
  len : F.length = N
  val : ∀ y : Int, 0 ≤ y → y < N → IsD l b s y (rd F y)
theorem Far.one {N : Nat} {l : List S46} {b : Bool} {s : Int} {F G : List Int} (h : Far N l b s F) (k : Far N l b s G) : F = G := by
  apply List.ext_getElem (h.len.trans k.len.symm)
  intro i h1 h2
  have e := (h.val i (by omega) (by have := h.len; omega)).eq (k.val i (by omega) (by have := h.len; omega))
  rwa [rdI F i h1, rdI G i h2] at e
theorem waves_ev {N : Nat} (b : Bool) (l : List S46) (ho : Ok N l) (hl : l.length ≤ 1000000) (hN : N ≤ 1000) (s : Int) (hs : 0 ≤ s ∧ s < N) : ∃ F : List Int, Far N l b s F ∧ Ev (fun k => graph_waves.f k (N : Int) l s b) F := by
  have hin : ∀ G : List Int, G.length = N → (∀ y : Int, 0 ≤ y → y < N → rd G y = if y = s then 0 else -1) → In N l b s 0 G [s] := by
    intro G hG hv
    refine ⟨hG, fun y y0 y1 => ?_, fun y => ⟨fun hy => ?_, fun hy => ?_⟩, by simp; omega⟩
    · rw [hv y y0 y1]
      by_cases c : y = s
      · subst c
        rw [if_pos rfl]
        exact .inl ⟨0, Nat.le_refl _, rfl, rfl, fun e he => absurd he (by omega)⟩
      · rw [if_neg c]
        refine .inr ⟨rfl, fun e he w => ?_⟩
        have : e = 0 := by omega
        subst this
        exact c w
    · simp at hy; subst hy
      exact ⟨hs.1, hs.2, rfl, fun e he => absurd he (by omega)⟩
    · have : y = s := hy.2.2.1
      simp [this]
  have hG0 : ∃ G : List Int, G.length = N ∧ ∀ y : Int, 0 ≤ y → y < N → rd G y = if y = s then 0 else -1 := by
    refine ⟨(List.replicate N (-1)).set s.toNat 0, by simp, fun y y0 y1 => ?_⟩
    rw [rd_set _ _ _ _ hs.1 (by simp; omega) y0]
    split
    · rfl
    · obtain ⟨m, rfl⟩ := Int.eq_ofNat_of_zero_le y0
      rw [rdI _ m (by simp; omega)]; simp
  obtain ⟨G0, g1, g2⟩ := hG0
  obtain ⟨r, r1, r2, r3⟩ := wav_l1 b (N : Int) l ho hl hN s hs N 0 (by omega) G0 [s] (hin G0 g1 g2)
  refine ⟨r, ⟨r1, r2⟩, ?_⟩
  have hone : ∀ G : List Int, G.length = N → (∀ y : Int, 0 ≤ y → y < N → rd G y = if y = s then 0 else -1) → G = G0 := by
    intro G h1 h2
    apply List.ext_getElem (h1.trans g1.symm)
    intro i i1 i2
    have e := (h2 i (by omega) (by omega)).trans (g2 i (by omega) (by omega)).symm
    rwa [rdI G i i1, rdI G0 i i2] at e
  have h0 := wav_l0 b (N : Int) l hN s hs r N 0 (by omega) (by omega) (List.replicate N 0) (by simp) (fun y y0 y1 => by omega) (fun G h1 h2 => by rw [hone G h1 h2]; exact r3)
  refine Ev.congr (fun k => ?_) h0
  unfold graph_waves.f
  rw [if_pos (by omega), Int.toNat_natCast, if_pos (by omega)]
  simp
end Go.Proofs.Ytlbkbodadkhogaa.Pure
end

/- The plain laws of graphs, D: Reach, of the program and of the reference; the reference's distances. -/
section
namespace Go.Proofs.Ytlbkbodadkhogaa.Pure
open Go.RowKit Go.Proofs.Ytlbkbodadkhogaa.X Go.Proofs.YtlbkbodadkhogaaW.PrintWords
set_option linter.unusedVariables false
theorem ok_of {n : Int} {l : List S46} (h : gchk n l = 0) : ∃ N : Nat, n = (N : Int) ∧ N ≤ 64 ∧ l.length ≤ 512 ∧ Ok N l := by
  obtain ⟨h0, h1, h2, h3⟩ := gchk_ok h
  obtain ⟨N, rfl⟩ := Int.eq_ofNat_of_zero_le h0
  exact ⟨N, rfl, by omega, h2, h3⟩
/-- Which nodes are reached from s. -/
structure RchL (N : Nat) (l : List S46) (s : Int) (B : List Bool) : Prop where
  len : B.length = N
  val : ∀ y : Int, 0 ≤ y → y < N → (rdOf false B y = true ↔ ∃ d, Wk l false s d y)
theorem RchL.one {N : Nat} {l : List S46} {s : Int} {A B : List Bool} (h : RchL N l s A) (k : RchL N l s B) : A = B := by
  apply List.ext_getElem (h.len.trans k.len.symm)
  intro i h1 h2
  have e := (h.val i (by omega) (by have := h.len; omega)).trans (k.val i (by omega) (by have := h.len; omega)).symm
  rw [rdB A i h1, rdB B i h2] at e
  exact Bool.eq_iff_iff.2 e
theorem reach_l0 (F : List Int) (hF : F.length ≤ 100000) : ∀ (e i : Nat), F.length - i = e → i ≤ F.length → ∀ (o : List Bool), o.length ≤ i → Ev (fun k => graph_Reach.l0 k o F (F.length : Int) (i : Int)) (o ++ (F.drop i).map (fun v => decide (v ≥ 0)), 0) := by
  intro e
  induction e with
  | zero =>
    intro i he hi o ho
    rw [List.drop_eq_nil_of_le (by omega)]
    refine Ev.step (f := fun _ => some (o, 0)) (fun k => ?_) (by simpa using Ev.now (o, (0 : Int)))
    simp only [graph_Reach.l0]
    rw [if_neg (by omega)]
  | succ e ih =>
    intro i he hi o ho
    have hlt : i < F.length := by omega
    have hn := ih (i + 1) (by omega) (by omega) (o ++ [decide (F[i] ≥ 0)]) (by simp; omega)
    rw [List.drop_eq_getElem_cons hlt, List.map_cons, show o ++ decide (F[i] ≥ 0) :: (F.drop (i + 1)).map (fun v => decide (v ≥ 0)) = (o ++ [decide (F[i] ≥ 0)]) ++ (F.drop (i + 1)).map (fun v => decide (v ≥ 0)) by simp]
    refine Ev.step (fun k => ?_) hn
    simp only [graph_Reach.l0]
    rw [if_pos (by omega), if_pos (by omega), if_pos (by omega), if_pos (by omega), rdI F i hlt, w64 (by omega)]
theorem greach_ev {n : Int} {l : List S46} {N : Nat} (hn : n = N) (hN : N ≤ 64) (hl : l.length ≤ 512) (ho : Ok N l) (hz : gchk n l = 0) (s : Int) (hs : 0 ≤ s ∧ s < N) : ∃ B, RchL N l s B ∧ Ev (fun k => graph_Reach.f k n l s) (B, 0) := by
  subst hn
  obtain ⟨F, hF, hE⟩ := waves_ev false l ho (by omega) (by omega) s hs
  have h0 := reach_l0 F (by rw [hF.len]; omega) F.length 0 (by omega) (by omega) [] (by simp)
  refine ⟨F.map (fun v => decide (v ≥ 0)), ⟨by simp [hF.len], fun y y0 y1 => ?_⟩, ?_⟩
  · obtain ⟨i, rfl⟩ := Int.eq_ofNat_of_zero_le y0
    have hi : i < F.length := by rw [hF.len]; omega
    rw [rdB _ i (by simpa using hi)]
    have hv := hF.val i y0 y1
    rw [rdI F i hi] at hv
    simp only [List.getElem_map, decide_eq_true_eq]
    rcases hv with ⟨h1, h2⟩ | ⟨d, h1, h2⟩
    · exact ⟨fun q => by omega, fun ⟨d, w⟩ => absurd w (h2 d)⟩
    · exact ⟨fun _ => ⟨d, h2.1⟩, fun _ => by omega⟩
  · unfold graph_Reach.f
    refine Ev.bind (gchk_ev (N : Int) l) ?_
    refine Ev.step (fun k => ?_) (Ev.bind (f := fun k t => graph_Reach.l0 k [] t (t.length : Int) 0) hE (by simpa using h0))
    rw [if_pos hz, if_neg (by omega), decide_eq_false (by omega)]
    simp only [graph_Reach.j0]
    rw [if_neg (by simp)]
theorem greach_bad (n : Int) (l : List S46) (s : Int) (h : gchk n l ≠ 0 ∨ ¬ (0 ≤ s ∧ s < n)) : Ev (fun k => graph_Reach.f k n l s) ([], if gchk n l ≠ 0 then gchk n l else 6) := by
  unfold graph_Reach.f
  refine Ev.bind (gchk_ev n l) ?_
  by_cases hz : gchk n l = 0
  · have hs : ¬ (0 ≤ s ∧ s < n) := by rcases h with h | h; exact absurd hz h; exact h
    rw [if_neg (by simp [hz])]
    refine Ev.step (f := fun _ => some ([], 6)) (fun k => ?_) (Ev.now _)
    rw [if_pos hz]
    by_cases c : s < 0
    · rw [if_pos c]; simp only [graph_Reach.j0]; rfl
    · rw [if_neg c, decide_eq_true (by omega)]; simp only [graph_Reach.j0]; rfl
  · rw [if_pos hz]
    exact Ev.congr (f := fun _ => some ([], gchk n l)) (fun k => by rw [if_neg hz]) (Ev.now _)
/-! The reference's Reach. -/
def rst (B : List Bool) (a : S46) : List Bool := if rdOf false B a.f0 = true then B.set a.f1.toNat true else B
theorem rdOf_set (L : List Bool) (i : Int) (v : Bool) (y : Int) (h0 : 0 ≤ i) (h1 : i < L.length) (hy : 0 ≤ y) : rdOf false (L.set i.toNat v) y = if y = i then v else rdOf false L y := by
  unfold rdOf
  rw [List.getD_eq_getElem?_getD, List.getD_eq_getElem?_getD, List.getElem?_set]
  by_cases c : y = i
  · subst c; rw [if_pos rfl, if_pos (by omega), if_pos rfl]; rfl
  · rw [if_neg (by omega), if_neg c]
theorem rst_len (B : List Bool) (a : S46) : (rst B a).length = B.length := by unfold rst; split <;> simp
theorem fold_len (l : List S46) (B : List Bool) : (l.foldl rst B).length = B.length := by
  induction l generalizing B with
  | nil => rfl
  | cons a l ih => rw [List.foldl_cons, ih, rst_len]
theorem rst_up {N : Nat} {B : List Bool} {a : S46} (hB : B.length = N) (ha : 0 ≤ a.f1 ∧ a.f1 < N) {y : Int} (hy : 0 ≤ y) (h : rdOf false B y = true) : rdOf false (rst B a) y = true := by
  unfold rst
  split
  · rw [rdOf_set _ _ _ _ ha.1 (by omega) hy]; split
    · rfl
    · exact h
  · exact h
theorem fold_up {N : Nat} : ∀ (l : List S46), Ok N l → ∀ {B : List Bool}, B.length = N → ∀ {y : Int}, 0 ≤ y → rdOf false B y = true → rdOf false (l.foldl rst B) y = true := by
  intro l
  induction l with
  | nil => intro _ B _ y _ h; exact h
  | cons a l ih =>
    intro ho B hB y hy h
    have ha := ho a (by simp)
    exact ih (fun z hz => ho z (by simp [hz])) (by rw [rst_len]; exact hB) hy (rst_up hB ⟨ha.2.2.1, ha.2.2.2⟩ hy h)
theorem fold_arc {N : Nat} : ∀ (l : List S46), Ok N l → ∀ {B : List Bool}, B.length = N → ∀ a ∈ l, rdOf false B a.f0 = true → rdOf false (l.foldl rst B) a.f1 = true := by
  intro l
  induction l with
  | nil => intro _ B _ a ha; simp at ha
  | cons x l ih =>
    intro ho B hB a ha h
    have hx := ho x (by simp)
    have hl : Ok N l := fun z hz => ho z (by simp [hz])
    have hB2 : (rst B x).length = N := by rw [rst_len]; exact hB
    rcases List.mem_cons.1 ha with rfl | ha
    · refine fold_up l hl hB2 hx.2.2.1 ?_
      unfold rst
      rw [if_pos h, rdOf_set _ _ _ _ hx.2.2.1 (by omega) hx.2.2.1, if_pos rfl]
    · exact ih hl hB2 a ha (rst_up hB ⟨hx.2.2.1, hx.2.2.2⟩ (ho a (by simp [ha])).1 h)
theorem fold_sound {N : Nat} {s : Int} (L : List S46) : ∀ (l : List S46), (∀ a ∈ l, a ∈ L) → Ok N l → ∀ {B : List Bool}, B.length = N → (∀ y : Int, 0 ≤ y → rdOf false B y = true → ∃ d, Wk L false s d y) → ∀ y : Int, 0 ≤ y → rdOf false (l.foldl rst B) y = true → ∃ d, Wk L false s d y := by
  intro l
  induction l with
  | nil => intro _ _ B _ h; exact h
  | cons x l ih =>
    intro hL ho B hB h
    have hx := ho x (by simp)
    refine ih (fun z hz => hL z (by simp [hz])) (fun z hz => ho z (by simp [hz])) (by rw [rst_len]; exact hB) (fun y hy hb => ?_)
    unfold rst at hb
    by_cases c : rdOf false B x.f0 = true
    · rw [if_pos c, rdOf_set _ _ _ _ hx.2.2.1 (by omega) hy] at hb
      by_cases e : y = x.f1
      · obtain ⟨d, w⟩ := h x.f0 hx.1 c
        exact ⟨d + 1, x.f0, w, x, hL x (by simp), rfl, e.symm⟩
      · rw [if_neg e] at hb; exact h y hy hb
    · rw [if_neg c] at hb; exact h y hy hb
/-- After m rounds. -/
structure Rn (N : Nat) (l : List S46) (s : Int) (m : Nat) (B : List Bool) : Prop where
  len : B.length = N
  snd : ∀ y : Int, 0 ≤ y → rdOf false B y = true → ∃ d, Wk l false s d y
  cmp : ∀ (e : Nat) (y : Int), e ≤ m → Wk l false s e y → rdOf false B y = true
theorem Rn.next {N : Nat} {l : List S46} {s : Int} {m : Nat} {B : List Bool} (ho : Ok N l) (hs : 0 ≤ s ∧ s < N) (h : Rn N l s m B) : Rn N l s (m + 1) (l.foldl rst B) := by
  refine ⟨by rw [fold_len]; exact h.len, fold_sound l l (fun _ q => q) ho h.len h.snd, fun e y he w => ?_⟩
  rcases Nat.lt_or_ge m e with c | c
  · have : e = m + 1 := by omega
    subst this
    obtain ⟨x, wx, a, ha, e1, e2⟩ := w
    simp only [frm, tow, Bool.false_eq_true, if_false] at e1 e2
    rw [← e2]
    exact fold_arc l ho h.len a ha (by rw [e1]; exact h.cmp m x (Nat.le_refl _) wx)
  · exact fold_up l ho h.len (w.range ho hs).1 (h.cmp e y c w)
theorem rr_l1 {N : Nat} (hN : N ≤ 1000) (l : List S46) (hl : l.length ≤ 1000000) (ho : Ok N l) (m : Nat) (hm : m ≤ 1000) (r : List Bool × Int) : ∀ (e i : Nat), l.length - i = e → i ≤ l.length → ∀ (B : List Bool), B.length = N →
    Ev (fun k => dancestudioref09_Reach.l0 k ((l.drop i).foldl rst B) ((m + 1 : Nat) : Int) (N : Int) l) r → Ev (fun k => dancestudioref09_Reach.l1 k B (m : Int) (i : Int) (N : Int) l) r := by
  intro e
  induction e with
  | zero =>
    intro i he hi B hB h
    rw [List.drop_eq_nil_of_le (by omega)] at h
    refine Ev.step (fun k => ?_) h
    simp only [dancestudioref09_Reach.l1]
    rw [if_neg (by omega), w64 (by omega)]
    rfl
  | succ e ih =>
    intro i he hi B hB h
    have hlt : i < l.length := by omega
    have ha := ho l[i] (List.getElem_mem _)
    rw [List.drop_eq_getElem_cons hlt, List.foldl_cons] at h
    have hn := ih (i + 1) (by omega) (by omega) (rst B l[i]) (by rw [rst_len]; exact hB) h
    refine Ev.step (fun k => ?_) hn
    simp only [dancestudioref09_Reach.l1]
    rw [if_pos (by omega), if_pos (by omega), rdT l i hlt, if_pos ha.1, if_pos (by omega), w64 (by omega)]
    unfold rst
    by_cases c : rdOf false B l[i].f0 = true
    · rw [if_pos c, if_pos c, if_pos ha.2.2.1, if_pos (by omega)]
    · rw [if_neg c, if_neg c]
theorem rr_l0 {N : Nat} (hN : N ≤ 1000) (l : List S46) (hl : l.length ≤ 1000000) (ho : Ok N l) (s : Int) (hs : 0 ≤ s ∧ s < N) : ∀ (e m : Nat), N - m = e → m ≤ N → ∀ (B : List Bool), Rn N l s m B → ∃ C, Rn N l s N C ∧ Ev (fun k => dancestudioref09_Reach.l0 k B (m : Int) (N : Int) l) (C, 0) := by
  intro e
  induction e with
  | zero =>
    intro m he hm B h
    have : m = N := by omega
    subst this
    refine ⟨B, h, Ev.step (f := fun _ => some (B, 0)) (fun k => ?_) (Ev.now _)⟩
    simp only [dancestudioref09_Reach.l0]
    rw [if_neg (by omega)]
  | succ e ih =>
    intro m he hm B h
    obtain ⟨C, h1, h2⟩ := ih (m + 1) (by omega) (by omega) _ (h.next ho hs)
    refine ⟨C, h1, ?_⟩
    have h3 := rr_l1 hN l hl ho m (by omega) (C, 0) l.length 0 (by omega) (by omega) B h.len (by simpa using h2)
    refine Ev.step (fun k => ?_) h3
    simp only [dancestudioref09_Reach.l0]
    rw [if_pos (by omega)]
    rfl
theorem Rn.all {N : Nat} {l : List S46} {s : Int} {B : List Bool} (ho : Ok N l) (hs : 0 ≤ s ∧ s < N) (h : Rn N l s N B) : RchL N l s B :=
  ⟨h.len, fun y y0 y1 => ⟨h.snd y y0, fun ⟨d, w⟩ => by
    obtain ⟨e, _, f⟩ := first_of w
    exact h.cmp e y (by have := f.lt ho hs; omega) f.1⟩⟩
theorem rreach_ev {n : Int} {l : List S46} {N : Nat} (hn : n = N) (hN : N ≤ 64) (hl : l.length ≤ 512) (ho : Ok N l) (hz : gchk n l = 0) (s : Int) (hs : 0 ≤ s ∧ s < N) : ∃ B, RchL N l s B ∧ Ev (fun k => dancestudioref09_Reach.f k n l s) (B, 0) := by
  subst hn
  have h0 : Rn N l s 0 ((List.replicate N false).set s.toNat true) := by
    refine ⟨by simp, fun y y0 hy => ?_, fun e y he w => ?_⟩
    · rw [rdOf_set _ _ _ _ hs.1 (by simp; omega) y0] at hy
      by_cases c : y = s
      · exact ⟨0, c⟩
      · rw [if_neg c] at hy
        unfold rdOf at hy
        rw [List.getD_eq_getElem?_getD, List.getElem?_replicate] at hy
        split at hy <;> simp at hy
    · have : e = 0 := by omega
      subst this
      have : y = s := w
      subst this
      rw [rdOf_set _ _ _ _ hs.1 (by simp; omega) hs.1, if_pos rfl]
  obtain ⟨C, h1, h2⟩ := rr_l0 (by omega) l (by omega) ho s hs N 0 (by omega) (by omega) _ h0
  refine ⟨C, h1.all ho hs, ?_⟩
  unfold dancestudioref09_Reach.f
  refine Ev.bind (rchk_ev (N : Int) l) ?_
  refine Ev.congr (fun k => ?_) h2
  rw [if_pos hz, node_f]
  simp only [Option.bind_some]
  rw [if_pos (by simp; omega), if_pos (by omega), Int.toNat_natCast, if_pos (by omega), if_pos hs.1, if_pos (by simp; omega)]
  rfl
theorem rreach_bad (n : Int) (l : List S46) (s : Int) (h : gchk n l ≠ 0 ∨ ¬ (0 ≤ s ∧ s < n)) : Ev (fun k => dancestudioref09_Reach.f k n l s) ([], if gchk n l ≠ 0 then gchk n l else 6) := by
  unfold dancestudioref09_Reach.f
  refine Ev.bind (rchk_ev n l) ?_
  by_cases hz : gchk n l = 0
  · have hs : ¬ (0 ≤ s ∧ s < n) := by rcases h with h | h; exact absurd hz h; exact h
    rw [if_neg (by simp [hz])]
    refine Ev.congr (f := fun _ => some ([], 6)) (fun k => ?_) (Ev.now _)
    rw [if_pos hz, node_f]
    simp only [Option.bind_some]
    rw [if_neg (by simp; omega)]
  · rw [if_pos hz]
    exact Ev.congr (f := fun _ => some ([], gchk n l)) (fun k => by rw [if_neg hz]) (Ev.now _)
end Go.Proofs.Ytlbkbodadkhogaa.Pure
end

/- The plain laws of graphs, E: the reference's distances; paths. -/
section
namespace Go.Proofs.Ytlbkbodadkhogaa.Pure
open Go.RowKit Go.Proofs.Ytlbkbodadkhogaa.X Go.Proofs.YtlbkbodadkhogaaW.PrintWords
set_option linter.unusedVariables false
/-! The reference's far. -/
/-- One arc in the m-th round. -/
def fst_ (m : Int) (F : List Int) (a : S46) : List Int := if rd F a.f1 = m then (if rd F a.f0 < 0 then F.set a.f0.toNat (m + 1) else F) else F
theorem Jn.far {N m : Nat} {far0 : List Int} (ho : ∀ y : Int, 0 ≤ y → y < N → rd far0 y = -1 ∨ ∃ e : Nat, e ≤ m ∧ rd far0 y = e) : ∀ (l : List S46), Ok N l → ∀ {D : Int → Prop} {F nx : List Int}, Jn N m far0 D (F, nx) →
    ∃ nx', Jn N m far0 (fun y => D y ∨ ∃ a ∈ l, rd far0 a.f1 = m ∧ a.f0 = y) (l.foldl (fst_ m) F, nx') := by
  intro l
  induction l with
  | nil => intro _ D F nx h; exact ⟨nx, h.imp (fun y => ⟨.inl, fun q => q.elim id (fun ⟨a, ha, _⟩ => by simp at ha)⟩)⟩
  | cons a l ih =>
    intro hl D F nx h
    have ha := hl a (by simp)
    have hl' : Ok N l := fun z hz => hl z (by simp [hz])
    have hval : rd F a.f1 = m ↔ rd far0 a.f1 = m := by
      rcases ho a.f1 ha.2.2.1 ha.2.2.2 with q | ⟨e, he, q⟩
      · rcases h.new a.f1 ha.2.2.1 ha.2.2.2 (by omega) with ⟨r, _⟩ | ⟨r, _⟩
        · simp only at r; omega
        · simp only at r; omega
      · have := h.old a.f1 ha.2.2.1 ha.2.2.2 (by omega)
        simp only at this
        rw [this]
    by_cases c : rd far0 a.f1 = m
    · have h1 := h.step true a.f1 a ⟨ha.2.2.1, ha.2.2.2⟩ c (by simp only [tow, if_true]; exact ⟨ha.1, ha.2.1⟩)
      have e1 : (wst true a.f1 (F, nx) a).1 = fst_ m F a := by
        unfold wst fst_
        simp only [frm, tow, if_true]
        rw [if_pos (hval.2 c), hval.2 c]
        split <;> rfl
      obtain ⟨nx1, hn1⟩ : ∃ z, z = (wst true a.f1 (F, nx) a).2 := ⟨_, rfl⟩
      have e2 : wst true a.f1 (F, nx) a = (fst_ m F a, nx1) := Prod.ext e1 hn1.symm
      rw [e2] at h1
      obtain ⟨nx', h2⟩ := ih hl' h1
      refine ⟨nx', h2.imp (fun y => ⟨fun q => ?_, fun q => ?_⟩)⟩
      · rcases q with (q | q) | ⟨z, hz, q⟩
        · exact .inl q
        · exact .inr ⟨a, by simp, c, by simpa [tow] using q.2⟩
        · exact .inr ⟨z, by simp [hz], q⟩
      · rcases q with q | ⟨z, hz, q⟩
        · exact .inl (.inl q)
        · rcases List.mem_cons.1 hz with rfl | hz
          · exact .inl (.inr ⟨rfl, by simpa [tow] using q.2⟩)
          · exact .inr ⟨z, hz, q⟩
    · have e1 : fst_ m F a = F := by unfold fst_; rw [if_neg (fun q => c (hval.1 q))]
      rw [List.foldl_cons, e1]
      obtain ⟨nx', h2⟩ := ih hl' h
      refine ⟨nx', h2.imp (fun y => ⟨fun q => ?_, fun q => ?_⟩)⟩
      · rcases q with q | ⟨z, hz, q⟩
        · exact .inl q
        · exact .inr ⟨z, by simp [hz], q⟩
      · rcases q with q | ⟨z, hz, q⟩
        · exact .inl q
        · rcases List.mem_cons.1 hz with rfl | hz
          · exact absurd q.1 c
          · exact .inr ⟨z, hz, q⟩
theorem In.far {N : Nat} {l : List S46} {s : Int} {m : Nat} {F wave : List Int} (ho : Ok N l) (hs : 0 ≤ s ∧ s < N) (h : In N l true s m F wave) : ∃ w, In N l true s (m + 1) (l.foldl (fst_ m) F) w := by
  obtain ⟨nx', hj⟩ := Jn.far (fun y y0 y1 => by
    rcases h.val y y0 y1 with ⟨e, he, q, _⟩ | ⟨q, _⟩
    · exact .inr ⟨e, he, q⟩
    · exact .inl q) l ho h.start
  have hj2 := hj.imp (E := fun y => False ∨ ∃ x ∈ wave, Ed l true x y) (fun y => by
    constructor
    · rintro (q | ⟨a, ha, q1, q2⟩)
      · exact .inl q
      · refine .inr ⟨a.f1, ?_, a, ha, rfl, q2⟩
        have hr := ho a ha
        refine (h.wav _).2 ⟨hr.2.2.1, hr.2.2.2, ?_⟩
        rcases h.val a.f1 hr.2.2.1 hr.2.2.2 with ⟨e, he, r1, r2⟩ | ⟨r1, _⟩
        · have : e = m := by omega
          subst this; exact r2
        · omega
    · rintro (q | ⟨x, hx, a, ha, q1, q2⟩)
      · exact .inl q
      · obtain ⟨x0, x1, f⟩ := (h.wav x).1 hx
        refine .inr ⟨a, ha, ?_, q2⟩
        have e1 : a.f1 = x := q1
        rw [e1]
        rcases h.val x x0 x1 with ⟨e, he, r1, r2⟩ | ⟨r1, r2⟩
        · rw [r1, r2.eq f]
        · exact absurd f.1 (r2 m (Nat.le_refl _)))
  exact ⟨nx', h.next_of ho hs hj2⟩
theorem far_l2 {N : Nat} (hN : N ≤ 1000) (l : List S46) (hl : l.length ≤ 1000000) (ho : Ok N l) (m : Nat) (hm : m ≤ 1000) (r : List Int) : ∀ (e i : Nat), l.length - i = e → i ≤ l.length → ∀ (F : List Int), F.length = N →
    Ev (fun k => dancestudioref09_far.l1 k ((l.drop i).foldl (fst_ m) F) ((m + 1 : Nat) : Int) (N : Int) l) r → Ev (fun k => dancestudioref09_far.l2 k F (m : Int) (i : Int) (N : Int) l) r := by
  intro e
  induction e with
  | zero =>
    intro i he hi F hF h
    rw [List.drop_eq_nil_of_le (by omega)] at h
    refine Ev.step (fun k => ?_) h
    simp only [dancestudioref09_far.l2]
    rw [if_neg (by omega), w64 (by omega)]
    rfl
  | succ e ih =>
    intro i he hi F hF h
    have hlt : i < l.length := by omega
    have ha := ho l[i] (List.getElem_mem _)
    rw [List.drop_eq_getElem_cons hlt, List.foldl_cons] at h
    have hn := ih (i + 1) (by omega) (by omega) (fst_ m F l[i]) (by unfold fst_; split <;> (try split) <;> simp [hF]) h
    refine Ev.step (fun k => ?_) hn
    simp only [dancestudioref09_far.l2]
    rw [if_pos (by omega), if_pos (by omega), rdT l i hlt, if_pos ha.2.2.1, if_pos (by omega), w64 (i := i) (by omega)]
    unfold fst_
    by_cases c : rd F l[i].f1 = m
    · rw [if_pos c, if_pos c, if_pos ha.1, if_pos (by omega)]
      by_cases d : rd F l[i].f0 < 0
      · rw [if_pos d, if_pos d, w64 (i := m) (by omega)]; rfl
      · rw [if_neg d, if_neg d]
    · rw [if_neg c, if_neg c]
theorem far_l1 {N : Nat} (hN : N ≤ 1000) (l : List S46) (hl : l.length ≤ 1000000) (ho : Ok N l) (s : Int) (hs : 0 ≤ s ∧ s < N) : ∀ (e m : Nat), N - m = e → m ≤ N → ∀ (F w : List Int), In N l true s m F w → ∃ G, Far N l true s G ∧ Ev (fun k => dancestudioref09_far.l1 k F (m : Int) (N : Int) l) G := by
  intro e
  induction e with
  | zero =>
    intro m he hm F w h
    have : m = N := by omega
    subst this
    have hw : w = [] := by
      cases w with
      | nil => rfl
      | cons x w =>
        obtain ⟨_, _, f⟩ := (h.wav x).1 (by simp)
        have := f.lt ho hs
        omega
    subst hw
    refine ⟨F, ⟨h.len, h.last ho hs⟩, Ev.step (f := fun _ => some F) (fun k => ?_) (Ev.now _)⟩
    simp only [dancestudioref09_far.l1]
    rw [if_neg (by omega)]
  | succ e ih =>
    intro m he hm F w h
    obtain ⟨w2, h2⟩ := h.far ho hs
    obtain ⟨G, g1, g2⟩ := ih (m + 1) (by omega) (by omega) _ w2 h2
    refine ⟨G, g1, ?_⟩
    have h3 := far_l2 hN l hl ho m (by omega) G l.length 0 (by omega) (by omega) F h.len (by simpa using g2)
    refine Ev.step (fun k => ?_) h3
    simp only [dancestudioref09_far.l1]
    rw [if_pos (by omega)]
    rfl
theorem far_l0 {N : Nat} (l : List S46) (hN : N ≤ 1000) (s : Int) (hs : 0 ≤ s ∧ s < N) (r : List Int) :
    ∀ (e i : Nat), N - i = e → i ≤ N → ∀ (F : List Int), F.length = N → (∀ y : Int, 0 ≤ y → y < (i : Int) → rd F y = -1) →
      (∀ G : List Int, G.length = N → (∀ y : Int, 0 ≤ y → y < N → rd G y = if y = s then 0 else -1) → Ev (fun k => dancestudioref09_far.l1 k G 0 (N : Int) l) r) →
      Ev (fun k => dancestudioref09_far.l0 k s F (i : Int) (N : Int) l) r := by
  intro e
  induction e with
  | zero =>
    intro i he hi F hF hv h
    refine Ev.step (fun k => ?_) (h (F.set s.toNat 0) (by simp [hF]) (fun y y0 y1 => ?_))
    · simp only [dancestudioref09_far.l0]
      rw [if_neg (by omega), if_pos hs.1, if_pos (by omega)]
    · rw [rd_set _ _ _ _ hs.1 (by omega) y0]
      split
      · rfl
      · exact hv y y0 (by omega)
  | succ e ih =>
    intro i he hi F hF hv h
    have hn := ih (i + 1) (by omega) (by omega) (F.set ((i : Int)).toNat (-1)) (by simp [hF]) (fun y y0 y1 => by
      rw [rd_set _ _ _ _ (by omega) (by omega) y0]
      split
      · rfl
      · exact hv y y0 (by omega)) h
    refine Ev.step (fun k => ?_) hn
    simp only [dancestudioref09_far.l0]
    rw [if_pos (by omega), if_pos (by omega), if_pos (by omega), w64 (by omega)]
theorem In.zero {N : Nat} {l : List S46} {b : Bool} {s : Int} (hs : 0 ≤ s ∧ s < N) {G : List Int} (hG : G.length = N) (hv : ∀ y : Int, 0 ≤ y → y < N → rd G y = if y = s then 0 else -1) : In N l b s 0 G [s] := by
  refine ⟨hG, fun y y0 y1 => ?_, fun y => ⟨fun hy => ?_, fun hy => ?_⟩, by simp; omega⟩
  · rw [hv y y0 y1]
    by_cases c : y = s
    · subst c
      rw [if_pos rfl]
      exact .inl ⟨0, Nat.le_refl _, rfl, rfl, fun e he => absurd he (by omega)⟩
    · rw [if_neg c]
      refine .inr ⟨rfl, fun e he w => ?_⟩
      have : e = 0 := by omega
      subst this
      exact c w
  · simp at hy; subst hy
    exact ⟨hs.1, hs.2, rfl, fun e he => absurd he (by omega)⟩
  · have : y = s := hy.2.2.1
    simp [this]
theorem far_ev {N : Nat} (l : List S46) (ho : Ok N l) (hl : l.length ≤ 1000000) (hN : N ≤ 1000) (s : Int) (hs : 0 ≤ s ∧ s < N) {F : List Int} (hF : Far N l true s F) : Ev (fun k => dancestudioref09_far.f k (N : Int) l s) F := by
  have h0 := far_l0 l hN s hs F N 0 (by omega) (by omega) (List.replicate N 0) (by simp) (fun y y0 y1 => by omega) (fun G h1 h2 => by
    obtain ⟨G', g1, g2⟩ := far_l1 hN l hl ho s hs N 0 (by omega) (by omega) G [s] (In.zero hs h1 h2)
    rw [hF.one g1]; exact g2)
  refine Ev.congr (fun k => ?_) h0
  unfold dancestudioref09_far.f
  rw [if_pos (by omega), Int.toNat_natCast, if_pos (by omega)]
  rfl
/-! Paths. -/
/-- y is a next node on a shortest path from x. -/
def Cnd (l : List S46) (F : List Int) (x y : Int) : Prop := hasA l x y = true ∧ rd F y = rd F x - 1
/-- y is the least of them. -/
def Lst (l : List S46) (F : List Int) (x y : Int) : Prop := Cnd l F x y ∧ ∀ z, Cnd l F x z → y ≤ z
/-- P is what follows x on the path to t. -/
def Pth (l : List S46) (F : List Int) (t : Int) : Int → List Int → Prop
  | x, [] => x = t
  | x, y :: P => x ≠ t ∧ Lst l F x y ∧ Pth l F t y P
theorem Pth.one {l : List S46} {F : List Int} {t : Int} : ∀ {P Q : List Int} {x : Int}, Pth l F t x P → Pth l F t x Q → P = Q := by
  intro P
  induction P with
  | nil =>
    intro Q x h k
    cases Q with
    | nil => rfl
    | cons y Q => exact absurd h k.1
  | cons y P ih =>
    intro Q x h k
    cases Q with
    | nil => exact absurd k h.1
    | cons z Q =>
      obtain ⟨h1, h2, h3⟩ := h
      obtain ⟨k1, k2, k3⟩ := k
      have e : y = z := Int.le_antisymm (h2.2 z k2.1) (k2.2 y h2.1)
      subst e
      rw [ih h3 k3]
theorem least_of {P : Int → Prop} (h0 : ∀ y, P y → 0 ≤ y) {y : Int} (h : P y) : ∃ z, P z ∧ ∀ w, P w → z ≤ w := by
  obtain ⟨n, hn⟩ := Int.eq_ofNat_of_zero_le (h0 y h)
  induction n using Nat.strongRecOn generalizing y with
  | ind n ih =>
    by_cases c : ∃ w, P w ∧ w < y
    · obtain ⟨w, hw, hl⟩ := c
      obtain ⟨m, hm⟩ := Int.eq_ofNat_of_zero_le (h0 w hw)
      exact ih m (by omega) hw hm
    · exact ⟨y, h, fun w hw => Int.not_lt.1 (fun q => c ⟨w, hw, q⟩)⟩
theorem Far.at0 {N : Nat} {l : List S46} {s : Int} {F : List Int} {b : Bool} (h : Far N l b s F) {y : Int} (y0 : 0 ≤ y) (y1 : y < N) {d : Nat} (e : rd F y = d) : Fst l b s d y := by
  rcases h.val y y0 y1 with ⟨q, _⟩ | ⟨j, q, f⟩
  · omega
  · have : j = d := by omega
    subst this; exact f
theorem Pth.exists {N : Nat} {l : List S46} (ho : Ok N l) {t : Int} {F : List Int} (hF : Far N l true t F) : ∀ (d : Nat) (x : Int), 0 ≤ x → x < N → rd F x = d → ∃ P, Pth l F t x P ∧ P.length = d := by
  intro d
  induction d with
  | zero =>
    intro x x0 x1 h
    exact ⟨[], (hF.at0 x0 x1 h).1, rfl⟩
  | succ d ih =>
    intro x x0 x1 h
    have f := hF.at0 x0 x1 h
    obtain ⟨y, fy, a, ha, e1, e2⟩ := f.pred
    have hr := ho a ha
    have ey : a.f1 = y := e1
    have ex : a.f0 = x := e2
    have hyd : rd F y = d := by
      rcases hF.val y (by omega) (by omega) with ⟨q, q2⟩ | ⟨j, q, f2⟩
      · exact absurd fy.1 (q2 d)
      · rw [q, f2.eq fy]
    have hc : Cnd l F x y := ⟨hasA_iff.2 ⟨a, ha, ex, ey⟩, by rw [hyd, h]; omega⟩
    obtain ⟨z, hz, hzl⟩ := least_of (P := Cnd l F x) (fun y hy => by
      obtain ⟨b, hb, e3, e4⟩ := hasA_iff.1 hy.1
      have := ho b hb; omega) hc
    obtain ⟨b, hb, e3, e4⟩ := hasA_iff.1 hz.1
    have hb2 := ho b hb
    obtain ⟨P, hP, hl⟩ := ih z (by omega) (by omega) (by have := hz.2; rw [h] at this; omega)
    refine ⟨z :: P, ⟨fun q => ?_, ⟨hz, hzl⟩, hP⟩, by simp [hl]⟩
    subst q
    have := f.eq (e := 0) ⟨rfl, fun e he => absurd he (by omega)⟩
    omega
theorem Far.small {N : Nat} {l : List S46} {s : Int} {F : List Int} {b : Bool} (ho : Ok N l) (hs : 0 ≤ s ∧ s < N) (h : Far N l b s F) {y : Int} (y0 : 0 ≤ y) (y1 : y < N) : -1 ≤ rd F y ∧ rd F y < N := by
  rcases h.val y y0 y1 with ⟨q, _⟩ | ⟨j, q, f⟩
  · omega
  · have := f.lt ho hs; omega
/-- The program's choice among the first arcs. -/
def bst (F : List Int) (x : Int) (m : Int) (a : S46) : Int := if a.f0 = x ∧ rd F a.f1 = rd F x - 1 then (if m < 0 ∨ a.f1 < m then a.f1 else m) else m
theorem bst_fold {N : Nat} (F : List Int) (x : Int) : ∀ (l : List S46), Ok N l → ∀ (m : Int), (∀ y, Cnd l F x y → l.foldl (bst F x) m ≤ y ∧ 0 ≤ l.foldl (bst F x) m) ∧ (0 ≤ m → l.foldl (bst F x) m ≤ m ∧ 0 ≤ l.foldl (bst F x) m) ∧ (l.foldl (bst F x) m = m ∨ Cnd l F x (l.foldl (bst F x) m)) := by
  intro l
  induction l with
  | nil => intro _ m; exact ⟨fun y hy => by simp [Cnd, hasA] at hy, fun h => ⟨Int.le_refl _, h⟩, .inl rfl⟩
  | cons a l ih =>
    intro ho m
    have ha := ho a (by simp)
    obtain ⟨h1, h2, h3⟩ := ih (fun z hz => ho z (by simp [hz])) (bst F x m a)
    rw [List.foldl_cons]
    have hc : ∀ y, Cnd (a :: l) F x y ↔ ((a.f0 = x ∧ a.f1 = y ∧ rd F y = rd F x - 1) ∨ Cnd l F x y) := by
      intro y
      unfold Cnd hasA
      simp only [List.any_cons, Bool.or_eq_true, Bool.and_eq_true, decide_eq_true_eq]
      constructor
      · rintro ⟨⟨q1, q2⟩ | q, q3⟩
        · exact .inl ⟨q1, q2, q3⟩
        · exact .inr ⟨q, q3⟩
      · rintro (⟨q1, q2, q3⟩ | ⟨q, q3⟩)
        · exact ⟨.inl ⟨q1, q2⟩, q3⟩
        · exact ⟨.inr q, q3⟩
    by_cases c : a.f0 = x ∧ rd F a.f1 = rd F x - 1
    · have hb : bst F x m a = if m < 0 ∨ a.f1 < m then a.f1 else m := by unfold bst; rw [if_pos c]
      have hb0 : 0 ≤ bst F x m a := by rw [hb]; split <;> omega
      have hb1 : bst F x m a ≤ a.f1 := by rw [hb]; split <;> omega
      obtain ⟨r1, r2⟩ := h2 hb0
      refine ⟨fun y hy => ?_, fun hm => ⟨?_, r2⟩, ?_⟩
      · rcases (hc y).1 hy with ⟨_, e, _⟩ | q
        · exact ⟨by omega, r2⟩
        · exact h1 y q
      · have : bst F x m a ≤ m := by rw [hb]; split <;> omega
        omega
      · rcases h3 with q | q
        · rw [q, hb]
          split
          · exact .inr ((hc _).2 (.inl ⟨c.1, rfl, c.2⟩))
          · exact .inl rfl
        · exact .inr ((hc _).2 (.inr q))
    · have hb : bst F x m a = m := by unfold bst; rw [if_neg c]
      rw [hb] at h1 h2 h3 ⊢
      refine ⟨fun y hy => ?_, h2, ?_⟩
      · rcases (hc y).1 hy with ⟨e1, e2, e3⟩ | q
        · exact absurd ⟨e1, by rw [e2]; exact e3⟩ c
        · exact h1 y q
      · rcases h3 with q | q
        · exact .inl q
        · exact .inr ((hc _).2 (.inr q))
theorem bst_least {N : Nat} {l : List S46} {F : List Int} {x y : Int} (ho : Ok N l) (h : Lst l F x y) : l.foldl (bst F x) (-1) = y := by
  obtain ⟨h1, h2, h3⟩ := bst_fold F x l ho (-1)
  obtain ⟨q1, q2⟩ := h1 y h.1
  rcases h3 with q | q
  · omega
  · exact Int.le_antisymm q1 (h.2 _ q)
end Go.Proofs.Ytlbkbodadkhogaa.Pure
end

/- The plain laws of graphs, F: Path of the program and of the reference. -/
section
namespace Go.Proofs.Ytlbkbodadkhogaa.Pure
open Go.RowKit Go.Proofs.Ytlbkbodadkhogaa.X Go.Proofs.YtlbkbodadkhogaaW.PrintWords
set_option linter.unusedVariables false
theorem wsub {v : Int} (h0 : -1000 ≤ v) (h1 : v ≤ 100000) : wrap64 (v - 1) = v - 1 := by unfold wrap64; omega
theorem p_l1 {N : Nat} (hN : N ≤ 1000) {n : Int} (l : List S46) (hl : l.length ≤ 1000000) (ho : Ok N l) (t : Int) (F : List Int) (hF : F.length = N) (hv : ∀ y : Int, 0 ≤ y → y < N → -1 ≤ rd F y ∧ rd F y < N) (x : Int) (hx : 0 ≤ x ∧ x < N) (hxt : x ≠ t) (o : List Int) (hol : o.length ≤ 100000) (r : List Int × Int) (y : Int) (hy : 0 ≤ y)
    (h : Ev (fun k => graph_Path.l0 k t F (o ++ [y]) y n l) r) : ∀ (e i : Nat), l.length - i = e → i ≤ l.length → ∀ (m : Int), (l.drop i).foldl (bst F x) m = y → Ev (fun k => graph_Path.l1 k t F o x m l (l.length : Int) (i : Int) n l) r := by
  intro e
  induction e with
  | zero =>
    intro i he hi m hm
    rw [List.drop_eq_nil_of_le (by omega)] at hm
    have hm' : m = y := hm
    subst hm'
    refine Ev.step (fun k => ?_) h
    simp only [graph_Path.l1]
    rw [if_neg (by omega), if_neg (by omega), if_pos (by omega)]
  | succ e ih =>
    intro i he hi m hm
    have hlt : i < l.length := by omega
    have ha := ho l[i] (List.getElem_mem _)
    rw [List.drop_eq_getElem_cons hlt, List.foldl_cons] at hm
    have hn := ih (i + 1) (by omega) (by omega) _ hm
    have hvx := hv x hx.1 hx.2
    refine Ev.step (fun k => ?_) hn
    simp only [graph_Path.l1]
    rw [if_pos (by omega), if_pos (by omega), if_pos (by omega), if_neg hxt, rdT l i hlt, w64 (i := i) (by omega)]
    by_cases c : l[i].f0 = x
    · rw [if_pos c, if_pos ha.2.2.1, if_pos (by omega), if_pos hx.1, if_pos (by omega), wsub (by omega) (by omega)]
      by_cases d : rd F l[i].f1 = rd F x - 1
      · rw [if_pos d, show bst F x m l[i] = if m < 0 ∨ l[i].f1 < m then l[i].f1 else m from by unfold bst; rw [if_pos ⟨c, d⟩]]
        by_cases q : m < 0
        · rw [if_pos q, if_pos (.inl q)]
        · rw [if_neg q]
          by_cases q2 : l[i].f1 < m
          · rw [if_pos q2, if_pos (.inr q2)]
          · rw [if_neg q2, if_neg (by omega)]
      · rw [if_neg d, show bst F x m l[i] = m from by unfold bst; rw [if_neg (fun w => d w.2)]]
    · rw [if_neg c, show bst F x m l[i] = m from by unfold bst; rw [if_neg (fun w => c w.1)]]
theorem p_l0 {N : Nat} (hN : N ≤ 1000) {n : Int} (l : List S46) (hl : l.length ≤ 1000000) (ho : Ok N l) (t : Int) (ht : 0 ≤ t ∧ t < N) (F : List Int) (hF : F.length = N) (hv : ∀ y : Int, 0 ≤ y → y < N → -1 ≤ rd F y ∧ rd F y < N) :
    ∀ (P : List Int) (x : Int), (0 ≤ x ∧ x < N) → Pth l F t x P → ∀ (o : List Int), o.length + P.length ≤ 100000 → Ev (fun k => graph_Path.l0 k t F o x n l) (o ++ P, 0) := by
  intro P
  induction P with
  | nil =>
    intro x hx h o hol
    have hxt : x = t := h
    rw [List.append_nil]
    refine Ev.step (f := fun k => graph_Path.l1 k t F o x (-1) l (l.length : Int) 0 n l) (fun k => by simp only [graph_Path.l0]) ?_
    refine Ev.step (f := fun _ => some (o, 0)) (fun k => ?_) (Ev.now _)
    simp only [graph_Path.l1]
    by_cases c : (0 : Int) < (l.length : Int)
    · rw [if_pos c, if_pos (by omega), if_pos c, if_pos hxt]
    · rw [if_neg c, if_pos (by omega)]
  | cons y P ih =>
    intro x hx h o hol
    obtain ⟨h1, h2, h3⟩ := h
    obtain ⟨a, ha, e1, e2⟩ := hasA_iff.1 h2.1.1
    have hr := ho a ha
    have hy : 0 ≤ y ∧ y < N := by omega
    have hn := ih y hy h3 (o ++ [y]) (by simp at hol ⊢; omega)
    rw [List.append_assoc] at hn
    have hb := bst_least ho h2
    refine Ev.step (f := fun k => graph_Path.l1 k t F o x (-1) l (l.length : Int) 0 n l) (fun k => by simp only [graph_Path.l0]) ?_
    exact p_l1 hN l hl ho t F hF hv x hx h1 o (by omega) _ y hy.1 hn l.length 0 (by omega) (by omega) (-1) (by simpa using hb)
theorem r_l1 {N : Nat} (hN : N ≤ 1000) {n : Int} (l : List S46) (hl : l.length ≤ 1000000) (ho : Ok N l) (t : Int) (F : List Int) (hF : F.length = N) (hv : ∀ y : Int, 0 ≤ y → y < N → -1 ≤ rd F y ∧ rd F y < N) (x : Int) (hx : 0 ≤ x ∧ x < N) (o : List Int) (hol : o.length ≤ 100000) (r : List Int × Int) (y : Nat) (hyN : y < N) (hL : Lst l F x y)
    (h : Ev (fun k => dancestudioref09_Path.l0 k t F (o ++ [(y : Int)]) y n l) r) : ∀ (e z : Nat), y - z = e → z ≤ y → Ev (fun k => dancestudioref09_Path.l1 k t F o x (z : Int) n l) r := by
  intro e
  induction e with
  | zero =>
    intro z he hz
    have : z = y := by omega
    subst this
    have hvx := hv x hx.1 hx.2
    refine Ev.step (fun k => by simp only [dancestudioref09_Path.l1]) (Ev.bind (f := fun k t265 => if t265 = true then (if 0 ≤ (z : Int) then (if (z : Int) < (F.length : Int) then (if 0 ≤ x then (if x < (F.length : Int) then (if (rd F z) = (wrap64 ((rd F x) - 1)) then (if o.length < 17592186044416 then (dancestudioref09_Path.l0 k t F (o ++ [(z : Int)]) z n l) else (none)) else (dancestudioref09_Path.l1 k t F o x (wrap64 ((z : Int) + 1)) n l)) else (none)) else (none)) else (none)) else (none)) else (dancestudioref09_Path.l1 k t F o x (wrap64 ((z : Int) + 1)) n l)) (has_ev n l x z (by omega)) ?_)
    refine Ev.congr (fun k => ?_) h
    rw [if_pos hL.1.1, if_pos (by omega), if_pos (by omega), if_pos hx.1, if_pos (by omega), wsub (by omega) (by omega), if_pos hL.1.2, if_pos (by omega)]
  | succ e ih =>
    intro z he hz
    have hn := ih (z + 1) (by omega) (by omega)
    have hvx := hv x hx.1 hx.2
    refine Ev.step (fun k => by simp only [dancestudioref09_Path.l1]) (Ev.bind (f := fun k t265 => if t265 = true then (if 0 ≤ (z : Int) then (if (z : Int) < (F.length : Int) then (if 0 ≤ x then (if x < (F.length : Int) then (if (rd F z) = (wrap64 ((rd F x) - 1)) then (if o.length < 17592186044416 then (dancestudioref09_Path.l0 k t F (o ++ [(z : Int)]) z n l) else (none)) else (dancestudioref09_Path.l1 k t F o x (wrap64 ((z : Int) + 1)) n l)) else (none)) else (none)) else (none)) else (none)) else (dancestudioref09_Path.l1 k t F o x (wrap64 ((z : Int) + 1)) n l)) (has_ev n l x z (by omega)) ?_)
    refine Ev.congr (fun k => ?_) hn
    by_cases c : hasA l x z = true
    · rw [if_pos c, if_pos (by omega), if_pos (by omega), if_pos hx.1, if_pos (by omega), wsub (by omega) (by omega), if_neg (fun q => by have := hL.2 z ⟨c, q⟩; omega), w64 (by omega)]
    · rw [if_neg c, w64 (by omega)]
theorem r_l0 {N : Nat} (hN : N ≤ 1000) {n : Int} (l : List S46) (hl : l.length ≤ 1000000) (ho : Ok N l) (t : Int) (F : List Int) (hF : F.length = N) (hv : ∀ y : Int, 0 ≤ y → y < N → -1 ≤ rd F y ∧ rd F y < N) :
    ∀ (P : List Int) (x : Int), (0 ≤ x ∧ x < N) → Pth l F t x P → ∀ (o : List Int), o.length + P.length ≤ 100000 → Ev (fun k => dancestudioref09_Path.l0 k t F o x n l) (o ++ P, 0) := by
  intro P
  induction P with
  | nil =>
    intro x hx h o hol
    have hxt : x = t := h
    rw [List.append_nil]
    refine Ev.step (f := fun _ => some (o, 0)) (fun k => ?_) (Ev.now _)
    simp only [dancestudioref09_Path.l0]
    rw [if_pos hxt]
  | cons y P ih =>
    intro x hx h o hol
    obtain ⟨h1, h2, h3⟩ := h
    obtain ⟨a, ha, e1, e2⟩ := hasA_iff.1 h2.1.1
    have hr := ho a ha
    have hy : 0 ≤ y ∧ y < N := by omega
    have hn := ih y hy h3 (o ++ [y]) (by simp at hol ⊢; omega)
    rw [List.append_assoc] at hn
    obtain ⟨m, rfl⟩ := Int.eq_ofNat_of_zero_le hy.1
    refine Ev.step (f := fun k => dancestudioref09_Path.l1 k t F o x 0 n l) (fun k => ?_) ?_
    · simp only [dancestudioref09_Path.l0]
      rw [if_neg h1]
    · exact r_l1 hN l hl ho t F hF hv x hx o (by omega) _ m (by omega) h2 hn m 0 (by omega) (by omega)
/-- What Path answers. -/
def PathIs (N : Nat) (l : List S46) (F : List Int) (s t : Int) (r : List Int × Int) : Prop := (rd F s < 0 ∧ r = ([], 6)) ∨ (∃ (d : Nat) (P : List Int), rd F s = d ∧ Pth l F t s P ∧ P.length = d ∧ r = (s :: P, 0))
theorem path_ev {n : Int} {l : List S46} {N : Nat} (hn : n = N) (hN : N ≤ 64) (hl : l.length ≤ 512) (ho : Ok N l) (hz : gchk n l = 0) (s t : Int) (hs : 0 ≤ s ∧ s < N) (ht : 0 ≤ t ∧ t < N) :
    ∃ (F : List Int) (r : List Int × Int), Far N l true t F ∧ PathIs N l F s t r ∧ Ev (fun k => graph_Path.f k n l s t) r ∧ Ev (fun k => dancestudioref09_Path.f k n l s t) r := by
  subst hn
  obtain ⟨F, hF, hE⟩ := waves_ev true l ho (by omega) (by omega) t ht
  have hR := far_ev l ho (by omega) (by omega) t ht hF
  have hv := fun (y : Int) y0 y1 => hF.small ho ht (y := y) y0 y1
  have key : ∀ r, Ev (fun k => (if 0 ≤ s then (if s < (F.length : Int) then (if (rd F s) < 0 then (some (([] : List Int), 6)) else (graph_Path.l0 k t F (([s] : List Int)) s (N : Int) l)) else (none)) else (none))) r → Ev (fun k => graph_Path.f k (N : Int) l s t) r := by
    intro r h
    unfold graph_Path.f
    refine Ev.bind (gchk_ev (N : Int) l) ?_
    refine Ev.step (fun k => ?_) (Ev.bind (f := fun k t159 => (if 0 ≤ s then (if s < (t159.length : Int) then (if (rd t159 s) < 0 then (some (([] : List Int), 6)) else (graph_Path.l0 k t t159 (([s] : List Int)) s (N : Int) l)) else (none)) else (none))) hE h)
    rw [if_pos hz, if_neg (by omega), if_neg (by omega), if_neg (by omega), decide_eq_false (by omega)]
    simp only [graph_Path.j0]
    rw [if_neg (by simp)]
  have key2 : ∀ r, Ev (fun k => (if 0 ≤ s then (if s < (F.length : Int) then (if (rd F s) < 0 then (some (([] : List Int), 6)) else (dancestudioref09_Path.l0 k t F (([s] : List Int)) s (N : Int) l)) else (none)) else (none))) r → Ev (fun k => dancestudioref09_Path.f k (N : Int) l s t) r := by
    intro r h
    unfold dancestudioref09_Path.f
    refine Ev.bind (rchk_ev (N : Int) l) ?_
    refine Ev.step (fun k => ?_) (Ev.bind (f := fun k t159 => (if 0 ≤ s then (if s < (t159.length : Int) then (if (rd t159 s) < 0 then (some (([] : List Int), 6)) else (dancestudioref09_Path.l0 k t t159 (([s] : List Int)) s (N : Int) l)) else (none)) else (none))) hR h)
    rw [if_pos hz, node_f, node_f]
    simp only [Option.bind_some]
    rw [if_pos (by simp; omega)]
    have e : (!(decide (0 ≤ t) && decide (t < (N : Int)))) = false := by simp; omega
    rw [e]
    simp only [dancestudioref09_Path.j0]
    rw [if_neg (by simp)]
  have hsl : s < (F.length : Int) := by rw [hF.len]; exact hs.2
  by_cases c : rd F s < 0
  · refine ⟨F, ([], 6), hF, .inl ⟨c, rfl⟩, key _ ?_, key2 _ ?_⟩
    · exact Ev.congr (f := fun _ => some ([], 6)) (fun k => by rw [if_pos hs.1, if_pos hsl, if_pos c]) (Ev.now _)
    · exact Ev.congr (f := fun _ => some ([], 6)) (fun k => by rw [if_pos hs.1, if_pos hsl, if_pos c]) (Ev.now _)
  · obtain ⟨d, hd⟩ := Int.eq_ofNat_of_zero_le (show 0 ≤ rd F s by omega)
    obtain ⟨P, hP, hPl⟩ := Pth.exists ho hF d s hs.1 hs.2 hd
    have hdN : d < N := by have := (hv s hs.1 hs.2).2; omega
    refine ⟨F, (s :: P, 0), hF, .inr ⟨d, P, hd, hP, hPl, rfl⟩, key _ ?_, key2 _ ?_⟩
    · refine Ev.congr (fun k => by rw [if_pos hs.1, if_pos hsl, if_neg c]) ?_
      simpa using p_l0 (by omega) l (by omega) ho t ht F hF.len hv P s hs hP [s] (by simp; omega)
    · refine Ev.congr (fun k => by rw [if_pos hs.1, if_pos hsl, if_neg c]) ?_
      simpa using r_l0 (by omega) l (by omega) ho t F hF.len hv P s hs hP [s] (by simp; omega)
theorem path_bad (n : Int) (l : List S46) (s t : Int) (h : gchk n l ≠ 0 ∨ ¬ (0 ≤ s ∧ s < n) ∨ ¬ (0 ≤ t ∧ t < n)) : Ev (fun k => graph_Path.f k n l s t) ([], if gchk n l ≠ 0 then gchk n l else 6) ∧ Ev (fun k => dancestudioref09_Path.f k n l s t) ([], if gchk n l ≠ 0 then gchk n l else 6) := by
  by_cases hz : gchk n l = 0
  · have hst : ¬ (0 ≤ s ∧ s < n) ∨ ¬ (0 ≤ t ∧ t < n) := by rcases h with h | h; exact absurd hz h; exact h
    rw [if_neg (by simp [hz])]
    constructor
    · unfold graph_Path.f
      refine Ev.bind (gchk_ev n l) ?_
      refine Ev.step (f := fun _ => some ([], 6)) (fun k => ?_) (Ev.now _)
      rw [if_pos hz]
      by_cases c : s < 0
      · rw [if_pos c]; simp only [graph_Path.j0]; rfl
      · rw [if_neg c]
        by_cases d : s ≥ n
        · rw [if_pos d]; simp only [graph_Path.j0]; rfl
        · rw [if_neg d]
          by_cases e : t < 0
          · rw [if_pos e]; simp only [graph_Path.j0]; rfl
          · rw [if_neg e, decide_eq_true (by omega)]; simp only [graph_Path.j0]; rfl
    · unfold dancestudioref09_Path.f
      refine Ev.bind (rchk_ev n l) ?_
      refine Ev.step (f := fun _ => some ([], 6)) (fun k => ?_) (Ev.now _)
      rw [if_pos hz, node_f, node_f]
      simp only [Option.bind_some]
      by_cases c : 0 ≤ s ∧ s < n
      · rw [if_pos (by simp; omega)]
        have e : (!(decide (0 ≤ t) && decide (t < n))) = true := by simp; omega
        rw [e]; simp only [dancestudioref09_Path.j0]; rfl
      · rw [if_neg (by simp; omega)]; simp only [dancestudioref09_Path.j0]; rfl
  · rw [if_pos hz]
    constructor
    · unfold graph_Path.f
      refine Ev.bind (gchk_ev n l) ?_
      exact Ev.congr (f := fun _ => some ([], gchk n l)) (fun k => by rw [if_neg hz]) (Ev.now _)
    · unfold dancestudioref09_Path.f
      refine Ev.bind (rchk_ev n l) ?_
      exact Ev.congr (f := fun _ => some ([], gchk n l)) (fun k => by rw [if_neg hz]) (Ev.now _)
end Go.Proofs.Ytlbkbodadkhogaa.Pure
end
