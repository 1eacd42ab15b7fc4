/- Texts of this claim in one: OrdA, OrdM, OrdW. -/
import Derived.Test.YtlbkbodadkhogaaHp
import Derived.Test.YtlbkbodadkhogaaX0
/- graph.Order: the heap in the words of an ordered list; what lies in memory between two steps. Lemmas. -/
section
namespace Go.Proofs.Ytlbkbodadkhogaa.X
open Go.RowKit Go.Proofs.YtlbkbodadkhogaaW.PrintWords Go.Proofs.YtlbkbodadkhogaaW.PrintLast Go.Proofs.YtlbkbodadkhogaaW.PrintMore
set_option linter.unusedVariables false
theorem heap_push_F (w : World) (base g : Nat) (v : Value) (L F : List Int) (x : Int) (H1 : One w g 50 v) (H : OwnI w base v L) (hF : HpF L F) (hb : base ≤ w.heap.size) (hl : F.length ≤ 90000) : Calls Try.prog 31 #[.iface 49 (.pointer (some ⟨g, 0, none⟩)), .iface 3 (.int .i64 x)] w fun e w' => e = .returned (.tuple #[]) ∧ (∃ v' L', One w' g 50 v' ∧ OwnI w' base v' L' ∧ HpF L' (ins x F) ∧ (v'.ownBlock = v.ownBlock ∨ ∃ b, v'.ownBlock = some b ∧ w.heap.size ≤ b)) ∧ Keeps w w' (fun k => k = g ∨ some k = v.ownBlock) :=
  (heap_push w base g v L x H1 H hb (by rw [hF.length]; exact hl)).mono fun _ _ ⟨he, ⟨v', h1, h2, h3⟩, hk⟩ => ⟨he, ⟨v', _, h1, h2, hF.push x, h3⟩, hk⟩
theorem heap_pop_F (w : World) (base g : Nat) (v : Value) (L F : List Int) (x : Int) (H1 : One w g 50 v) (H : OwnI w base v L) (hF : HpF L (x :: F)) (hl : F.length ≤ 80000) (hb : base ≤ w.heap.size) : Calls Try.prog 33 #[.iface 49 (.pointer (some ⟨g, 0, none⟩))] w fun e w' => e = .returned (.iface 3 (.int .i64 x)) ∧ (∃ v' L', One w' g 50 v' ∧ OwnI w' base v' L' ∧ HpF L' F ∧ v'.ownBlock = v.ownBlock) ∧ Keeps w w' (fun k => k = g ∨ some k = v.ownBlock) := by
  obtain ⟨M, hM, hMF⟩ := hF.pop
  have hl2 := hF.length
  simp at hl2
  exact (heap_pop w base g v L M x H1 H (by omega) (by omega) hM hb).mono fun _ _ ⟨he, ⟨v', h1, h2, h3⟩, hk⟩ => ⟨he, ⟨v', _, h1, h2, hMF, h3⟩, hk⟩
theorem OwnI.toR {w : World} {base : Nat} {v : Value} {L : List Int} (h : OwnI w base v L) : Kd.R (Kd.int .i64) 3 w base (fun _ => True) v L := Kd.R_of_own h (fun _ _ => trivial)
/-- Between two steps of Order: the graph's box, the numbers of arcs that come. -/
structure OSt0 (w W : World) (gb gc m : Nat) (n : Int) (A : Option Addr) (ca : Nat) (l : List S46) (c : List Int) : Prop where
  bel : Below w.heap.size w W
  box : W.heap[gb]? = some (.cells #[.int .i64 n, .slice A l.length ca] 24 (0, 0))
  com : OwnI W w.heap.size (.slice (some ⟨gc, 0, none⟩) m m) c
  cl : c.length = m
  gbl : w.heap.size ≤ gb
section
variable {w W W2 : World} {gb gc m : Nat} {n : Int} {A : Option Addr} {ca : Nat} {l : List S46} {c : List Int}
theorem OSt0.below (h : OSt0 w W gb gc m n A ca l c) (hb : Below W.heap.size W W2) : OSt0 w W2 gb gc m n A ca l c :=
  ⟨below_step h.bel hb, blk_below h.box hb, pw_own_below h.com hb, h.cl, h.gbl⟩
theorem OSt0.gcl (h : OSt0 w W gb gc m n A ca l c) : w.heap.size ≤ gc := own_base h.com gc rfl
theorem OSt0.store (h : OSt0 w W gb gc m n A ca l c) (i x : Int) : OSt0 w (W.setCell ⟨gc, i.toNat, none⟩ (.int .i64 x)) gb gc m n A ca l (c.set i.toNat x) := by
  have hcl := h.cl
  subst hcl
  refine ⟨h.bel.setCell h.gcl _, blk_far h.box (fun e => ?_) _, own_put h.com i x, by simp, h.gbl⟩
  have := own_ne h.com h.box (by decide)
  exact this (by rw [e]; rfl)
theorem OSt0.cell0 (h : OSt0 w W gb gc m n A ca l c) : W.cell? ⟨gb, 0, none⟩ = some (.int .i64 n) := (blk_cell h.box 0).trans rfl
theorem OSt0.cell1 (h : OSt0 w W gb gc m n A ca l c) : W.cell? ⟨gb, 1, none⟩ = some (.slice A l.length ca) := (blk_cell h.box 1).trans rfl
theorem OSt0.at_ (h : OSt0 w W gb gc m n A ca l c) (i : Int) (h0 : 0 ≤ i) (h1 : i < m) : W.cell? ⟨gc, i.toNat, none⟩ = some (.int .i64 (rd c i)) ∧ W.frozen? ⟨gc, i.toNat, none⟩ = false := by
  have hc := h.com
  unfold OwnI at hc
  rw [h.cl] at hc
  exact own_at hc i h0 h1
end
/-- Between two steps of Order, the heap and the nodes that were taken made. -/
structure OSt (w W : World) (gb gc gf m : Nat) (n : Int) (A : Option Addr) (ca : Nat) (l : List S46) (c : List Int) (vf : Value) (F : List Int) (vo : Value) (out : List Int) : Prop where
  st : OSt0 w W gb gc m n A ca l c
  fr : One W gf 50 vf
  hp : ∃ L, OwnI W w.heap.size vf L ∧ HpF L F
  ou : OwnI W w.heap.size vo out
  cf : vf.ownBlock ≠ some gc
  co : vo.ownBlock ≠ some gc
  fo : vo.ownBlock = none ∨ vf.ownBlock ≠ vo.ownBlock
  gfl : w.heap.size ≤ gf
section
variable {w W W2 : World} {gb gc gf m : Nat} {n : Int} {A : Option Addr} {ca : Nat} {l : List S46} {c : List Int} {vf : Value} {F : List Int} {vo : Value} {out : List Int}
theorem OSt.below (h : OSt w W gb gc gf m n A ca l c vf F vo out) (hb : Below W.heap.size W W2) : OSt w W2 gb gc gf m n A ca l c vf F vo out := by
  obtain ⟨L, h1, h2⟩ := h.hp
  exact ⟨h.st.below hb, h.fr.below hb, ⟨L, pw_own_below h1 hb, h2⟩, pw_own_below h.ou hb, h.cf, h.co, h.fo, h.gfl⟩
theorem OSt.store (h : OSt w W gb gc gf m n A ca l c vf F vo out) (i x : Int) : OSt w (W.setCell ⟨gc, i.toNat, none⟩ (.int .i64 x)) gb gc gf m n A ca l (c.set i.toNat x) vf F vo out := by
  obtain ⟨L, h1, h2⟩ := h.hp
  refine ⟨h.st.store i x, h.fr.far (fun e => ?_) _ _, ⟨L, own_setCell h1 (fun e => h.cf e.symm) _, h2⟩, own_setCell h.ou (fun e => h.co e.symm) _, h.cf, h.co, h.fo, h.gfl⟩
  have := own_ne h.st.com h.fr (by decide)
  exact this (by rw [e]; rfl)
theorem OSt.heap (h : OSt w W gb gc gf m n A ca l c vf F vo out) {vf2 : Value} {F2 : List Int} (hk : Keeps W W2 (fun k => k = gf ∨ some k = vf.ownBlock)) (h1 : One W2 gf 50 vf2) (h2 : ∃ L, OwnI W2 w.heap.size vf2 L ∧ HpF L F2)
    (h3 : vf2.ownBlock = vf.ownBlock ∨ ∃ b, vf2.ownBlock = some b ∧ W.heap.size ≤ b) : OSt w W2 gb gc gf m n A ca l c vf2 F2 vo out := by
  obtain ⟨L, hL, _⟩ := h.hp
  have hb := own_base hL
  have hcl : gc < W.heap.size := own_lt h.st.com gc rfl
  have ng : ¬ (gc = gf ∨ some gc = vf.ownBlock) := by
    rintro (e | e)
    · have := own_ne h.st.com h.fr (by decide)
      exact this (by rw [e]; rfl)
    · exact h.cf e.symm
  have hobl : ∀ k, vo.ownBlock = some k → ¬ (k = gf ∨ some k = vf.ownBlock) := by
    rintro k e (d | d)
    · exact own_ne h.ou h.fr (by decide) (by rw [← d, e])
    · rcases h.fo with f | f
      · rw [f] at e; cases e
      · exact f (by rw [e, d])
  refine ⟨⟨?_, hk.blk h.st.box ?_, own_move h.st.com (fun k e => ?_), h.st.cl, h.st.gbl⟩, h1, h2, own_move h.ou (fun k e => ?_), ?_, h.co, ?_, h.gfl⟩
  · refine below_weaken h.st.bel ?_ (hk.toBelow (B := w.heap.size) (fun k hk => ?_) h.st.bel.size)
    · exact Nat.le_refl _
    · rcases hk with e | e
      · rw [e]; exact h.gfl
      · exact hb k e.symm
  · rintro (e | e)
    · exact blk_ne h.st.box h.fr (by decide) e
    · exact own_ne hL h.st.box (by decide) e
  · cases e; exact hk.block gc hcl ng
  · exact hk.block k (own_lt h.ou k e) (hobl k e)
  · rcases h3 with e | ⟨b, e, hb2⟩
    · rw [e]; exact h.cf
    · rw [e]; intro q; cases q; omega
  · rcases h.fo with f | f
    · exact .inl f
    · rcases h3 with e | ⟨b, e, hb2⟩
      · rw [e]; exact .inr f
      · rw [e]
        refine .inr (fun q => ?_)
        have := own_lt h.ou b q.symm
        omega
theorem OSt.app (h : OSt w W gb gc gf m n A ca l c vf F vo out) {vo2 : Value} {out2 : List Int} (hg : W.grownBy W2 vo.ownBlock) (h1 : OwnI W2 w.heap.size vo2 out2)
    (h3 : vo2.ownBlock = vo.ownBlock ∨ ∃ b, vo2.ownBlock = some b ∧ W.heap.size ≤ b) : OSt w W2 gb gc gf m n A ca l c vf F vo2 out2 := by
  obtain ⟨L, hL, hLF⟩ := h.hp
  refine ⟨⟨?_, blk_grown h.st.box hg (own_ne h.ou h.st.box (by decide)), own_other h.st.com hg (.inr (fun e => h.co e.symm)), h.st.cl, h.st.gbl⟩, h.fr.grown hg (own_ne h.ou h.fr (by decide)), ⟨L, ?_, hLF⟩, h1, h.cf, ?_, ?_, h.gfl⟩
  · exact pw_below_grown h.st.bel _ h.st.bel.size hg (fun k e => own_base h.ou k e)
  · rcases h.fo with f | f
    · rw [f] at hg
      refine own_move hL (fun k e => hg.block k (own_lt hL k e) (by simp))
    · exact own_other hL hg (.inr f)
  · rcases h3 with e | ⟨b, e, hb2⟩
    · rw [e]; exact h.co
    · rw [e]; intro q; cases q
      have := own_lt h.st.com gc rfl
      omega
  · rcases h3 with e | ⟨b, e, hb2⟩
    · rw [e]; exact h.fo
    · rw [e]
      refine .inr (fun q => ?_)
      have := own_lt hL b q
      omega
end
end Go.Proofs.Ytlbkbodadkhogaa.X
end

/- graph.Order as a plain function: an ordered list in the place of the heap. No memory in sight. -/
section
namespace Go.Proofs.Ytlbkbodadkhogaa.X
open Go.RowKit Go.Proofs.YtlbkbodadkhogaaW.PrintWords
set_option linter.unusedVariables false
/-- An arc between nodes. -/
def okArc (n : Int) (a : S46) : Bool := decide (0 ≤ a.f0) && decide (a.f0 < n) && decide (0 ≤ a.f1) && decide (a.f1 < n)
/-- graph.Check. -/
def gchk (n : Int) (l : List S46) : Int := if n < 0 ∨ 64 < n then 1 else if 512 < l.length then 3 else if l.all (okArc n) then 0 else 6
theorem gchk_ok {n : Int} {l : List S46} (h : gchk n l = 0) : 0 ≤ n ∧ n ≤ 64 ∧ l.length ≤ 512 ∧ ∀ a ∈ l, 0 ≤ a.f0 ∧ a.f0 < n ∧ 0 ≤ a.f1 ∧ a.f1 < n := by
  unfold gchk at h
  split at h
  · cases h
  · split at h
    · cases h
    · split at h
      · rename_i h1 h2 h3
        refine ⟨by omega, by omega, by omega, fun a ha => ?_⟩
        have := List.all_eq_true.1 h3 a ha
        simp [okArc] at this
        omega
      · cases h
/-- How many arcs come to each node. -/
def ordCnt (l : List S46) (c : List Int) : List Int := l.foldl (fun c a => c.set a.f1.toNat (wrap64 (rd c a.f1 + 1))) c
/-- The first nodes to which none comes. -/
def ordFree : Nat → List Int → List Int
  | 0, _ => []
  | i + 1, c => if rd c i = 0 then ins i (ordFree i c) else ordFree i c
/-- A node's arcs are taken away. -/
def ordRelax (x : Int) (l : List S46) (s : List Int × List Int) : List Int × List Int :=
  l.foldl (fun s a => if a.f0 = x then (s.1.set a.f1.toNat (wrap64 (rd s.1 a.f1 - 1)), if wrap64 (rd s.1 a.f1 - 1) = 0 then ins a.f1 s.2 else s.2) else s) s
/-- The nodes in order: k is a bound on the rounds. -/
def ordGo : Nat → List S46 → List Int → List Int → List Int → Option (List Int)
  | 0, _, _, _, _ => none
  | k + 1, l, c, F, out => match F with
    | [] => some out
    | x :: F' => if F.length ≤ 80000 then (if out.length ≤ 80000 then ordGo k l (ordRelax x l (c, F')).1 (ordRelax x l (c, F')).2 (out ++ [x]) else none) else none
def graph_order (n : Int) (l : List S46) : Option (List Int × Int) :=
  if gchk n l = 0 then (ordGo 100 l (ordCnt l (List.replicate n.toNat 0)) (ordFree n.toNat (ordCnt l (List.replicate n.toNat 0))) []).bind fun out => if (out.length : Int) < n then some ([], 15) else some (out, 0)
  else some ([], gchk n l)
theorem ordCnt_length (l : List S46) (c : List Int) : (ordCnt l c).length = c.length := by
  unfold ordCnt
  induction l generalizing c with
  | nil => rfl
  | cons a l ih => rw [List.foldl_cons, ih, List.length_set]
theorem ordCnt_step (l : List S46) (c : List Int) (i : Nat) (h : i < l.length) : ordCnt (l.take (i + 1)) c = (ordCnt (l.take i) c).set (rd_T46 l i).f1.toNat (wrap64 (rd (ordCnt (l.take i) c) (rd_T46 l i).f1 + 1)) := by
  unfold ordCnt
  rw [List.take_succ_eq_append_getElem h, List.foldl_append]
  have : rd_T46 l i = l[i] := by simp [rd_T46, h]
  rw [this]; rfl
theorem ordRelax_step (x : Int) (l : List S46) (s : List Int × List Int) (i : Nat) (h : i < l.length) : ordRelax x (l.take (i + 1)) s =
    if (rd_T46 l i).f0 = x then ((ordRelax x (l.take i) s).1.set (rd_T46 l i).f1.toNat (wrap64 (rd (ordRelax x (l.take i) s).1 (rd_T46 l i).f1 - 1)), if wrap64 (rd (ordRelax x (l.take i) s).1 (rd_T46 l i).f1 - 1) = 0 then ins (rd_T46 l i).f1 (ordRelax x (l.take i) s).2 else (ordRelax x (l.take i) s).2) else ordRelax x (l.take i) s := by
  unfold ordRelax
  rw [List.take_succ_eq_append_getElem h, List.foldl_append]
  have : rd_T46 l i = l[i] := by simp [rd_T46, h]
  rw [this]; rfl
theorem ordRelax_lens (x : Int) (l : List S46) (s : List Int × List Int) : (ordRelax x l s).1.length = s.1.length ∧ (ordRelax x l s).2.length ≤ s.2.length + l.length := by
  unfold ordRelax
  induction l generalizing s with
  | nil => exact ⟨rfl, by simp⟩
  | cons a l ih =>
    rw [List.foldl_cons]
    obtain ⟨h1, h2⟩ := ih (if a.f0 = x then (s.1.set a.f1.toNat (wrap64 (rd s.1 a.f1 - 1)), if wrap64 (rd s.1 a.f1 - 1) = 0 then ins a.f1 s.2 else s.2) else s)
    refine ⟨h1.trans ?_, Nat.le_trans h2 ?_⟩
    · split
      · simp
      · rfl
    · simp only [List.length_cons]
      split
      · simp only
        split
        · rw [ins_length]; omega
        · omega
      · omega
theorem ordFree_len : ∀ (i : Nat) (c : List Int), (ordFree i c).length ≤ i := by
  intro i c
  induction i with
  | zero => simp [ordFree]
  | succ i ih => unfold ordFree; split <;> (try rw [ins_length]) <;> omega
/-- The nodes are told in order: none of the numbers is out of range. -/
theorem rd_mem (l : List S46) (i : Nat) (h : i < l.length) : rd_T46 l i ∈ l := by
  have : rd_T46 l i = l[i] := by simp [rd_T46, h]
  rw [this]; exact List.getElem_mem _
end Go.Proofs.Ytlbkbodadkhogaa.X
end

/- graph.Order: the walk. -/
section
namespace Go.Proofs.Ytlbkbodadkhogaa.X
open Go.RowKit Go.Proofs.YtlbkbodadkhogaaW.PrintWords Go.Proofs.YtlbkbodadkhogaaW.PrintLast Go.Proofs.YtlbkbodadkhogaaW.PrintMore
set_option linter.unusedVariables false
set_option linter.unusedSimpArgs false
def ChkC (n : Int) (l : List S46) : Prop := ∀ (w : World) (A : Option Addr) (ca : Nat), Kd.C k46 w A l.length l → l.length ≤ ca → Calls Try.prog 11 #[.agg #[.int .i64 n, .slice A l.length ca]] w fun e w' => e = .returned (.int .i64 (gchk n l)) ∧ Below w.heap.size w w'
set_option maxHeartbeats 8000000 in
set_option maxRecDepth 100000 in
theorem order_yes (m : Nat) (l : List S46) (A : Option Addr) (ca : Nat) (r1 : List Int) (r2 : Int) (w : World) (hr : Kd.C k46 w A l.length l) (hc : l.length ≤ ca) (hchk : ChkC m l) (hz : gchk m l = 0) (h : graph_order m l = some (r1, r2)) :
    Calls Try.prog 15 #[.agg #[.int .i64 m, .slice A l.length ca]] w fun e w' => ∃ v0_ : Value, e = .returned (.tuple #[v0_, .int .i64 r2]) ∧ Kd.R (Kd.int .i64) 3 w' w.heap.size (fun _ => True) v0_ r1 ∧ Below w.heap.size w w' := by
  obtain ⟨hm0, hm1, hl1, hok⟩ := gchk_ok hz
  have HR := Aside0.mk hr
  have HC := Aside0.mk hc
  have HK := Aside0.mk hchk
  have HZ := Aside0.mk hz
  have HO := Aside0.mk hok
  have HL := Aside0.mk hl1
  have HM := Aside0.mk hm1
  unfold graph_order at h
  rw [if_pos hz] at h
  obtain ⟨gb, hgb⟩ : ∃ g : Nat, g = w.heap.size := ⟨_, rfl⟩
  have hmk := print_make (P := Try.prog) 29 3 .i64 8 Try.underlying29 info3 (by decide) m (by omega)
  have HX := Aside0.mk h
  clear hr hc hchk hz h hok hl1 hm1 hm0
  have B1 := Aside0.mk (below_alloc (Below.refl w.heap.size w) (.cells #[.int .i64 m, .slice A l.length ca] 24))
  have X1 : Aside0 ((w.alloc (.cells #[.int .i64 m, .slice A l.length ca] 24)).heap[gb]? = some (.cells #[.int .i64 m, .slice A l.length ca] 24 (0, 0))) := ⟨by rw [hgb]; exact blk_new w _⟩
  have HG := Aside0.mk hgb
  clear hgb
  go_enter Try.func15, Try.ntmps15
  go_wp2_with (go_at_call 11; refine (HK.out _ _ _ (Kd.C_below HR.out B1.out) HC.out).mono ?_; rintro e w1 ⟨rfl, hb⟩; have hz1 : (gchk (m : Int) l != 0) = false := (by rw [HZ.out]; rfl); have B2 := Aside0.mk (below_step B1.out hb); have X2 := Aside0.mk (blk_below X1.out hb); have hc0 : w1.cell? ⟨w.heap.size, 0, none⟩ = some (.int .i64 (m : Int)) := (by rw [← HG.out]; exact (blk_cell X2.out 0).trans rfl); have X3 : Aside0 (OSt0 w (w1.alloc (.cells (madeCells #[.int .i64 0] m) 3)) gb w1.heap.size m m A ca l (List.replicate m 0)) := ⟨⟨below_alloc B2.out _, blk_alloc X2.out _, (by have h := own_made w1 w.heap.size 3 .i64 m B2.out.size (by have := HM.out; omega); unfold OwnI; rw [List.length_replicate]; exact h), List.length_replicate, (by rw [HG.out]; exact Nat.le_refl _)⟩⟩; have hc1 := X3.out.cell1; rw [HG.out] at hc1; clear hb)
  obtain ⟨gc, hgc⟩ : ∃ g : Nat, g = w1.heap.size := ⟨_, rfl⟩
  obtain ⟨W3, hW3⟩ : ∃ W : World, W = w1.alloc (.cells (madeCells #[.int .i64 0] m) 3) := ⟨_, rfl⟩
  rw [← hgc, ← hW3] at X3
  rw [← hgc, ← hW3, ← HG.out]
  clear hW3 hgc hc1 hc0 hmk B2 X2 hz1
  go_loopw [27] (fun v27 w' => ∃ i : Nat, i ≤ l.length ∧ v27 = .int .i64 (i : Int) ∧ Aside0 (OSt0 w w' gb gc m m A ca l (ordCnt (l.take i) (List.replicate m 0)))) (fun v27 _ => l.length - (intOf v27).toNat)
  case atStart => exact ⟨0, Nat.zero_le _, rfl, X3⟩
  case round =>
    clear X3
    obtain ⟨i, hi, rfl, X4⟩ := hrel
    rcases Nat.lt_or_ge i l.length with hlt | hge
    · obtain ⟨ad, rfl, ha0, ha1⟩ := at_T46 (Kd.C_below HR.out X4.out.bel) i (by omega) (by omega)
      rw [Int.toNat_natCast] at ha0 ha1
      have p1 : ((i : Int) < (l.length : Int)) = True := eq_true (by omega)
      have hoa := HO.out _ (rd_mem l i hlt)
      obtain ⟨y, hy⟩ : ∃ y : Int, y = (rd_T46 l i).f1 := ⟨_, rfl⟩
      obtain ⟨y0, hy0⟩ : ∃ y : Int, y = (rd_T46 l i).f0 := ⟨_, rfl⟩
      have hcs := ordCnt_step l (List.replicate m 0) i hlt
      rw [← hy] at hoa hcs ha1
      rw [← hy0] at ha0
      have HCS := Aside0.mk hcs
      have HY := Aside0.mk hy
      clear hcs hy hy0
      obtain ⟨q1, q2, q3, q4⟩ := hoa
      clear q1 q2
      go_upto_region 8 with (fail)
      obtain ⟨ga, hga⟩ : ∃ g : Nat, g = wr.heap.size := ⟨_, rfl⟩
      obtain ⟨W5, hW5⟩ : ∃ W : World, W = wr.alloc (.cells #[.int .i64 y0, .int .i64 y] 46) := ⟨_, rfl⟩
      have X5 : Aside0 (OSt0 w W5 gb gc m m (some ad) ca l (ordCnt (l.take i) (List.replicate m 0))) := ⟨by rw [hW5]; exact X4.out.below (below_alloc (Below.refl _ _) _)⟩
      have A5 : Aside0 (W5.heap[ga]? = some (.cells #[.int .i64 y0, .int .i64 y] 46 (0, 0))) := ⟨by rw [hW5, hga]; exact blk_new _ _⟩
      rw [← hga, ← hW5]
      clear hga hW5 ha0 ha1 X4
      have ha1 : W5.cell? ⟨ga, 1, none⟩ = some (.int .i64 y) := (blk_cell A5.out 1).trans rfl
      obtain ⟨hd, hf⟩ := X5.out.at_ y q3 q4
      replace q3 : (0 ≤ y) = True := eq_true q3
      replace q4 : (y < (m : Int)) = True := eq_true q4
      have E1 : Aside0 (wrap64 ((i : Int) + 1) = ((i + 1 : Nat) : Int)) := ⟨by have := HL.out; unfold wrap64; omega⟩
      go_wp2
      rw [E1.out]
      refine ⟨⟨i + 1, hlt, rfl, ⟨?_⟩⟩, ?_⟩
      · rw [HCS.out]; exact X5.out.store y _
      · show l.length - ((i + 1 : Nat) : Int).toNat < l.length - (i : Int).toNat
        omega
    · have hil : i = l.length := by omega
      subst hil
      have p1 : ((l.length : Int) < (l.length : Int)) = False := eq_false (by omega)
      rw [List.take_length] at X4
      clear hge hi
      go_upto_region 11 with (fail)
      obtain ⟨gf, hgf⟩ : ∃ g : Nat, g = wr.heap.size + 1 := ⟨_, rfl⟩
      obtain ⟨vf, hvf⟩ : ∃ v : Value, v = .slice (some ⟨wr.heap.size, 0, none⟩) 0 0 := ⟨_, rfl⟩
      obtain ⟨W6, hW6⟩ : ∃ W : World, W = (wr.alloc (.cells #[] 3)).alloc (.cells #[vf] 50) := ⟨_, rfl⟩
      have X6 : Aside0 (OSt w W6 gb gc gf m m A ca l (ordCnt l (List.replicate m 0)) vf [] (.slice none 0 0) []) := by
        have hb := below_alloc (Below.refl wr.heap.size wr) (.cells #[] 3)
        have hb2 := below_alloc hb (.cells #[vf] 50)
        have hsz := X4.out.bel.size
        have hlt := own_lt X4.out.com gc rfl
        refine ⟨⟨?_, ?_, ⟨[], ?_, HpF.nil⟩, own_nil _ _ _ _, ?_, ?_, .inl rfl, ?_⟩⟩
        · rw [hW6]; exact X4.out.below hb2
        · rw [hW6, hgf]
          have := One.new (wr.alloc (.cells #[] 3)) 50 vf
          simpa using this
        · rw [hW6]
          rw [hvf]
          have := own_lit wr w.heap.size 3 .i64 [] hsz (by simp)
          exact own_alloc this _
        · rw [hvf]; intro e; have : wr.heap.size = gc := Option.some.inj e; omega
        · intro e; cases e
        · rw [hgf]; omega
      rw [← hvf, ← hW6, ← hgf] 
      clear hvf hW6 hgf X4 p1
      obtain ⟨C, hC⟩ : ∃ C : List Int, C = ordCnt l (List.replicate m 0) := ⟨_, rfl⟩
      rw [← hC] at X6
      have HCC := Aside0.mk hC
      clear hC
      go_wp2
      go_loopw [43] (fun v43 w' => ∃ (i : Nat) (vf : Value), i ≤ m ∧ v43 = .int .i64 (i : Int) ∧ Aside0 (OSt w w' gb gc gf m m A ca l C vf (ordFree i C) (.slice none 0 0) [])) (fun v43 _ => m - (intOf v43).toNat)
      case atStart => exact ⟨0, vf, Nat.zero_le _, rfl, X6⟩
      case round =>
        clear X6
        obtain ⟨i, vg, hi, rfl, X7⟩ := hrel
        rcases Nat.lt_or_ge i m with hlt | hge
        · have p1 : ((i : Int) < (m : Int)) = True := eq_true (by omega)
          obtain ⟨hd, hf⟩ := X7.out.st.at_ i (by omega) (by omega)
          rw [Int.toNat_natCast] at hd hf
          have E1 : Aside0 (wrap64 ((i : Int) + 1) = ((i + 1 : Nat) : Int)) := ⟨by have := HM.out; unfold wrap64; omega⟩
          have hsz := X7.out.st.bel.size
          have HSZ := Aside0.mk hsz
          have HFL : Aside0 ((ordFree i C).length ≤ 90000) := ⟨by have := ordFree_len i C; have := HM.out; omega⟩
          clear hsz
          by_cases hz : rd C i = 0
          · have hz1 : (rd C (i : Int) == 0) = true := beq_iff_eq.2 hz
            have HF : Aside0 (ordFree (i + 1) C = ins i (ordFree i C)) := ⟨by rw [ordFree, if_pos hz]⟩
            clear hz
            obtain ⟨L, hL1, hL2⟩ := X7.out.hp
            have HL1 := Aside0.mk hL1
            have HL2 := Aside0.mk hL2
            clear hL1 hL2
            go_wp2_with (go_at_call 31; refine (heap_push_F _ _ _ vg L (ordFree i C) i X7.out.fr HL1.out HL2.out HSZ.out HFL.out).mono ?_; rintro e w8 ⟨rfl, ⟨v8, L8, h1, h2, h3, h4⟩, hk⟩; have X8 : Aside0 (OSt w w8 gb gc gf m m A ca l C v8 (ordFree (i + 1) C) (.slice none 0 0) []) := ⟨by rw [HF.out]; exact X7.out.heap hk h1 ⟨L8, h2, h3⟩ h4⟩; clear h1 h2 h3 h4 hk)
            rw [E1.out]
            refine ⟨⟨i + 1, v8, hlt, rfl, X8⟩, ?_⟩
            show m - ((i + 1 : Nat) : Int).toNat < m - (i : Int).toNat
            omega
          · have hz1 : (rd C (i : Int) == 0) = false := beq_eq_false_iff_ne.2 hz
            have HF : Aside0 (ordFree (i + 1) C = ordFree i C) := ⟨by rw [ordFree, if_neg hz]⟩
            clear hz
            go_wp2
            rw [E1.out]
            refine ⟨⟨i + 1, vg, hlt, rfl, ⟨by rw [HF.out]; exact X7.out⟩⟩, ?_⟩
            show m - ((i + 1 : Nat) : Int).toNat < m - (i : Int).toNat
            omega
        · have him : i = m := by omega
          subst him
          have p1 : ((i : Int) < (i : Int)) = False := eq_false (by omega)
          clear hge hi
          have hx := HX.out
          rw [Int.toNat_natCast, ← HCC.out] at hx
          cases hgo : ordGo 100 l C (ordFree i C) [] with
          | none => rw [hgo] at hx; cases hx
          | some res =>
          rw [hgo] at hx
          simp only [Option.bind_some] at hx
          have HX2 := Aside0.mk hx
          have HGO := Aside0.mk hgo
          clear hx hgo HX
          go_wp2
          go_loopg [11] 100 (fun kq v11 w' => ∃ (c F : List Int) (vf : Value) (out : List Int), Aside0 (ordGo kq l c F out = some res) ∧ Aside0 (OSt w w' gb gc gf i i A ca l c vf F v11 out))
          case atStart => exact ⟨C, _, vg, [], HGO, X7⟩
          case round =>
            clear X7 HGO
            obtain ⟨c, F, vh, out, HA, X8⟩ := hrel
            cases gk with
            | zero => exact absurd HA.out (by simp [ordGo])
            | succ k1 =>
              obtain ⟨L, hL1, hL2⟩ := X8.out.hp
              have hcf := X8.out.fr.cell
              have hlf := hL2.length
              have HL1 := Aside0.mk hL1
              have HL2 := Aside0.mk hL2
              clear hL1 hL2
              obtain ⟨Ao, co, hvo⟩ := own_slice X8.out.ou
              subst hvo
              cases F with
              | nil =>
                have hl0 : L = [] := List.length_eq_zero_iff.1 hlf
                subst hl0
                clear hlf
                have hres : out = res := by have := HA.out; simpa [ordGo] using this
                subst hres
                have hc0 := X8.out.st.cell0
                by_cases hlm : (out.length : Int) < (i : Int)
                · have p2 : ((out.length : Int) < (i : Int)) = True := eq_true hlm
                  have hx := HX2.out
                  rw [if_pos hlm] at hx
                  have hx2 := Option.some.inj hx
                  have HE1 : Aside0 (r1 = []) := ⟨(congrArg Prod.fst hx2).symm⟩
                  have HE2 : Aside0 (r2 = 15) := ⟨(congrArg Prod.snd hx2).symm⟩
                  clear hx hx2 hlm
                  go_wp2_with (go_at_call 32; refine (hlen _ _ vh [] HL1.out).mono ?_; rintro e w9 ⟨rfl, rfl⟩)
                  go_ret2
                  rw [HE1.out, HE2.out]
                  exact ⟨_, rfl, Kd.R_nil _ _ _ _ _, X8.out.st.bel⟩
                · have p2 : ((out.length : Int) < (i : Int)) = False := eq_false hlm
                  have hx := HX2.out
                  rw [if_neg hlm] at hx
                  have hx2 := Option.some.inj hx
                  have HE1 : Aside0 (r1 = out) := ⟨(congrArg Prod.fst hx2).symm⟩
                  have HE2 : Aside0 (r2 = 0) := ⟨(congrArg Prod.snd hx2).symm⟩
                  clear hx hx2 hlm
                  go_wp2_with (go_at_call 32; refine (hlen _ _ vh [] HL1.out).mono ?_; rintro e w9 ⟨rfl, rfl⟩)
                  go_ret2
                  rw [HE1.out, HE2.out]
                  exact ⟨_, rfl, X8.out.ou.toR, X8.out.st.bel⟩
              | cons x F' =>
                have hA := HA.out
                simp only [ordGo] at hA
                by_cases hb1 : (x :: F').length ≤ 80000
                case neg => rw [if_neg hb1] at hA; cases hA
                by_cases hb2 : out.length ≤ 80000
                case neg => rw [if_pos hb1, if_neg hb2] at hA; cases hA
                rw [if_pos hb1, if_pos hb2] at hA
                have HA2 := Aside0.mk hA
                clear HA hA
                have HB1 : Aside0 (F'.length ≤ 80000) := ⟨by simp at hb1; omega⟩
                have HB2 := Aside0.mk hb2
                clear hb1 hb2
                have p2 : (0 < (L.length : Int)) = True := eq_true (by rw [hlf]; simp)
                have p3 : 0 < L.length := by rw [hlf]; simp
                clear hlf
                have HSZ := Aside0.mk X8.out.st.bel.size
                have hta := ta_int x
                go_wp2_with (first | (go_at_call 32; clear p1; refine (hlen _ _ vh L HL1.out).mono ?_; rintro e w9 ⟨rfl, rfl⟩) | (go_at_call 33; refine (heap_pop_F _ _ _ vh L F' x X8.out.fr HL1.out HL2.out HB1.out HSZ.out).mono ?_; rintro e w9 ⟨rfl, ⟨v9, L9, h1, h2, h3, h4⟩, hk⟩; have X9 : Aside0 (OSt w w9 gb gc gf i i A ca l c v9 F' (.slice Ao out.length co) out) := ⟨X8.out.heap hk h1 ⟨L9, h2, h3⟩ (.inl h4)⟩; clear h1 h2 h3 h4 hk X8 HL1 HL2 HSZ hcf) | (at_builtin; refine print_append_num (w0 := w) w.heap.size rfl (.tmp 70) (.tmp 72) 29 3 .i64 8 rfl Try.underlying29 info3 (by decide) (.slice Ao out.length co) out x rfl rfl X9.out.ou X9.out.st.bel X9.out.st.bel.size (by have := HB2.out; omega) ?_; intro v10 w10 ho hbel hg hat; have X10 : Aside0 (OSt w w10 gb gc gf i i A ca l c v9 F' v10 (out ++ [x])) := ⟨X9.out.app hg ho hat⟩; clear ho hbel hg hat X9 hta; have hc1 := X10.out.st.cell1))
                try clear p2
                try clear p3
                try clear hc1
                have HCL := Aside0.mk X10.out.st.cl
                go_loopw [77] (fun v77 w' => ∃ (j : Nat) (vf : Value), j ≤ l.length ∧ v77 = .int .i64 (j : Int) ∧ Aside0 (OSt w w' gb gc gf i i A ca l (ordRelax x (l.take j) (c, F')).1 vf (ordRelax x (l.take j) (c, F')).2 v10 (out ++ [x]))) (fun v77 _ => l.length - (intOf v77).toNat)
                case atStart => exact ⟨0, v9, Nat.zero_le _, rfl, X10⟩
                case round =>
                  clear X10
                  obtain ⟨j, vk, hj, rfl, X11⟩ := hrel
                  rcases Nat.lt_or_ge j l.length with hlt | hge
                  · have E1 : Aside0 (wrap64 ((j : Int) + 1) = ((j + 1 : Nat) : Int)) := ⟨by have := HL.out; unfold wrap64; omega⟩
                    obtain ⟨ad, rfl, ha0, ha1⟩ := at_T46 (Kd.C_below HR.out X11.out.st.bel) j (by omega) (by omega)
                    rw [Int.toNat_natCast] at ha0 ha1
                    have p1 : ((j : Int) < (l.length : Int)) = True := eq_true (by omega)
                    have hoa := HO.out _ (rd_mem l j hlt)
                    have hrs := ordRelax_step x l (c, F') j hlt
                    have hrl := (ordRelax_lens x (l.take j) (c, F'))
                    obtain ⟨y, hy⟩ : ∃ y : Int, y = (rd_T46 l j).f1 := ⟨_, rfl⟩
                    obtain ⟨y0, hy0⟩ : ∃ y : Int, y = (rd_T46 l j).f0 := ⟨_, rfl⟩
                    obtain ⟨S, hS⟩ : ∃ S : List Int × List Int, S = ordRelax x (l.take j) (c, F') := ⟨_, rfl⟩
                    rw [← hy, ← hy0, ← hS] at hrs
                    rw [← hS] at X11 hrl
                    rw [← hy] at hoa ha1
                    rw [← hy0] at ha0
                    obtain ⟨S1, S2⟩ := S
                    simp only at hrs X11 hrl
                    have HRS := Aside0.mk hrs
                    have hrl3 : (l.take j).length ≤ l.length := by simp; omega
                    have HRL : Aside0 (S2.length ≤ 90000) := ⟨by have h1 := hrl.2; have h2 := HB1.out; have h3 := HL.out; have h4 := hrl3; omega⟩
                    clear hrl3
                    clear hrs hrl hy hy0 hS
                    obtain ⟨q1, q2, q3, q4⟩ := hoa
                    clear q1 q2
                    go_upto_region 25 with (fail)
                    obtain ⟨ga, hga⟩ : ∃ g : Nat, g = wr.heap.size := ⟨_, rfl⟩
                    obtain ⟨W12, hW12⟩ : ∃ W : World, W = wr.alloc (.cells #[.int .i64 y0, .int .i64 y] 46) := ⟨_, rfl⟩
                    have X12 : Aside0 (OSt w W12 gb gc gf i i (some ad) ca l S1 vk S2 v10 (out ++ [x])) := ⟨by rw [hW12]; exact X11.out.below (below_alloc (Below.refl _ _) _)⟩
                    have A12 : Aside0 (W12.heap[ga]? = some (.cells #[.int .i64 y0, .int .i64 y] 46 (0, 0))) := ⟨by rw [hW12, hga]; exact blk_new _ _⟩
                    rw [← hga, ← hW12]
                    clear hga hW12 ha0 ha1 X11
                    have ha0 : W12.cell? ⟨ga, 0, none⟩ = some (.int .i64 y0) := (blk_cell A12.out 0).trans rfl
                    by_cases hx : y0 = x
                    · have hx1 : (y0 != x) = false := bne_eq_false_iff_eq.2 hx
                      have HRS2 : Aside0 (ordRelax x (l.take (j + 1)) (c, F') = (S1.set y.toNat (wrap64 (rd S1 y - 1)), if wrap64 (rd S1 y - 1) = 0 then ins y S2 else S2)) := ⟨by rw [HRS.out, if_pos hx]⟩
                      clear hx HRS
                      have ha1 : W12.cell? ⟨ga, 1, none⟩ = some (.int .i64 y) := (blk_cell A12.out 1).trans rfl
                      obtain ⟨hd, hf⟩ := X12.out.st.at_ y q3 q4
                      have Q3 := Aside0.mk q3
                      have Q4 := Aside0.mk q4
                      replace q3 : (0 ≤ y) = True := eq_true q3
                      replace q4 : (y < (i : Int)) = True := eq_true q4
                      go_upto_region 27 with (fail)
                      obtain ⟨z, hz⟩ : ∃ z : Int, z = wrap64 (rd S1 y - 1) := ⟨_, rfl⟩
                      obtain ⟨W13, hW13⟩ : ∃ W : World, W = W12.setCell ⟨gc, y.toNat, none⟩ (.int .i64 z) := ⟨_, rfl⟩
                      have X13 : Aside0 (OSt w W13 gb gc gf i i (some ad) ca l (S1.set y.toNat z) vk S2 v10 (out ++ [x])) := ⟨by rw [hW13]; exact X12.out.store y z⟩
                      have A13 : Aside0 (W13.heap[ga]? = some (.cells #[.int .i64 y0, .int .i64 y] 46 (0, 0))) := ⟨by rw [hW13]; exact blk_far A12.out (fun e => own_ne X12.out.st.com A12.out (by decide) (by rw [e]; rfl)) _⟩
                      rw [← hz, ← hW13]
                      rw [← hz] at HRS2
                      clear hz hW13 ha0 ha1 hd hf X12 A12
                      have ha1 : W13.cell? ⟨ga, 1, none⟩ = some (.int .i64 y) := (blk_cell A13.out 1).trans rfl
                      obtain ⟨hd, hf⟩ := X13.out.st.at_ y Q3.out Q4.out
                      have hrz : rd (S1.set y.toNat z) y = z := by
                        have h1 := X13.out.st.cl
                        rw [List.length_set] at h1
                        have h2 := Q3.out
                        have h3 := Q4.out
                        unfold rd
                        rw [List.getD_eq_getElem?_getD, List.getElem?_set_self (by omega)]
                        rfl
                      rw [hrz] at hd
                      clear hrz
                      by_cases hz : z = 0
                      · have hz1 : (z == 0) = true := beq_iff_eq.2 hz
                        have HRS3 : Aside0 (ordRelax x (l.take (j + 1)) (c, F') = (S1.set y.toNat z, ins y S2)) := ⟨by rw [HRS2.out, if_pos hz]⟩
                        clear hz HRS2
                        obtain ⟨L, hL1, hL2⟩ := X13.out.hp
                        have HL1 := Aside0.mk hL1
                        have HL2 := Aside0.mk hL2
                        have HSZ := Aside0.mk X13.out.st.bel.size
                        clear hL1 hL2
                        go_wp2_with (go_at_call 31; refine (heap_push_F _ _ _ vk L S2 y X13.out.fr HL1.out HL2.out HSZ.out HRL.out).mono ?_; rintro e w14 ⟨rfl, ⟨v14, L14, h1, h2, h3, h4⟩, hk⟩; have X14 : Aside0 (OSt w w14 gb gc gf i i (some ad) ca l (S1.set y.toNat z) v14 (ins y S2) v10 (out ++ [x])) := ⟨X13.out.heap hk h1 ⟨L14, h2, h3⟩ h4⟩; clear h1 h2 h3 h4 hk)
                        rw [E1.out]
                        refine ⟨⟨j + 1, v14, hlt, rfl, ⟨by rw [HRS3.out]; exact X14.out⟩⟩, ?_⟩
                        show l.length - ((j + 1 : Nat) : Int).toNat < l.length - (j : Int).toNat
                        omega
                      · have hz1 : (z == 0) = false := beq_eq_false_iff_ne.2 hz
                        have HRS3 : Aside0 (ordRelax x (l.take (j + 1)) (c, F') = (S1.set y.toNat z, S2)) := ⟨by rw [HRS2.out, if_neg hz]⟩
                        clear hz HRS2
                        go_wp2
                        rw [E1.out]
                        refine ⟨⟨j + 1, vk, hlt, rfl, ⟨by rw [HRS3.out]; exact X13.out⟩⟩, ?_⟩
                        show l.length - ((j + 1 : Nat) : Int).toNat < l.length - (j : Int).toNat
                        omega
                    · have hx1 : (y0 != x) = true := bne_iff_ne.2 hx
                      have HRS2 : Aside0 (ordRelax x (l.take (j + 1)) (c, F') = (S1, S2)) := ⟨by rw [HRS.out, if_neg hx]⟩
                      clear hx HRS
                      go_wp2
                      rw [E1.out]
                      refine ⟨⟨j + 1, vk, hlt, rfl, ⟨by rw [HRS2.out]; exact X12.out⟩⟩, ?_⟩
                      show l.length - ((j + 1 : Nat) : Int).toNat < l.length - (j : Int).toNat
                      omega
                  · have hjl : j = l.length := by omega
                    subst hjl
                    have p1 : ((l.length : Int) < (l.length : Int)) = False := eq_false (by omega)
                    rw [List.take_length] at X11
                    clear hge hj
                    go_wp2
                    go_roundg k1
                    case measure => omega
                    case rel => exact ⟨_, _, vk, _, HA2, X11⟩
set_option maxHeartbeats 8000000 in
set_option maxRecDepth 100000 in
theorem order_no (n : Int) (l : List S46) (A : Option Addr) (ca : Nat) (w : World) (hr : Kd.C k46 w A l.length l) (hc : l.length ≤ ca) (hchk : ChkC n l) (hz : gchk n l ≠ 0) :
    Calls Try.prog 15 #[.agg #[.int .i64 n, .slice A l.length ca]] w fun e w' => ∃ v0_ : Value, e = .returned (.tuple #[v0_, .int .i64 (gchk n l)]) ∧ Kd.R (Kd.int .i64) 3 w' w.heap.size (fun _ => True) v0_ [] ∧ Below w.heap.size w w' := by
  have HR := Aside0.mk hr
  have HC := Aside0.mk hc
  have HK := Aside0.mk hchk
  have hz1 : (gchk n l != 0) = true := bne_iff_ne.2 hz
  clear hr hc hchk hz
  have B1 := Aside0.mk (below_alloc (Below.refl w.heap.size w) (.cells #[.int .i64 n, .slice A l.length ca] 24))
  have X1 := Aside0.mk (blk_new w (.cells #[.int .i64 n, .slice A l.length ca] 24))
  go_enter Try.func15, Try.ntmps15
  go_wp2_with (go_at_call 11; refine (HK.out _ _ _ (Kd.C_below HR.out B1.out) HC.out).mono ?_; rintro e w1 ⟨rfl, hb⟩; have B2 := Aside0.mk (below_step B1.out hb); clear hb)
  go_ret2
  exact ⟨_, rfl, Kd.R_nil _ _ _ _ _, B2.out⟩
theorem order_calls (n : Int) (l : List S46) (A : Option Addr) (ca : Nat) (r1 : List Int) (r2 : Int) (w : World) (hr : Kd.C k46 w A l.length l) (hc : l.length ≤ ca) (hchk : ChkC n l) (h : graph_order n l = some (r1, r2)) :
    Calls Try.prog 15 #[.agg #[.int .i64 n, .slice A l.length ca]] w fun e w' => ∃ v0_ : Value, e = .returned (.tuple #[v0_, .int .i64 r2]) ∧ Kd.R (Kd.int .i64) 3 w' w.heap.size (fun _ => True) v0_ r1 ∧ Below w.heap.size w w' := by
  by_cases hz : gchk n l = 0
  · obtain ⟨m, rfl⟩ := Int.eq_ofNat_of_zero_le (gchk_ok hz).1
    exact order_yes m l A ca r1 r2 w hr hc hchk hz h
  · unfold graph_order at h
    rw [if_neg hz] at h
    obtain ⟨rfl, rfl⟩ := Prod.mk.inj (Option.some.inj h)
    exact order_no n l A ca w hr hc hchk hz
end Go.Proofs.Ytlbkbodadkhogaa.X
end
