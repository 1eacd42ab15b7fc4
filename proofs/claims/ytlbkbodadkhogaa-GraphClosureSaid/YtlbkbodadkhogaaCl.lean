/- Texts of this claim in one: CloA, CloW, CloC, CloM, CloD. -/
import Derived.Test.YtlbkbodadkhogaaX0
import Derived.Test.YtlbkbodadkhogaaKeeps
import Derived.Handy
import Derived.Sort.Grow
import Derived.Test.YtlbkbodadkhogaaOr
/- graph.Close: rows of arcs of the call's own; what its closure keeps. Lemmas. -/
section
namespace Go.Proofs.Ytlbkbodadkhogaa.X
open Go.RowKit Go.Proofs.YtlbkbodadkhogaaW.PrintWords Go.Proofs.YtlbkbodadkhogaaW.PrintLast Go.Proofs.YtlbkbodadkhogaaW.PrintMore
set_option linter.unusedVariables false
/-- Arcs in a row of the call's own. -/
def OwnA (w : World) (base : Nat) (v : Value) (L : List S46) : Prop := Kd.R k46 46 w base (fun _ => True) v L
section
variable {w w1 W : World} {base : Nat} {v v1 : Value} {L : List S46}
theorem r46_any {ok ok' : Nat → Prop} (h : Kd.R k46 46 w base ok v L) (hok : ∀ k, v.ownBlock = some k → ok' k) : Kd.R k46 46 w base ok' v L :=
  ⟨hok, h.2.imp_ (fun _ _ hp => by obtain rfl := k46_openM hp; exact k46_mkM _ _ _ _)⟩
theorem OwnA.move (h : OwnA w base v L) (hm : ∀ k, v.ownBlock = some k → w1.heap[k]? = w.heap[k]?) : OwnA w1 base v L :=
  r46_any (Kd.R_move (r46_any (ok' := fun k => v.ownBlock = some k) h (fun _ hk => hk)) hm) (fun _ _ => trivial)
theorem OwnA.below (h : OwnA w base v L) (hb : Below w.heap.size w w1) : OwnA w1 base v L := Kd.R_below h hb
theorem OwnA.lt (h : OwnA w base v L) : ∀ k, v.ownBlock = some k → k < w.heap.size := Kd.R_lt h
theorem OwnA.base_ (h : OwnA w base v L) : ∀ k, v.ownBlock = some k → base ≤ k := Kd.R_base h
theorem OwnA.ne (h : OwnA w base v L) {g t : Nat} {cells : Array Value} (hb : w.heap[g]? = some (.cells cells t (0, 0))) (ht : 46 ≠ t) : some g ≠ v.ownBlock := Kd.R_ne h hb ht
theorem OwnA.set (h : OwnA w base v L) {p : Addr} (hne : some p.block ≠ v.ownBlock) (u : Value) : OwnA (w.setCell p u) base v L :=
  h.move (fun k hk => Below.heap_setCell w p u k (fun e => hne (by rw [← e, hk])))
theorem OwnA.slice (h : OwnA w base v L) : ∃ A c, v = .slice A L.length c ∧ L.length ≤ c ∧ Kd.C k46 w A L.length L := by
  obtain ⟨A, c, rfl, h1, h2⟩ := Kd.R_reads h
  exact ⟨A, c, rfl, h1, h2⟩
theorem OwnA.keeps {S : Nat → Prop} (h : OwnA w base v L) (hk : Keeps w w1 S) (hs : ∀ k, v.ownBlock = some k → ¬ S k) : OwnA w1 base v L := h.move (fun k e => hk.block k (h.lt k e) (hs k e))
end
/-- Between two steps of the closure: the graph's box, the variable that holds the arcs found, the distances. -/
structure CSt (w W : World) (gb ga base : Nat) (n : Int) (A : Option Addr) (ca : Nat) (l : List S46) (va0 va : Value) (L : List S46) (vd : Value) (far : List Int) : Prop where
  box : W.heap[gb]? = some (.cells #[.int .i64 n, .slice A l.length ca] 24 (0, 0))
  fr : One W ga 22 va
  row : OwnA W base va L
  dist : W.ownsRow w.heap.size 3 1 vd far.length (nums .i64 far)
  keep : Keeps w W (fun k => k = ga ∨ some k = va0.ownBlock)
  at_ : va.ownBlock = va0.ownBlock ∨ ∃ b, va.ownBlock = some b ∧ w.heap.size ≤ b
  lt : base ≤ W.heap.size
section
variable {w W W2 : World} {gb ga base : Nat} {n : Int} {A : Option Addr} {ca : Nat} {l : List S46} {va0 va : Value} {L : List S46} {vd : Value} {far : List Int}
theorem CSt.below (h : CSt w W gb ga base n A ca l va0 va L vd far) (hb : Below W.heap.size W W2) : CSt w W2 gb ga base n A ca l va0 va L vd far :=
  ⟨blk_below h.box hb, h.fr.below hb, h.row.below hb, pw_own_below h.dist hb, h.keep.below hb, h.at_, Nat.le_trans h.lt hb.size⟩
/-- An arc more, and the variable told of it. -/
theorem CSt.add (h : CSt w W gb ga base n A ca l va0 va L vd far) {v1 : Value} {L2 : List S46} (hg : W.grownBy W2 va.ownBlock) (h1 : OwnA W2 base v1 L2) (h3 : v1.ownBlock = va.ownBlock ∨ ∃ b, v1.ownBlock = some b ∧ W.heap.size ≤ b) :
    CSt w (W2.setCell ⟨ga, 0, none⟩ v1) gb ga base n A ca l va0 v1 L2 vd far := by
  have hfr : One W2 ga 22 va := h.fr.grown hg (h.row.ne h.fr (by decide))
  have hb2 := blk_grown h.box hg (h.row.ne h.box (by decide))
  have hd2 : W2.ownsRow w.heap.size 3 1 vd far.length (nums .i64 far) := by
    refine own_move h.dist (fun k e => hg.block k (own_lt h.dist k e) (fun q => ?_))
    obtain ⟨_, h0, h1, h2⟩ := h.row
    obtain ⟨c1, hc1⟩ := own_typed h.dist k e
    exact h.row.ne hc1 (by decide) q
  refine ⟨blk_far hb2 (fun e => ?_) _, hfr.set v1, h1.set (fun q => ?_) _, own_setCell (p := ⟨ga, 0, none⟩) hd2 (own_ne (g := ga) hd2 hfr (by decide)) _, ?_, ?_, ?_⟩
  · exact blk_ne hb2 hfr (by decide) e
  · exact h1.ne hfr (by decide) q
  · refine (h.keep.grown hg (fun k e => ?_)).setCell (.inl (.inl rfl)) _
    rcases h.at_ with q | ⟨b, q, hb⟩
    · exact .inl (.inr (by rw [← q, e]))
    · rw [q] at e; cases e; exact .inr hb
  · rcases h3 with q | ⟨b, q, hb⟩
    · rw [q]; exact h.at_
    · exact .inr ⟨b, q, Nat.le_trans h.keep.size hb⟩
  · have := hg.size
    have := h.lt
    have e : (W2.setCell ⟨ga, 0, none⟩ v1).heap.size = W2.heap.size := by simp [World.setCell]
    rw [e]
    omega
end
end Go.Proofs.Ytlbkbodadkhogaa.X
end

/- graph.Close: the walk of its closures. -/
section
namespace Go.Proofs.Ytlbkbodadkhogaa.X
open Go.RowKit Go.Proofs.YtlbkbodadkhogaaW.PrintWords Go.Proofs.YtlbkbodadkhogaaW.PrintLast Go.Proofs.YtlbkbodadkhogaaW.PrintMore
set_option linter.unusedVariables false
set_option linter.unusedSimpArgs false
/-- The arcs from x to the first i nodes that are reached. -/
def hitsN (x : Int) (far : List Int) : Nat → List S46
  | 0 => []
  | i + 1 => hitsN x far i ++ (if 0 ≤ rd far i then [⟨x, i⟩] else [])
theorem hitsN_len (x : Int) (far : List Int) : ∀ i, (hitsN x far i).length ≤ i := by
  intro i
  induction i with
  | zero => simp [hitsN]
  | succ i ih => unfold hitsN; rw [List.length_append]; split <;> simp <;> omega
def WavC (n : Int) (l : List S46) (y : Int) (far : List Int) : Prop := ∀ (w : World) (A : Option Addr) (ca : Nat), Kd.C k46 w A l.length l → l.length ≤ ca →
  Calls Try.prog 34 #[.agg #[.int .i64 n, .slice A l.length ca], .int .i64 y, .bool false] w fun e w' => ∃ v0_ : Value, e = .returned (v0_) ∧ Kd.R (Kd.int .i64) 3 w' w.heap.size (fun _ => True) v0_ far ∧ Below w.heap.size w w'
set_option maxHeartbeats 8000000 in
set_option maxRecDepth 100000 in
theorem clo1 (w : World) (gb ga base : Nat) (n : Int) (A : Option Addr) (ca : Nat) (l : List S46) (va : Value) (L : List S46) (x y : Int) (far : List Int) (hr : Kd.C k46 w A l.length l) (hc : l.length ≤ ca) (hw : WavC n l y far)
    (hbox : w.heap[gb]? = some (.cells #[.int .i64 n, .slice A l.length ca] 24 (0, 0))) (hfr : One w ga 22 va) (hrow : OwnA w base va L) (hb : base ≤ w.heap.size) (hl : L.length + far.length ≤ 100000) :
    Calls Try.prog 37 #[.int .i64 x, .int .i64 y, .pointer (some ⟨gb, 0, none⟩), .pointer (some ⟨ga, 0, none⟩)] w fun e w' => e = .returned (.tuple #[]) ∧ (∃ va', One w' ga 22 va' ∧ OwnA w' base va' (L ++ hitsN x far far.length) ∧ (va'.ownBlock = va.ownBlock ∨ ∃ b, va'.ownBlock = some b ∧ w.heap.size ≤ b)) ∧ Keeps w w' (fun k => k = ga ∨ some k = va.ownBlock) := by
  have HW := Aside0.mk hw
  have HR := Aside0.mk hr
  have HC := Aside0.mk hc
  have HL := Aside0.mk hl
  have HX := Aside0.mk hbox
  have HF := Aside0.mk hfr
  have HRW := Aside0.mk hrow
  have HBS := Aside0.mk hb
  have hc0 : w.cell? ⟨gb, 0, none⟩ = some (.int .i64 n) := (blk_cell hbox 0).trans rfl
  have hc1 : w.cell? ⟨gb, 1, none⟩ = some (.slice A l.length ca) := (blk_cell hbox 1).trans rfl
  clear hw hr hc hl hbox hfr hrow hb
  go_enter Try.func37, Try.ntmps37
  go_wp2_with (go_at_call 34; refine (HW.out _ _ _ HR.out HC.out).mono ?_; rintro e w1 ⟨vd, rfl, hd, hbl⟩; have X1 : Aside0 (CSt w w1 gb ga base n A ca l va va L vd far) := ⟨⟨blk_below HX.out hbl, HF.out.below hbl, HRW.out.below hbl, Kd.own_of_R hd, Keeps.of_below hbl _, .inl rfl, Nat.le_trans HBS.out hbl.size⟩⟩; clear hd hbl; obtain ⟨Ad, cd, rfl⟩ := own_slice X1.out.dist)
  go_loopw [12] (fun v12 w' => ∃ (i : Nat) (vb : Value), i ≤ far.length ∧ v12 = .int .i64 (i : Int) ∧ Aside0 (CSt w w' gb ga base n A ca l va vb (L ++ hitsN x far i) (.slice Ad far.length cd) far)) (fun v12 _ => far.length - (intOf v12).toNat)
  case atStart => exact ⟨0, va, Nat.zero_le _, rfl, by rw [hitsN, List.append_nil]; exact X1⟩
  case round =>
    clear X1 hc0 hc1
    obtain ⟨i, vb, hi, rfl, X2⟩ := hrel
    rcases Nat.lt_or_ge i far.length with hlt | hge
    · have E1 : Aside0 (wrap64 ((i : Int) + 1) = ((i + 1 : Nat) : Int)) := ⟨by have := HL.out; unfold wrap64; omega⟩
      have p1 : ((i : Int) < (far.length : Int)) = True := eq_true (by omega)
      obtain ⟨b, cap, hbf, hbs⟩ := World.ownsRow.form X2.out.dist (by omega)
      injection hbf with e1 e2 e3
      subst e1 e3
      obtain ⟨hd, hf⟩ := own_at X2.out.dist i (by omega) (by omega)
      rw [Int.toNat_natCast] at hd hf
      clear hbs hf
      have hga := X2.out.fr.cell
      have hgf := X2.out.fr.frozen
      by_cases c : 0 ≤ rd far i
      · have c1 : decide (0 ≤ rd far (i : Int)) = true := decide_eq_true c
        have HE : Aside0 (hitsN x far (i + 1) = hitsN x far i ++ [⟨x, i⟩]) := ⟨by rw [hitsN, if_pos c]⟩
        have HLL : Aside0 ((L ++ hitsN x far i).length ≤ 100000) := ⟨by rw [List.length_append]; have := hitsN_len x far i; have := HL.out; omega⟩
        clear c
        obtain ⟨M, hM⟩ : ∃ M, M = L ++ hitsN x far i := ⟨_, rfl⟩
        rw [← hM] at X2 HLL
        have HMM := Aside0.mk hM
        clear hM
        obtain ⟨Al, cl, hvb, hcl, hCl⟩ := X2.out.row.slice
        subst hvb
        clear hcl hCl
        go_wp2_with (at_builtin; refine Kd.R_append k46 (w0 := wr) base rfl (.tmp 19) (.tmp 23) 22 46 (.agg #[(.int .i64 0), (.int .i64 0)]) 16 rfl Try.underlying22 info46 rfl (by decide) (by omega) (.slice Al M.length cl) M (⟨x, i⟩ : S46) [.int .i64 x, .int .i64 (i : Int)] (fun _ => True) (fun _ => False) rfl rfl (k46_mkM _ _ _ _) (fun _ hk => hk.elim) (fun _ _ => trivial) X2.out.row (Below.refl _ _) X2.out.lt (by have := HLL.out; omega) ?_; intro v1 w2 ho hbel hg hat; obtain ⟨A1, d1, ev, hx1, hx2⟩ := OwnA.slice ho; subst ev; clear hx1 hx2; have X3 : Aside0 (CSt w (w2.setCell ⟨ga, 0, none⟩ (.slice A1 (M ++ [(⟨x, i⟩ : S46)]).length d1)) gb ga base n A ca l va (.slice A1 (M ++ [(⟨x, i⟩ : S46)]).length d1) (L ++ hitsN x far (i + 1)) (.slice (some ⟨b, 0, none⟩) far.length cd) far) := ⟨by rw [HE.out, ← List.append_assoc, ← HMM.out]; exact X2.out.add hg ho hat⟩; have hga2 := (X2.out.fr.grown hg (X2.out.row.ne X2.out.fr (by decide))).cell; have hgf2 := (X2.out.fr.grown hg (X2.out.row.ne X2.out.fr (by decide))).frozen; clear ho hbel hg hat hga hgf hd)
        rw [E1.out]
        refine ⟨⟨i + 1, .slice A1 (M.length + 1) d1, hlt, rfl, ⟨by have h := X3.out; have e : (M ++ [(⟨x, i⟩ : S46)]).length = M.length + 1 := by simp
                                                                   rw [e] at h; exact h⟩⟩, ?_⟩
        show far.length - ((i + 1 : Nat) : Int).toNat < far.length - (i : Int).toNat
        omega
      · have c1 : decide (0 ≤ rd far (i : Int)) = false := decide_eq_false c
        have HE : Aside0 (hitsN x far (i + 1) = hitsN x far i) := ⟨by rw [hitsN, if_neg c, List.append_nil]⟩
        clear c
        go_wp2
        rw [E1.out]
        refine ⟨⟨i + 1, vb, hlt, rfl, ⟨by rw [HE.out]; exact X2.out⟩⟩, ?_⟩
        show far.length - ((i + 1 : Nat) : Int).toNat < far.length - (i : Int).toNat
        omega
    · have hil : i = far.length := by omega
      subst hil
      have p1 : ((far.length : Int) < (far.length : Int)) = False := eq_false (by omega)
      clear hge hi
      go_wp2
      go_end0
      exact ⟨rfl, ⟨vb, X2.out.fr, X2.out.row, X2.out.at_⟩, X2.out.keep⟩
end Go.Proofs.Ytlbkbodadkhogaa.X
end

/- graph.Close: the walk of its comparison. -/
section
namespace Go.Proofs.Ytlbkbodadkhogaa.X
open Go.RowKit Go.Proofs.YtlbkbodadkhogaaW.PrintWords Go.Proofs.YtlbkbodadkhogaaW.PrintLast Go.Proofs.YtlbkbodadkhogaaW.PrintMore
open Go.Sort
set_option linter.unusedVariables false
set_option linter.unusedSimpArgs false
/-- An arc between nodes. -/
def inA (x : S46) : Prop := 0 ≤ x.f0 ∧ x.f0 < 64 ∧ 0 ≤ x.f1 ∧ x.f1 < 64
def cmpA (x y : S46) : Int := if x.f0 = y.f0 then x.f1 - y.f1 else x.f0 - y.f0
def encA (x : S46) : List Value := [.int .i64 x.f0, .int .i64 x.f1]
set_option maxHeartbeats 2000000 in
theorem clo2 (x y : S46) (hx : inA x) (hy : inA y) (W : World) : Calls Try.prog 39 #[.agg #[.int .i64 x.f0, .int .i64 x.f1], .agg #[.int .i64 y.f0, .int .i64 y.f1]] W fun e w' => e = .returned (.int .i64 (cmpA x y)) ∧ ∃ q os', w' = grow (W.drewN q) os' := by
  obtain ⟨x0, x1⟩ := x
  obtain ⟨y0, y1⟩ := y
  obtain ⟨a1, a2, a3, a4⟩ := hx
  obtain ⟨b1, b2, b3, b4⟩ := hy
  simp only at a1 a2 a3 a4 b1 b2 b3 b4
  have e1 : Aside0 (wrap64 (x0 - y0) = x0 - y0) := ⟨by unfold wrap64; omega⟩
  have e2 : Aside0 (wrap64 (x1 - y1) = x1 - y1) := ⟨by unfold wrap64; omega⟩
  have hmk : grow (grow W #[Obj.cells #[.int .i64 x0, .int .i64 x1] 46]) #[Obj.cells #[.int .i64 y0, .int .i64 y1] 46] = grow (W.drewN 0) (#[Obj.cells #[.int .i64 x0, .int .i64 x1] 46] ++ #[Obj.cells #[.int .i64 y0, .int .i64 y1] 46]) := grow_grow _ _ _
  have HMK := Aside0.mk hmk
  clear hmk a1 a2 a3 a4 b1 b2 b3 b4
  by_cases c : x0 = y0
  · have c1 : (x0 != y0) = false := bne_eq_false_iff_eq.2 c
    have HE : Aside0 (cmpA ⟨x0, x1⟩ ⟨y0, y1⟩ = wrap64 (x1 - y1)) := ⟨by rw [e2.out]; unfold cmpA; rw [if_pos c]⟩
    clear c
    go_enter Try.func39, Try.ntmps39
    go_wp2
    go_ret
    rw [HE.out]
    exact ⟨rfl, 0, _, by rw [alloc_eq_grow, alloc_eq_grow]; exact HMK.out⟩
  · have c1 : (x0 != y0) = true := bne_iff_ne.2 c
    have HE : Aside0 (cmpA ⟨x0, x1⟩ ⟨y0, y1⟩ = wrap64 (x0 - y0)) := ⟨by rw [e1.out]; unfold cmpA; rw [if_neg c]⟩
    clear c
    go_enter Try.func39, Try.ntmps39
    go_wp2
    go_ret
    rw [HE.out]
    exact ⟨rfl, 0, _, by rw [alloc_eq_grow, alloc_eq_grow]; exact HMK.out⟩
end Go.Proofs.Ytlbkbodadkhogaa.X
end

/- graph.Close as a plain function. No memory in sight. -/
section
namespace Go.Proofs.Ytlbkbodadkhogaa.X
open Go.RowKit Go.Proofs.YtlbkbodadkhogaaW.PrintWords Go.Proofs.YtlbkbodadkhogaaW.PrintLast Go.Proofs.YtlbkbodadkhogaaW.PrintMore
set_option linter.unusedVariables false
/-- An arc put into an ordered list. -/
def insA (x : S46) : List S46 → List S46
  | [] => [x]
  | y :: l => if cmpA x y ≤ 0 then x :: y :: l else y :: insA x l
def sortA : List S46 → List S46
  | [] => []
  | x :: l => insA x (sortA l)
/-- All arcs that the closure finds; V: the distances from a node. -/
def cloAll (V : Int → Option (List Int)) : List S46 → List S46 → Option (List S46)
  | [], acc => some acc
  | a :: r, acc => (V a.f1).bind fun far => if acc.length + far.length ≤ 100000 then cloAll V r (acc ++ hitsN a.f0 far far.length) else none
def eqB (x y : S46) : Bool := decide (x.f0 = y.f0) && decide (x.f1 = y.f1)
/-- Is it the one before? -/
def sameA : Option S46 → S46 → Bool
  | none, _ => false
  | some q, a => eqB a q
/-- Each arc once; true: there are too many. -/
def cloOut : List S46 → Option S46 → List S46 → List S46 × Bool
  | [], _, out => (out, false)
  | a :: r, p, out => if sameA p a = true then cloOut r (some a) out else if out.length = 512 then ([], true) else cloOut r (some a) (out ++ [a])
def graph_close (V : Int → Option (List Int)) (n : Int) (l : List S46) : Option (Int × List S46 × Int) :=
  if gchk n l = 0 then (cloAll V l []).bind fun all => if (cloOut (sortA all) none []).2 = true then some (0, [], 3) else some (n, (cloOut (sortA all) none []).1, 0)
  else some (0, [], gchk n l)
theorem insA_perm (x : S46) (l : List S46) : (insA x l).Perm (x :: l) := by
  induction l with
  | nil => exact List.Perm.refl _
  | cons y l ih =>
    unfold insA
    split
    · exact List.Perm.refl _
    · exact (ih.cons y).trans (List.Perm.swap x y l)
theorem sortA_perm (l : List S46) : (sortA l).Perm l := by
  induction l with
  | nil => exact List.Perm.refl _
  | cons x l ih => exact (insA_perm x (sortA l)).trans (ih.cons x)
theorem sortA_len (l : List S46) : (sortA l).length = l.length := (sortA_perm l).length_eq
theorem cmpA_tri {x y z : S46} (h1 : cmpA x y ≤ 0) (h2 : cmpA y z ≤ 0) : cmpA x z ≤ 0 := by
  unfold cmpA at *
  split at h1 <;> split at h2 <;> split <;> omega
theorem cmpA_flip {x y : S46} (h : ¬ cmpA x y ≤ 0) : cmpA y x ≤ 0 := by
  unfold cmpA at *
  split at h <;> split <;> omega
theorem cmpA_anti {x y : S46} (h1 : cmpA x y ≤ 0) (h2 : cmpA y x ≤ 0) : x = y := by
  obtain ⟨x0, x1⟩ := x
  obtain ⟨y0, y1⟩ := y
  unfold cmpA at *
  simp only at h1 h2
  split at h1 <;> split at h2 <;> simp only [S46.mk.injEq] <;> omega
theorem insA_sorted (x : S46) (l : List S46) (h : l.Pairwise (fun a b => cmpA a b ≤ 0)) : (insA x l).Pairwise (fun a b => cmpA a b ≤ 0) := by
  induction l with
  | nil => simp [insA]
  | cons y l ih =>
    unfold insA
    rw [List.pairwise_cons] at h
    split
    · rename_i c
      refine List.pairwise_cons.2 ⟨fun z hz => ?_, List.pairwise_cons.2 h⟩
      rcases List.mem_cons.1 hz with rfl | hz
      · exact c
      · exact cmpA_tri c (h.1 z hz)
    · rename_i c
      refine List.pairwise_cons.2 ⟨fun z hz => ?_, ih h.2⟩
      rcases List.mem_cons.1 ((insA_perm x l).mem_iff.1 hz) with rfl | hz
      · exact cmpA_flip c
      · exact h.1 z hz
theorem sortA_sorted (l : List S46) : (sortA l).Pairwise (fun a b => cmpA a b ≤ 0) := by
  induction l with
  | nil => exact List.Pairwise.nil
  | cons x l ih => exact insA_sorted x _ ih
/-- Two ordered rows of the same arcs are one. -/
theorem sorted_one : ∀ (l m : List S46), l.Pairwise (fun a b => cmpA a b ≤ 0) → m.Pairwise (fun a b => cmpA a b ≤ 0) → l.Perm m → l = m := by
  intro l
  induction l with
  | nil => intro m _ _ h; exact (List.nil_perm.1 h).symm
  | cons x l ih =>
    intro m h1 h2 h
    cases m with
    | nil => exact absurd h.length_eq (by simp)
    | cons y m =>
      rw [List.pairwise_cons] at h1 h2
      have hxy : x = y := by
        have hx : x ∈ y :: m := h.mem_iff.1 (by simp)
        have hy : y ∈ x :: l := h.mem_iff.2 (by simp)
        rcases List.mem_cons.1 hx with e | hx
        · exact e
        · rcases List.mem_cons.1 hy with e | hy
          · exact e.symm
          · exact cmpA_anti (h1.1 y hy) (h2.1 x hx)
      subst hxy
      rw [ih m h1.2 h2.2 h.cons_inv]
theorem cloAll_step (V : Int → Option (List Int)) (l : List S46) (acc : List S46) (i : Nat) (h : i < l.length) (r : List S46) (hr : cloAll V (l.drop i) acc = some r) :
    ∃ far, V (rd_T46 l i).f1 = some far ∧ acc.length + far.length ≤ 100000 ∧ cloAll V (l.drop (i + 1)) (acc ++ hitsN (rd_T46 l i).f0 far far.length) = some r := by
  rw [List.drop_eq_getElem_cons h] at hr
  have : rd_T46 l i = l[i] := by simp [rd_T46, h]
  rw [this]
  unfold cloAll at hr
  cases hv : V l[i].f1 with
  | none => rw [hv] at hr; cases hr
  | some far =>
    rw [hv] at hr
    simp only [Option.bind_some] at hr
    by_cases c : acc.length + far.length ≤ 100000
    · rw [if_pos c] at hr
      exact ⟨far, rfl, c, hr⟩
    · rw [if_neg c] at hr; cases hr
theorem hitsN_in (x : Int) (far : List Int) (hx : 0 ≤ x ∧ x < 64) (hf : far.length ≤ 64) : ∀ i, i ≤ far.length → ∀ a ∈ hitsN x far i, inA a := by
  intro i
  induction i with
  | zero => intro _ a ha; simp [hitsN] at ha
  | succ i ih =>
    intro hi a ha
    unfold hitsN at ha
    rcases List.mem_append.1 ha with h | h
    · exact ih (by omega) a h
    · split at h
      · simp at h; subst h; exact ⟨hx.1, hx.2, by simp only; omega, by simp only; omega⟩
      · simp at h
/-- The arc before the i-th. -/
def prevA (S : List S46) (i : Nat) : Option S46 := if i = 0 then none else some (rd_T46 S ((i - 1 : Nat) : Int))
theorem cloOut_step (S : List S46) (i : Nat) (out : List S46) (h : i < S.length) : cloOut (S.drop i) (prevA S i) out =
    if sameA (prevA S i) (rd_T46 S i) = true then cloOut (S.drop (i + 1)) (prevA S (i + 1)) out else if out.length = 512 then ([], true) else cloOut (S.drop (i + 1)) (prevA S (i + 1)) (out ++ [rd_T46 S i]) := by
  have e : rd_T46 S i = S[i] := by simp [rd_T46, h]
  have e2 : prevA S (i + 1) = some S[i] := by unfold prevA; rw [if_neg (by omega)]; simp [rd_T46, h]
  rw [List.drop_eq_getElem_cons h, e, e2]
  conv => lhs; unfold cloOut
end Go.Proofs.Ytlbkbodadkhogaa.X
end

/- graph.Close: the walk. -/
section
namespace Go.Proofs.Ytlbkbodadkhogaa.X
open Go.RowKit Go.Proofs.YtlbkbodadkhogaaW.PrintWords Go.Proofs.YtlbkbodadkhogaaW.PrintLast Go.Proofs.YtlbkbodadkhogaaW.PrintMore
set_option linter.unusedVariables false
set_option linter.unusedSimpArgs false
def SortC : Prop := ∀ (w : World) (base : Nat) (v : Value) (L : List S46), OwnA w base v L → (∀ x ∈ L, inA x) → L.length ≤ 200000 → Calls Try.prog 38 #[v, .func (.func 39) #[] #[]] w fun e w' => e = .returned (.tuple #[]) ∧ OwnA w' base v (sortA L) ∧ Keeps w w' (fun k => some k = v.ownBlock)
theorem cloAll_in (V : Int → Option (List Int)) (hV : ∀ y far, V y = some far → far.length ≤ 64) (n : Int) (hn : n ≤ 64) : ∀ (l acc r : List S46), (∀ a ∈ l, 0 ≤ a.f0 ∧ a.f0 < n ∧ 0 ≤ a.f1 ∧ a.f1 < n) → (∀ a ∈ acc, inA a) → acc.length ≤ 100000 → cloAll V l acc = some r → (∀ a ∈ r, inA a) ∧ r.length ≤ 100000 := by
  intro l
  induction l with
  | nil => intro acc r _ h hl hr; cases Option.some.inj hr; exact ⟨h, hl⟩
  | cons a l ih =>
    intro acc r hl h hal hr
    obtain ⟨far, h1, h2, h3⟩ := cloAll_step V (a :: l) acc 0 (by simp) r (by simpa using hr)
    have e : rd_T46 (a :: l) ((0 : Nat) : Int) = a := rfl
    rw [e] at h1 h3
    have ha := hl a (by simp)
    refine ih _ r (fun b hb => hl b (by simp [hb])) (fun b hb => ?_) ?_ (by simpa using h3)
    · rcases List.mem_append.1 hb with q | q
      · exact h b q
      · exact hitsN_in a.f0 far ⟨ha.1, by omega⟩ (hV _ _ h1) far.length (Nat.le_refl _) b q
    · rw [List.length_append]; have := hitsN_len a.f0 far far.length; omega
/-- Between two steps of Close. -/
structure DSt (w W : World) (gb gr ga : Nat) (n : Int) (A : Option Addr) (ca : Nat) (l : List S46) (va : Value) (L : List S46) : Prop where
  bel : Below w.heap.size w W
  box : W.heap[gb]? = some (.cells #[.int .i64 n, .slice A l.length ca] 24 (0, 0))
  res : W.heap[gr]? = some (.cells #[.int .i64 0, .slice none 0 0] 24 (0, 0))
  fr : One W ga 22 va
  row : OwnA W w.heap.size va L
  ne : gb ≠ gr
  gbl : w.heap.size ≤ gb
  grl : w.heap.size ≤ gr
  gal : w.heap.size ≤ ga
section
variable {w W W2 : World} {gb gr ga : Nat} {n : Int} {A : Option Addr} {ca : Nat} {l : List S46} {va va2 : Value} {L L2 : List S46}
theorem DSt.below (h : DSt w W gb gr ga n A ca l va L) (hb : Below W.heap.size W W2) : DSt w W2 gb gr ga n A ca l va L :=
  ⟨below_step h.bel hb, blk_below h.box hb, blk_below h.res hb, h.fr.below hb, h.row.below hb, h.ne, h.gbl, h.grl, h.gal⟩
theorem DSt.clo (h : DSt w W gb gr ga n A ca l va L) (hk : Keeps W W2 (fun k => k = ga ∨ some k = va.ownBlock)) (h1 : One W2 ga 22 va2) (h2 : OwnA W2 w.heap.size va2 L2) : DSt w W2 gb gr ga n A ca l va2 L2 := by
  have hb := h.row.base_
  refine ⟨?_, hk.blk h.box ?_, hk.blk h.res ?_, h1, h2, h.ne, h.gbl, h.grl, h.gal⟩
  · refine below_weaken h.bel (Nat.le_refl _) (hk.toBelow (B := w.heap.size) (fun k q => ?_) h.bel.size)
    rcases q with e | e
    · rw [e]; exact h.gal
    · exact hb k e.symm
  · rintro (e | e)
    · exact blk_ne h.box h.fr (by decide) e
    · exact h.row.ne h.box (by decide) e
  · rintro (e | e)
    · exact blk_ne h.res h.fr (by decide) e
    · exact h.row.ne h.res (by decide) e
end
/-- Between two steps of Close, the graph that is handed back in the making. -/
structure ESt (w W : World) (gb gr ga gq : Nat) (n : Int) (A : Option Addr) (ca : Nat) (l : List S46) (va : Value) (L : List S46) (vo : Value) (out : List S46) : Prop where
  st : DSt w W gb gr ga n A ca l va L
  new : W.heap[gq]? = some (.cells #[.int .i64 n, vo] 24 (0, 0))
  ou : OwnA W w.heap.size vo out
  vv : vo.ownBlock = none ∨ va.ownBlock ≠ vo.ownBlock
  nb : gq ≠ gb
  nr : gq ≠ gr
  gql : w.heap.size ≤ gq
section
variable {w W W2 : World} {gb gr ga gq : Nat} {n : Int} {A : Option Addr} {ca : Nat} {l : List S46} {va : Value} {L : List S46} {vo vo2 : Value} {out out2 : List S46}
theorem ESt.below (h : ESt w W gb gr ga gq n A ca l va L vo out) (hb : Below W.heap.size W W2) : ESt w W2 gb gr ga gq n A ca l va L vo out :=
  ⟨h.st.below hb, blk_below h.new hb, h.ou.below hb, h.vv, h.nb, h.nr, h.gql⟩
theorem ESt.app (h : ESt w W gb gr ga gq n A ca l va L vo out) (hg : W.grownBy W2 vo.ownBlock) (h1 : OwnA W2 w.heap.size vo2 out2) (h3 : vo2.ownBlock = vo.ownBlock ∨ ∃ b, vo2.ownBlock = some b ∧ W.heap.size ≤ b) :
    ESt w (W2.setCell ⟨gq, 1, none⟩ vo2) gb gr ga gq n A ca l va L vo2 out2 := by
  have hnew := blk_grown h.new hg (h.ou.ne h.new (by decide))
  have hbox := blk_grown h.st.box hg (h.ou.ne h.st.box (by decide))
  have hres := blk_grown h.st.res hg (h.ou.ne h.st.res (by decide))
  have hfr : One W2 ga 22 va := h.st.fr.grown hg (h.ou.ne h.st.fr (by decide))
  have hrow : OwnA W2 w.heap.size va L := h.st.row.move (fun k e => hg.block k (h.st.row.lt k e) (fun q => by
    rcases h.vv with f | f
    · rw [f] at q; cases q
    · exact f (by rw [← q, e])))
  have hbel : Below w.heap.size w W2 := pw_below_grown h.st.bel _ h.st.bel.size hg (fun k e => h.ou.base_ k e)
  refine ⟨⟨hbel.setCell h.gql _, blk_far hbox (fun e => h.nb e.symm) _, blk_far hres (fun e => h.nr e.symm) _, hfr.far (fun e => ?_) _ _, hrow.set (hrow.ne hnew (by decide)) _, h.st.ne, h.st.gbl, h.st.grl, h.st.gal⟩, blk_put hnew 1 _ rfl, h1.set (h1.ne hnew (by decide)) _, ?_, h.nb, h.nr, h.gql⟩
  · exact blk_ne hnew hfr (by decide) e.symm
  · rcases h3 with q | ⟨b, q, hb⟩
    · rw [q]; exact h.vv
    · refine .inr (fun e => ?_)
      have := h.st.row.lt b (by rw [e, q])
      omega
end
set_option maxHeartbeats 8000000 in
set_option maxRecDepth 100000 in
theorem close_yes (V : Int → Option (List Int)) (n : Int) (l : List S46) (A : Option Addr) (ca : Nat) (r1 : Int) (r2 : List S46) (r3 : Int) (w : World) (hr : Kd.C k46 w A l.length l) (hc : l.length ≤ ca) (hchk : ChkC n l) (hV : ∀ y far, V y = some far → WavC n l y far ∧ far.length ≤ 64) (hS : SortC) (hz : gchk n l = 0) (h : graph_close V n l = some (r1, r2, r3)) :
    Calls Try.prog 25 #[.agg #[.int .i64 n, .slice A l.length ca]] w fun e w' => ∃ v1_ : Value, e = .returned (.tuple #[.agg #[.int .i64 r1, v1_], .int .i64 r3]) ∧ Kd.R k46 46 w' w.heap.size (fun _ => True) v1_ r2 ∧ Below w.heap.size w w' := by
  obtain ⟨hm0, hm1, hl1, hok⟩ := gchk_ok hz
  have HR := Aside0.mk hr
  have HC := Aside0.mk hc
  have HK := Aside0.mk hchk
  have HV := Aside0.mk hV
  have HS := Aside0.mk hS
  have HZ := Aside0.mk hz
  have HO := Aside0.mk hok
  have HL := Aside0.mk hl1
  have HM := Aside0.mk hm1
  unfold graph_close at h
  rw [if_pos hz] at h
  cases hall : cloAll V l [] with
  | none => rw [hall] at h; cases h
  | some all =>
  rw [hall] at h
  simp only [Option.bind_some] at h
  have HX := Aside0.mk h
  have HALL := Aside0.mk hall
  clear h hall hr hc hchk hV hS hz hok hl1 hm0 hm1
  obtain ⟨gb, hgb⟩ : ∃ g : Nat, g = w.heap.size := ⟨_, rfl⟩
  obtain ⟨gr, hgr⟩ : ∃ g : Nat, g = w.heap.size + 1 := ⟨_, rfl⟩
  obtain ⟨W1, hW1⟩ : ∃ W : World, W = (w.alloc (.cells #[.int .i64 n, .slice A l.length ca] 24)).alloc (.cells #[.int .i64 0, .slice none 0 0] 24) := ⟨_, rfl⟩
  have B1 : Aside0 (Below w.heap.size w W1) := ⟨by rw [hW1]; exact below_alloc (below_alloc (Below.refl w.heap.size w) _) _⟩
  have X1 : Aside0 (W1.heap[gb]? = some (.cells #[.int .i64 n, .slice A l.length ca] 24 (0, 0))) := ⟨by rw [hW1, hgb]; exact blk_alloc (blk_new w _) _⟩
  have Y1 : Aside0 (W1.heap[gr]? = some (.cells #[.int .i64 0, .slice none 0 0] 24 (0, 0))) := ⟨by rw [hW1, hgr]; have := blk_new (w.alloc (.cells #[.int .i64 n, .slice A l.length ca] 24)) (.cells #[.int .i64 0, .slice none 0 0] 24); simpa using this⟩
  have HGB := Aside0.mk hgb
  have HGR := Aside0.mk hgr
  have HW1 := Aside0.mk hW1
  clear hgb hgr hW1
  go_enter Try.func25, Try.ntmps25
  go_upto_region 1 with (fail)
  rw [← HW1.out, ← HGR.out, ← HGB.out]
  have hc0 : W1.cell? ⟨gb, 0, none⟩ = some (.int .i64 n) := (blk_cell X1.out 0).trans rfl
  have hc1 : W1.cell? ⟨gb, 1, none⟩ = some (.slice A l.length ca) := (blk_cell X1.out 1).trans rfl
  have hz1 : (gchk n l != 0) = false := by rw [HZ.out]; rfl
  go_upto_region 6 with (go_at_call 11; refine (HK.out _ _ _ (Kd.C_below HR.out B1.out) HC.out).mono ?_; rintro e w2 ⟨rfl, hb⟩; have B2 := Aside0.mk (below_step B1.out hb); have X2 := Aside0.mk (blk_below X1.out hb); have Y2 := Aside0.mk (blk_below Y1.out hb); clear hb hc0 hc1)
  obtain ⟨ga, hga⟩ : ∃ g : Nat, g = w2.heap.size := ⟨_, rfl⟩
  obtain ⟨W3, hW3⟩ : ∃ W : World, W = w2.alloc (.cells #[.slice none 0 0] 22) := ⟨_, rfl⟩
  have X3 : Aside0 (DSt w W3 gb gr ga n A ca l (.slice none 0 0) []) := by
    have hsz := B2.out.size
    refine ⟨⟨?_, ?_, ?_, ?_, Kd.R_nil _ _ _ _ _, ?_, ?_, ?_, ?_⟩⟩
    · rw [hW3]; exact below_alloc B2.out _
    · rw [hW3]; exact blk_alloc X2.out _
    · rw [hW3]; exact blk_alloc Y2.out _
    · rw [hW3, hga]; exact One.new _ _ _
    · rw [HGB.out, HGR.out]; omega
    · rw [HGB.out]; omega
    · rw [HGR.out]; omega
    · rw [hga]; exact hsz
  rw [← hga, ← hW3]
  clear hga hW3 B2 X2 Y2 hz1 B1 X1 Y1 HW1
  have hc1 : W3.cell? ⟨gb, 1, none⟩ = some (.slice A l.length ca) := (blk_cell X3.out.box 1).trans rfl
  go_wp2
  go_loopw [22] (fun v22 w' => ∃ (i : Nat) (va : Value) (L : List S46), i ≤ l.length ∧ v22 = .int .i64 (i : Int) ∧ Aside0 (DSt w w' gb gr ga n A ca l va L) ∧ Aside0 (cloAll V (l.drop i) L = some all)) (fun v22 _ => l.length - (intOf v22).toNat)
  case atStart => exact ⟨0, _, [], Nat.zero_le _, rfl, X3, HALL⟩
  case round =>
    clear X3 hc1
    obtain ⟨i, vb, L, hi, rfl, X4, HCA⟩ := hrel
    rcases Nat.lt_or_ge i l.length with hlt | hge
    · have E1 : Aside0 (wrap64 ((i : Int) + 1) = ((i + 1 : Nat) : Int)) := ⟨by have := HL.out; unfold wrap64; omega⟩
      obtain ⟨far, f1, f2, f3⟩ := cloAll_step V l L i hlt all HCA.out
      obtain ⟨g1, g2⟩ := HV.out _ _ f1
      have HWV := Aside0.mk g1
      have HFL := Aside0.mk f2
      have HCB := Aside0.mk f3
      clear f1 f2 f3 g1 g2 HCA
      obtain ⟨ad, hA, ha0, ha1⟩ := at_T46 (Kd.C_below HR.out X4.out.bel) i (by omega) (by omega)
      subst hA
      rw [Int.toNat_natCast] at ha0 ha1
      have p1 : ((i : Int) < (l.length : Int)) = True := eq_true (by omega)
      obtain ⟨y, hy⟩ : ∃ y : Int, y = (rd_T46 l i).f1 := ⟨_, rfl⟩
      obtain ⟨x, hx⟩ : ∃ y : Int, y = (rd_T46 l i).f0 := ⟨_, rfl⟩
      rw [← hy] at ha1 HWV
      rw [← hx] at ha0 HCB
      clear hy hx
      go_upto_region 9 with (fail)
      obtain ⟨gt, hgt⟩ : ∃ g : Nat, g = wr.heap.size := ⟨_, rfl⟩
      obtain ⟨W5, hW5⟩ : ∃ W : World, W = wr.alloc (.cells #[.int .i64 x, .int .i64 y] 46) := ⟨_, rfl⟩
      have X5 : Aside0 (DSt w W5 gb gr ga n (some ad) ca l vb L) := ⟨by rw [hW5]; exact X4.out.below (below_alloc (Below.refl _ _) _)⟩
      have A5 : Aside0 (W5.heap[gt]? = some (.cells #[.int .i64 x, .int .i64 y] 46 (0, 0))) := ⟨by rw [hW5, hgt]; exact blk_new _ _⟩
      rw [← hgt, ← hW5]
      clear hgt hW5 ha0 ha1 X4
      have ha0 : W5.cell? ⟨gt, 0, none⟩ = some (.int .i64 x) := (blk_cell A5.out 0).trans rfl
      have ha1 : W5.cell? ⟨gt, 1, none⟩ = some (.int .i64 y) := (blk_cell A5.out 1).trans rfl
      go_wp2_with (go_at_call 37; refine (clo1 _ gb ga w.heap.size n (some ad) ca l vb L x y far (Kd.C_below HR.out X5.out.bel) HC.out HWV.out X5.out.box X5.out.fr X5.out.row X5.out.bel.size HFL.out).mono ?_; rintro e w6 ⟨rfl, ⟨v6, h1, h2, h3⟩, hk⟩; have X6 : Aside0 (DSt w w6 gb gr ga n (some ad) ca l v6 (L ++ hitsN x far far.length)) := ⟨X5.out.clo hk h1 h2⟩; clear h1 h2 h3 hk)
      rw [E1.out]
      refine ⟨⟨i + 1, v6, _, hlt, rfl, X6, HCB⟩, ?_⟩
      show l.length - ((i + 1 : Nat) : Int).toNat < l.length - (i : Int).toNat
      omega
    · have hil : i = l.length := by omega
      subst hil
      have p1 : ((l.length : Int) < (l.length : Int)) = False := eq_false (by omega)
      have hLa : L = all := by have h := HCA.out; rw [List.drop_length] at h; exact Option.some.inj h
      subst hLa
      obtain ⟨hin, hlen⟩ := cloAll_in V (fun y far h => (HV.out y far h).2) n HM.out l [] L HO.out (by simp) (by simp) HALL.out
      have HIN := Aside0.mk hin
      have HLEN := Aside0.mk hlen
      clear hge hi hin hlen HCA
      obtain ⟨Al, cl, hvb, q1, q2⟩ := X4.out.row.slice
      subst hvb
      clear q1 q2
      have hgz := X4.out.fr.cell
      go_upto_region 12 with (go_at_call 38; refine (HS.out _ _ _ _ X4.out.row HIN.out (by have := HLEN.out; omega)).mono ?_; rintro e w6 ⟨rfl, h1, hk⟩; have X6 : Aside0 (DSt w w6 gb gr ga n A ca l (.slice Al L.length cl) (sortA L)) := ⟨X4.out.clo (hk.mono (fun k h => .inr h)) (X4.out.fr.keeps hk (X4.out.row.ne X4.out.fr (by decide))) h1⟩; clear h1 hk hgz)
      have hb0 : w6.cell? ⟨gb, 0, none⟩ = some (.int .i64 n) := (blk_cell X6.out.box 0).trans rfl
      go_upto_region 13 with (fail)
      obtain ⟨gq, hgq⟩ : ∃ g : Nat, g = w6.heap.size := ⟨_, rfl⟩
      obtain ⟨W7, hW7⟩ : ∃ W : World, W = w6.alloc (.cells #[.int .i64 n, .slice none 0 0] 24) := ⟨_, rfl⟩
      have X7 : Aside0 (ESt w W7 gb gr ga gq n A ca l (.slice Al L.length cl) (sortA L) (.slice none 0 0) []) := by
        have hx := X6.out.bel.size
        have h1 := blk_lt X6.out.box
        have h2 := blk_lt X6.out.res
        refine ⟨⟨?_, ?_, Kd.R_nil _ _ _ _ _, .inl rfl, ?_, ?_, ?_⟩⟩
        · rw [hW7]; exact X6.out.below (below_alloc (Below.refl _ _) _)
        · rw [hW7, hgq]; exact blk_new _ _
        · rw [hgq]; omega
        · rw [hgq]; omega
        · rw [hgq]; exact hx
      rw [← hgq, ← hW7]
      clear hgq hW7 X6 hb0 X4 p1
      have hga := X7.out.st.fr.cell
      obtain ⟨S, hS⟩ : ∃ S, S = sortA L := ⟨_, rfl⟩
      have hSL : S.length = L.length := by rw [hS, sortA_len]
      rw [← hS] at X7
      have hx := HX.out
      rw [← hS] at hx
      have HX2 := Aside0.mk hx
      have HSL := Aside0.mk hSL
      clear hS hSL hx HX
      go_wp2
      go_loopw [40] (fun v40 w' => ∃ (i : Nat) (vo : Value) (out : List S46), i ≤ S.length ∧ v40 = .int .i64 (i : Int) ∧ Aside0 (ESt w w' gb gr ga gq n A ca l (.slice Al L.length cl) S vo out) ∧ Aside0 (cloOut (S.drop i) (prevA S i) out = cloOut S none []) ∧ Aside0 (out.length ≤ 512)) (fun v40 _ => S.length - (intOf v40).toNat)
      case atStart => exact ⟨0, _, [], Nat.zero_le _, rfl, X7, ⟨rfl⟩, ⟨by simp⟩⟩
      case round =>
        clear X7 hga
        obtain ⟨i, vo, out, hi, rfl, X8, HCO, HOU⟩ := hrel
        rcases Nat.lt_or_ge i S.length with hlt | hge
        · have E1 : Aside0 (wrap64 ((i : Int) + 1) = ((i + 1 : Nat) : Int)) := ⟨by have := HLEN.out; have := HSL.out; unfold wrap64; omega⟩
          obtain ⟨A2, c2, hv2, q1, q2⟩ := X8.out.st.row.slice
          injection hv2 with e1 e2 e3
          subst e1
          clear e2 e3 q1
          obtain ⟨ad, hA, ha0, ha1⟩ := at_T46 q2 i (by omega) (by omega)
          subst hA
          rw [Int.toNat_natCast] at ha0 ha1
          have p1 : ((i : Int) < (L.length : Int)) = True := eq_true (by have := HSL.out; omega)
          obtain ⟨y, hy⟩ : ∃ y : Int, y = (rd_T46 S i).f1 := ⟨_, rfl⟩
          obtain ⟨x, hx⟩ : ∃ y : Int, y = (rd_T46 S i).f0 := ⟨_, rfl⟩
          have hstep := HCO.out.symm.trans (cloOut_step S i out hlt)
          have hxy : rd_T46 S i = ⟨x, y⟩ := by rw [hx, hy]
          rw [hxy] at hstep
          rw [← hy] at ha1
          rw [← hx] at ha0
          have HST := Aside0.mk hstep
          clear hy hx hstep hxy
          go_upto_region 16 with (fail)
          obtain ⟨gt, hgt⟩ : ∃ g : Nat, g = wr.heap.size := ⟨_, rfl⟩
          obtain ⟨W9, hW9⟩ : ∃ W : World, W = wr.alloc (.cells #[.int .i64 x, .int .i64 y] 46) := ⟨_, rfl⟩
          have X9 : Aside0 (ESt w W9 gb gr ga gq n A ca l (.slice (some ad) L.length cl) S vo out) := ⟨by rw [hW9]; exact X8.out.below (below_alloc (Below.refl _ _) _)⟩
          have A9 : Aside0 (W9.heap[gt]? = some (.cells #[.int .i64 x, .int .i64 y] 46 (0, 0))) := ⟨by rw [hW9, hgt]; exact blk_new _ _⟩
          rw [← hgt, ← hW9]
          clear hgt hW9 ha0 ha1 X8 HCO q2
          have ha0 : W9.cell? ⟨gt, 0, none⟩ = some (.int .i64 x) := (blk_cell A9.out 0).trans rfl
          have ha1 : W9.cell? ⟨gt, 1, none⟩ = some (.int .i64 y) := (blk_cell A9.out 1).trans rfl
          by_cases hdup : ∃ j : Nat, i = j + 1 ∧ rd_T46 S j = ⟨x, y⟩
          · obtain ⟨j, hij, hsj⟩ := hdup
            have hst := HST.out
            have hp : prevA S i = some ⟨x, y⟩ := by rw [hij]; unfold prevA; rw [if_neg (by omega)]; exact congrArg some hsj
            rw [hp] at hst
            rw [if_pos (by simp [sameA, eqB])] at hst
            have HCO := Aside0.mk hst.symm
            clear hst hp HST
            obtain ⟨A2, c2, hv2, q1, q2⟩ := X9.out.st.row.slice
            injection hv2 with e1 e2 e3
            subst e1
            clear e2 e3 q1
            obtain ⟨ad2, hA, hb0, hb1⟩ := at_T46 q2 j (by omega) (by omega)
            injection hA with hA
            subst hA
            rw [Int.toNat_natCast] at hb0 hb1
            rw [hsj] at hb0 hb1
            simp only at hb0 hb1
            have hga := X9.out.st.fr.cell
            have e1 : wrap64 ((i : Int) - 1) = (j : Int) := by have := HLEN.out; have := HSL.out; unfold wrap64; omega
            have e2 : IntKind.i64.wrap ((i : Int) - 1) = (j : Int) := by rw [i64_w]; exact e1
            have p2 : ((j : Int) < (L.length : Int)) = True := eq_true (by have := HSL.out; omega)
            have p3 : (0 < (i : Int)) = True := eq_true (by omega)
            have p4 : 0 < i := by omega
            clear hsj q2 hij
            go_quiet (fail)
            go_wp2
            rw [E1.out]
            refine ⟨⟨i + 1, vo, out, hlt, rfl, ⟨X9.out.below (pw_below_drewN (Below.refl _ _) _)⟩, HCO, HOU⟩, ?_⟩
            show S.length - ((i + 1 : Nat) : Int).toNat < S.length - (i : Int).toNat
            omega
          · have hnd : sameA (prevA S i) ⟨x, y⟩ = false := by
              unfold prevA
              by_cases h0 : i = 0
              · rw [if_pos h0]; rfl
              · rw [if_neg h0]
                show eqB _ _ = false
                rw [Bool.eq_false_iff]
                intro hb
                simp only [eqB, Bool.and_eq_true, decide_eq_true_eq] at hb
                refine hdup ⟨i - 1, by omega, ?_⟩
                obtain ⟨b1, b2⟩ := hb
                generalize rd_T46 S ((i - 1 : Nat) : Int) = z at b1 b2
                obtain ⟨z0, z1⟩ := z
                simp only at b1 b2
                rw [b1, b2]
            have hst := HST.out
            rw [hnd, if_neg (by simp)] at hst
            have HCO := Aside0.mk hst
            clear hst hnd HST
            have hcase : i = 0 ∨ (∃ (j : Nat) (x2 y2 : Int), i = j + 1 ∧ j < S.length ∧ W9.cell? (ad.add (j * 2)) = some (.int .i64 x2) ∧ W9.cell? ⟨(ad.add (j * 2)).block, (ad.add (j * 2)).off + 1, none⟩ = some (.int .i64 y2) ∧ (x == x2) = false) ∨ (∃ (j : Nat) (x2 y2 : Int), i = j + 1 ∧ j < S.length ∧ W9.cell? (ad.add (j * 2)) = some (.int .i64 x2) ∧ W9.cell? ⟨(ad.add (j * 2)).block, (ad.add (j * 2)).off + 1, none⟩ = some (.int .i64 y2) ∧ (x == x2) = true ∧ (y == y2) = false) := by
              rcases Nat.eq_zero_or_pos i with hi0 | hip
              · exact .inl hi0
              · obtain ⟨j, hij⟩ : ∃ j : Nat, i = j + 1 := ⟨i - 1, by omega⟩
                obtain ⟨A2, c2, hv2, q1, q2⟩ := X9.out.st.row.slice
                injection hv2 with e1 e2 e3
                subst e1
                obtain ⟨ad2, hA, hb0, hb1⟩ := at_T46 q2 j (by omega) (by omega)
                injection hA with hA
                subst hA
                rw [Int.toNat_natCast] at hb0 hb1
                by_cases hxx : x = (rd_T46 S j).f0
                · refine .inr (.inr ⟨j, _, _, hij, by omega, hb0, hb1, beq_iff_eq.2 hxx, beq_eq_false_iff_ne.2 (fun hyy => hdup ⟨j, hij, ?_⟩)⟩)
                  generalize rd_T46 S j = z at hxx hyy
                  obtain ⟨z0, z1⟩ := z
                  simp only at hxx hyy
                  rw [hxx, hyy]
                · exact .inr (.inl ⟨j, _, _, hij, by omega, hb0, hb1, beq_eq_false_iff_ne.2 hxx⟩)
            clear hdup
            have hga := X9.out.st.fr.cell
            rcases hcase with hi0 | ⟨j, x2, y2, hij, hjS, hb0, hb1, b1⟩ | ⟨j, x2, y2, hij, hjS, hb0, hb1, b1, b2⟩
            case' inl =>
              have p3 : (0 < (i : Int)) = False := eq_false (by omega)
              have p4 : ¬ 0 < i := by omega
              clear hi0
              go_quiet (fail)
              clear p3 p4
            case' inr.inl =>
              have e1 : wrap64 ((i : Int) - 1) = (j : Int) := by have := HLEN.out; have := HSL.out; unfold wrap64; omega
              have e2 : IntKind.i64.wrap ((i : Int) - 1) = (j : Int) := by rw [i64_w]; exact e1
              have p2 : ((j : Int) < (L.length : Int)) = True := eq_true (by have := HSL.out; omega)
              have p3 : (0 < (i : Int)) = True := eq_true (by omega)
              have p4 : 0 < i := by omega
              clear hij hjS
              go_quiet (fail)
              clear e1 e2 p2 p3 p4 hb0 hb1 b1
            case' inr.inr =>
              have e1 : wrap64 ((i : Int) - 1) = (j : Int) := by have := HLEN.out; have := HSL.out; unfold wrap64; omega
              have e2 : IntKind.i64.wrap ((i : Int) - 1) = (j : Int) := by rw [i64_w]; exact e1
              have p2 : ((j : Int) < (L.length : Int)) = True := eq_true (by have := HSL.out; omega)
              have p3 : (0 < (i : Int)) = True := eq_true (by omega)
              have p4 : 0 < i := by omega
              clear hij hjS
              go_quiet (fail)
              clear e1 e2 p2 p3 p4 hb0 hb1 b1
              clear b2
            all_goals
              generalize hW10 : W9.drewN _ = W10
              have X10 : Aside0 (ESt w W10 gb gr ga gq n A ca l (.slice (some ad) L.length cl) S vo out) := ⟨by rw [← hW10]; exact X9.out.below (pw_below_drewN (Below.refl _ _) _)⟩
              have A10 : Aside0 (W10.heap[gt]? = some (.cells #[.int .i64 x, .int .i64 y] 46 (0, 0))) := ⟨by rw [← hW10]; exact A9.out⟩
              clear hW10 ha0 ha1 hga X9 A9
              have ha0 : W10.cell? ⟨gt, 0, none⟩ = some (.int .i64 x) := (blk_cell A10.out 0).trans rfl
              have ha1 : W10.cell? ⟨gt, 1, none⟩ = some (.int .i64 y) := (blk_cell A10.out 1).trans rfl
              obtain ⟨Ao, co, hvo, q1, q2⟩ := X10.out.ou.slice
              subst hvo
              clear q1 q2
              have ho1 : W10.cell? ⟨gq, 1, none⟩ = some (.slice Ao out.length co) := (blk_cell X10.out.new 1).trans rfl
              by_cases h512 : out.length = 512
              · have b3 : ((out.length : Int) == 512) = true := beq_iff_eq.2 (by omega)
                have hr0 := blk_frozen X10.out.st.res 0
                have hr1 := blk_frozen X10.out.st.res 1
                have hg0 : W10.cell? ⟨gr, 0, none⟩ = some (.int .i64 0) := (blk_cell X10.out.st.res 0).trans rfl
                have hg1 : W10.cell? ⟨gr, 1, none⟩ = some (.slice none 0 0) := (blk_cell X10.out.st.res 1).trans rfl
                have hco := HCO.out
                rw [if_pos h512] at hco
                have hx := HX2.out
                rw [hco] at hx
                simp only [if_true] at hx
                have hx1 := Option.some.inj hx
                have HE1 : Aside0 (r1 = 0) := ⟨(congrArg Prod.fst hx1).symm⟩
                have HE2 : Aside0 (r2 = []) := ⟨(congrArg (fun z => z.2.1) hx1).symm⟩
                have HE3 : Aside0 (r3 = 3) := ⟨(congrArg (fun z => z.2.2) hx1).symm⟩
                clear hco hx hx1 h512
                go_wp2
                refine bodyPost_ret (results_ct rfl _ _ gr 24 #[.int .i64 0, .slice none 0 0] (0, 0) _ rfl (blk_put (blk_put X10.out.st.res 0 _ rfl) 1 _ rfl) Try.underlying24 rfl (by kernel_rfl)) rfl ?_
                rw [HE1.out, HE2.out, HE3.out]
                exact ⟨_, rfl, Kd.R_nil _ _ _ _ _, (X10.out.st.bel.setCell X10.out.st.grl _).setCell X10.out.st.grl _⟩
              · have b3 : ((out.length : Int) == 512) = false := beq_eq_false_iff_ne.2 (by omega)
                have hco := HCO.out
                rw [if_neg h512] at hco
                have HCP := Aside0.mk hco.symm
                have HOL : Aside0 (out.length ≤ 511) := ⟨by have := HOU.out; omega⟩
                clear hco h512
                go_wp2_with (at_builtin; refine Kd.R_append k46 (w0 := w) w.heap.size rfl (.tmp 62) (.tmp 64) 22 46 (.agg #[(.int .i64 0), (.int .i64 0)]) 16 rfl Try.underlying22 info46 rfl (by decide) (by omega) (.slice Ao out.length co) out (⟨x, y⟩ : S46) [.int .i64 x, .int .i64 y] (fun _ => True) (fun _ => False) rfl rfl (k46_mkM _ _ _ _) (fun _ hk => hk.elim) (fun _ _ => trivial) X10.out.ou X10.out.st.bel X10.out.st.bel.size (by have := HOL.out; omega) ?_; intro v1 w2 hov hbel hg hat; obtain ⟨A1, d1, ev, hx1, hx2⟩ := OwnA.slice hov; subst ev; clear hx1 hx2; have X11 : Aside0 (ESt w (w2.setCell ⟨gq, 1, none⟩ (.slice A1 (out ++ [(⟨x, y⟩ : S46)]).length d1)) gb gr ga gq n A ca l (.slice (some ad) L.length cl) S (.slice A1 (out ++ [(⟨x, y⟩ : S46)]).length d1) (out ++ [⟨x, y⟩])) := ⟨X10.out.app hg hov hat⟩; have hnw := blk_grown X10.out.new hg (X10.out.ou.ne X10.out.new (by decide)); have hgq1 : w2.cell? ⟨gq, 1, none⟩ = some (.slice Ao out.length co) := (blk_cell hnw 1).trans rfl; have hgf := blk_frozen hnw 1; clear hov hbel hg hat hnw ho1 ha0 ha1)
                rw [E1.out]
                have X12 : Aside0 (ESt w (w2.setCell ⟨gq, 1, none⟩ (.slice A1 (out.length + 1) d1)) gb gr ga gq n A ca l (.slice (some ad) L.length cl) S (.slice A1 (out.length + 1) d1) (out ++ [⟨x, y⟩])) := ⟨by
                  have h := X11.out
                  have e : (out ++ [(⟨x, y⟩ : S46)]).length = out.length + 1 := by simp
                  rw [e] at h
                  exact h⟩
                refine ⟨⟨i + 1, _, _, hlt, rfl, X12, HCP, ⟨by simp; have := HOL.out; omega⟩⟩, ?_⟩
                show S.length - ((i + 1 : Nat) : Int).toNat < S.length - (i : Int).toNat
                omega
        · have hil : i = S.length := by omega
          subst hil
          have hs := HCO.out
          rw [List.drop_length] at hs
          have hf : cloOut S none [] = (out, false) := hs.symm
          have hx := HX2.out
          rw [hf] at hx
          simp only [Bool.false_eq_true, if_false] at hx
          have hx1 := Option.some.inj hx
          have HE1 : Aside0 (r1 = n) := ⟨(congrArg Prod.fst hx1).symm⟩
          have HE2 : Aside0 (r2 = out) := ⟨(congrArg (fun z => z.2.1) hx1).symm⟩
          have HE3 : Aside0 (r3 = 0) := ⟨(congrArg (fun z => z.2.2) hx1).symm⟩
          have p1 : ((S.length : Int) < (L.length : Int)) = False := eq_false (by have := HSL.out; omega)
          obtain ⟨Ao, co, hvo, q1, q2⟩ := X8.out.ou.slice
          subst hvo
          have ho0 : wr.cell? ⟨gq, 0, none⟩ = some (.int .i64 n) := (blk_cell X8.out.new 0).trans rfl
          have ho1 : wr.cell? ⟨gq, 1, none⟩ = some (.slice Ao out.length co) := (blk_cell X8.out.new 1).trans rfl
          have hf0 := blk_frozen X8.out.st.res 0
          have hf1 := blk_frozen X8.out.st.res 1
          have hg0 : wr.cell? ⟨gr, 0, none⟩ = some (.int .i64 0) := (blk_cell X8.out.st.res 0).trans rfl
          have hg1 : wr.cell? ⟨gr, 1, none⟩ = some (.slice none 0 0) := (blk_cell X8.out.st.res 1).trans rfl
          clear hge hi hs hf hx hx1 q1 q2
          go_wp2
          refine bodyPost_ret (results_ct rfl _ _ gr 24 #[.int .i64 n, .slice Ao out.length co] (0, 0) _ rfl (blk_put (blk_put X8.out.st.res 0 _ rfl) 1 _ rfl) Try.underlying24 rfl (by kernel_rfl)) rfl ?_
          rw [HE1.out, HE2.out, HE3.out]
          have hn := X8.out.ou.ne X8.out.st.res (by decide)
          exact ⟨_, rfl, (X8.out.ou.set (p := ⟨gr, 0, none⟩) hn _).set (p := ⟨gr, 1, none⟩) hn _, (X8.out.st.bel.setCell X8.out.st.grl _).setCell X8.out.st.grl _⟩
set_option maxHeartbeats 8000000 in
set_option maxRecDepth 100000 in
theorem close_no (n : Int) (l : List S46) (A : Option Addr) (ca : Nat) (w : World) (hr : Kd.C k46 w A l.length l) (hc : l.length ≤ ca) (hchk : ChkC n l) (hz : gchk n l ≠ 0) :
    Calls Try.prog 25 #[.agg #[.int .i64 n, .slice A l.length ca]] w fun e w' => ∃ v1_ : Value, e = .returned (.tuple #[.agg #[.int .i64 0, v1_], .int .i64 (gchk n l)]) ∧ Kd.R k46 46 w' w.heap.size (fun _ => True) v1_ [] ∧ Below w.heap.size w w' := by
  have HR := Aside0.mk hr
  have HC := Aside0.mk hc
  have HK := Aside0.mk hchk
  have hz1 : (gchk n l != 0) = true := bne_iff_ne.2 hz
  clear hr hc hchk hz
  obtain ⟨gb, hgb⟩ : ∃ g : Nat, g = w.heap.size := ⟨_, rfl⟩
  obtain ⟨gr, hgr⟩ : ∃ g : Nat, g = w.heap.size + 1 := ⟨_, rfl⟩
  obtain ⟨W1, hW1⟩ : ∃ W : World, W = (w.alloc (.cells #[.int .i64 n, .slice A l.length ca] 24)).alloc (.cells #[.int .i64 0, .slice none 0 0] 24) := ⟨_, rfl⟩
  have B1 : Aside0 (Below w.heap.size w W1) := ⟨by rw [hW1]; exact below_alloc (below_alloc (Below.refl w.heap.size w) _) _⟩
  have X1 : Aside0 (W1.heap[gb]? = some (.cells #[.int .i64 n, .slice A l.length ca] 24 (0, 0))) := ⟨by rw [hW1, hgb]; exact blk_alloc (blk_new w _) _⟩
  have Y1 : Aside0 (W1.heap[gr]? = some (.cells #[.int .i64 0, .slice none 0 0] 24 (0, 0))) := ⟨by rw [hW1, hgr]; have := blk_new (w.alloc (.cells #[.int .i64 n, .slice A l.length ca] 24)) (.cells #[.int .i64 0, .slice none 0 0] 24); simpa using this⟩
  have HGB := Aside0.mk hgb
  have HGR := Aside0.mk hgr
  have HW1 := Aside0.mk hW1
  clear hgb hgr hW1
  go_enter Try.func25, Try.ntmps25
  go_upto_region 1 with (fail)
  rw [← HW1.out, ← HGR.out, ← HGB.out]
  have hc0 : W1.cell? ⟨gb, 0, none⟩ = some (.int .i64 n) := (blk_cell X1.out 0).trans rfl
  have hc1 : W1.cell? ⟨gb, 1, none⟩ = some (.slice A l.length ca) := (blk_cell X1.out 1).trans rfl
  go_wp2_with (go_at_call 11; refine (HK.out _ _ _ (Kd.C_below HR.out B1.out) HC.out).mono ?_; rintro e w2 ⟨rfl, hb⟩; have B2 := Aside0.mk (below_step B1.out hb); have Y2 := Aside0.mk (blk_below Y1.out hb); clear hb hc0 hc1; have hg0 : w2.cell? ⟨gr, 0, none⟩ = some (.int .i64 0) := (blk_cell Y2.out 0).trans rfl; have hg1 : w2.cell? ⟨gr, 1, none⟩ = some (.slice none 0 0) := (blk_cell Y2.out 1).trans rfl; have hf0 := blk_frozen Y2.out 0; have hf1 := blk_frozen Y2.out 1)
  have hgl : w.heap.size ≤ gr := by rw [HGR.out]; omega
  refine bodyPost_ret (results_ct rfl _ _ gr 24 #[.int .i64 0, .slice none 0 0] (0, 0) _ rfl (blk_put (blk_put Y2.out 0 _ rfl) 1 _ rfl) Try.underlying24 rfl (by kernel_rfl)) rfl ?_
  exact ⟨_, rfl, Kd.R_nil _ _ _ _ _, (B2.out.setCell hgl _).setCell hgl _⟩
theorem close_calls (V : Int → Option (List Int)) (n : Int) (l : List S46) (A : Option Addr) (ca : Nat) (r1 : Int) (r2 : List S46) (r3 : Int) (w : World) (hr : Kd.C k46 w A l.length l) (hc : l.length ≤ ca) (hchk : ChkC n l) (hV : gchk n l = 0 → ∀ y far, V y = some far → WavC n l y far ∧ far.length ≤ 64) (hS : SortC) (h : graph_close V n l = some (r1, r2, r3)) :
    Calls Try.prog 25 #[.agg #[.int .i64 n, .slice A l.length ca]] w fun e w' => ∃ v1_ : Value, e = .returned (.tuple #[.agg #[.int .i64 r1, v1_], .int .i64 r3]) ∧ Kd.R k46 46 w' w.heap.size (fun _ => True) v1_ r2 ∧ Below w.heap.size w w' := by
  by_cases hz : gchk n l = 0
  · exact close_yes V n l A ca r1 r2 r3 w hr hc hchk (hV hz) hS hz h
  · unfold graph_close at h
    rw [if_neg hz] at h
    have h := Option.some.inj h
    obtain rfl : r1 = 0 := (congrArg Prod.fst h).symm
    obtain rfl : r2 = [] := (congrArg (fun z => z.2.1) h).symm
    obtain rfl : r3 = gchk n l := (congrArg (fun z => z.2.2) h).symm
    exact close_no n l A ca w hr hc hchk hz
end Go.Proofs.Ytlbkbodadkhogaa.X
end
