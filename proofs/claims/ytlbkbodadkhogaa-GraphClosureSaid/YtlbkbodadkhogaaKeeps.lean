/- What a call of a closure keeps of memory: all but the blocks of the variables that it has captured. Lemmas; no program in sight. -/
import Derived.Below
import Derived.WalkKit
import Derived.Test.YtlbkbodadkhogaaWWords
import Derived.Test.YtlbkbodadkhogaaWKept
import Derived.Test.YtlbkbodadkhogaaWLast
namespace Go.Proofs.Ytlbkbodadkhogaa.X
open Go.RowKit Go.Proofs.YtlbkbodadkhogaaW.PrintWords Go.Proofs.YtlbkbodadkhogaaW.PrintLast
set_option linter.unusedVariables false

/-- W comes behind w; of what lay in w only the blocks in S may have changed. -/
structure Keeps (w W : World) (S : Nat → Prop) : Prop where
  os : W.os = w.os
  tape : W.tape = w.tape
  output : W.output = w.output
  size : w.heap.size ≤ W.heap.size
  block : ∀ k, k < w.heap.size → ¬ S k → W.heap[k]? = w.heap[k]?
section
variable {w W W2 : World} {S S2 : Nat → Prop}
theorem Keeps.refl (w : World) (S : Nat → Prop) : Keeps w w S := ⟨rfl, rfl, rfl, Nat.le_refl _, fun _ _ _ => rfl⟩
theorem Keeps.of_below (h : Below w.heap.size w W) (S : Nat → Prop) : Keeps w W S := ⟨h.os, h.tape, h.output, h.size, fun k hk _ => h.block k hk⟩
theorem Keeps.then_ (h : Keeps w W S) (k : Keeps W W2 S2) (hs : ∀ i, S2 i → S i ∨ w.heap.size ≤ i) : Keeps w W2 S :=
  ⟨k.os.trans h.os, k.tape.trans h.tape, k.output.trans h.output, Nat.le_trans h.size k.size, fun i hi hn => (k.block i (Nat.lt_of_lt_of_le hi h.size) (fun h2 => (hs i h2).elim hn (fun h3 => by omega))).trans (h.block i hi hn)⟩
theorem Keeps.below (h : Keeps w W S) (hb : Below W.heap.size W W2) : Keeps w W2 S := h.then_ (Keeps.of_below hb (fun _ => False)) (fun _ hk => hk.elim)
theorem Keeps.alloc (h : Keeps w W S) (o : Obj) : Keeps w (W.alloc o) S := h.below (below_alloc (Below.refl _ _) o)
theorem Keeps.drew (h : Keeps w W S) : Keeps w W.drew S := ⟨h.os, h.tape, h.output, h.size, h.block⟩
theorem Keeps.drewN (h : Keeps w W S) (n : Nat) : Keeps w (W.drewN n) S := ⟨h.os, h.tape, h.output, h.size, h.block⟩
theorem Keeps.setCell (h : Keeps w W S) {p : Addr} (hp : S p.block ∨ w.heap.size ≤ p.block) (u : Value) : Keeps w (W.setCell p u) S :=
  h.then_ (S2 := fun k => k = p.block) ⟨rfl, rfl, rfl, by simp [World.setCell], fun i _ hn => Below.heap_setCell W p u i hn⟩ (fun k hk => by rw [hk]; exact hp)
theorem Keeps.mono (h : Keeps w W S) (hs : ∀ k, S k → S2 k) : Keeps w W S2 := ⟨h.os, h.tape, h.output, h.size, fun i hi hn => h.block i hi (fun hk => hn (hs i hk))⟩
theorem Keeps.toBelow {B : Nat} (h : Keeps w W S) (hS : ∀ k, S k → B ≤ k) (hB : B ≤ w.heap.size) : Below B w W :=
  ⟨h.os, h.tape, h.output, h.size, fun k hk => h.block k (by omega) (fun hs => by have := hS k hs; omega)⟩
theorem Keeps.kept (h : Keeps w W S) : Kept w W S := ⟨h.size, h.block⟩
theorem Keeps.blk (h : Keeps w W S) {g : Nat} {o : Obj} (hb : w.heap[g]? = some o) (hne : ¬ S g) : W.heap[g]? = some o := (h.block g (blk_lt hb) hne).trans hb
theorem Keeps.grown (h : Keeps w W S) {row : Option Nat} (hg : W.grownBy W2 row) (hr : ∀ k, row = some k → S k ∨ w.heap.size ≤ k) : Keeps w W2 S :=
  h.then_ (S2 := fun k => row = some k) ⟨hg.os, hg.tape, hg.output, hg.size, fun i hi hn => hg.block i hi (fun he => hn he.symm)⟩ hr
end
/-- The blocks whose elements are of the type t are as they were. -/
def KeepT (W W' : World) (t : TypeId) : Prop := ∀ (k : Nat) (cs : Array Value), W.heap[k]? = some (.cells cs t (0, 0)) → W'.heap[k]? = some (.cells cs t (0, 0))
theorem KeepT.refl (W : World) (t : TypeId) : KeepT W W t := fun _ _ h => h
theorem KeepT.trans {W W1 W2 : World} {t : TypeId} (h : KeepT W W1 t) (k : KeepT W1 W2 t) : KeepT W W2 t := fun i cs hi => k i cs (h i cs hi)
theorem KeepT.below {W W1 W2 : World} {t : TypeId} (h : KeepT W W1 t) (hb : Below W1.heap.size W1 W2) : KeepT W W2 t := fun i cs hi => blk_below (h i cs hi) hb
theorem KeepT.alloc {W W1 : World} {t : TypeId} (h : KeepT W W1 t) (o : Obj) : KeepT W (W1.alloc o) t := h.below (below_alloc (Below.refl _ _) o)
theorem KeepT.drew {W W1 : World} {t : TypeId} (h : KeepT W W1 t) : KeepT W W1.drew t := h
theorem KeepT.drewN {W W1 : World} {t : TypeId} (h : KeepT W W1 t) (n : Nat) : KeepT W (W1.drewN n) t := h
/-- A variable of one cell in a block of its own. -/
def One (W : World) (g : Nat) (t : TypeId) (v : Value) : Prop := W.heap[g]? = some (.cells #[v] t (0, 0))
section
variable {W W2 : World} {g : Nat} {t : TypeId} {v : Value}
theorem One.new (W : World) (t : TypeId) (v : Value) : One (W.alloc (.cells #[v] t (0, 0))) W.heap.size t v := blk_new W _
theorem One.cell (h : One W g t v) : W.cell? ⟨g, 0, none⟩ = some v := (blk_cell h 0).trans rfl
theorem One.frozen (h : One W g t v) : W.frozen? ⟨g, 0, none⟩ = false := blk_frozen h 0
theorem One.lt (h : One W g t v) : g < W.heap.size := blk_lt h
theorem One.below (h : One W g t v) (hb : Below W.heap.size W W2) : One W2 g t v := blk_below h hb
theorem One.alloc (h : One W g t v) (o : Obj) : One (W.alloc o) g t v := h.below (below_alloc (Below.refl _ _) o)
theorem One.drew (h : One W g t v) : One W.drew g t v := h
theorem One.drewN (h : One W g t v) (n : Nat) : One (W.drewN n) g t v := h
theorem One.set (h : One W g t v) (u : Value) : One (W.setCell ⟨g, 0, none⟩ u) g t u := blk_put h 0 _ rfl
theorem One.far (h : One W g t v) {g2 : Nat} (hne : g ≠ g2) (i : Nat) (u : Value) : One (W.setCell ⟨g2, i, none⟩ u) g t v := blk_far h hne u
theorem One.grown {row : Option Nat} (h : One W g t v) (hg : W.grownBy W2 row) (hne : some g ≠ row) : One W2 g t v := blk_grown h hg hne
theorem One.keeps {S : Nat → Prop} (h : One W g t v) (hk : Keeps W W2 S) (hne : ¬ S g) : One W2 g t v := hk.blk h hne
theorem One.not {t' : TypeId} {g' : Nat} {cs : Array Value} (h : One W g t v) (h' : W.heap[g']? = some (.cells cs t' (0, 0))) (hne : t ≠ t') : g ≠ g' := blk_ne h h' hne
end
theorem KeepT.set {W W1 : World} {t t' g : Nat} {cs : Array Value} (h : KeepT W W1 t) (hg : W1.heap[g]? = some (.cells cs t' (0, 0))) (hne : t ≠ t') (i : Nat) (u : Value) : KeepT W (W1.setCell ⟨g, i, none⟩ u) t :=
  fun k cs' hk => blk_far (h k cs' hk) (p := ⟨g, i, none⟩) (blk_ne (h k cs' hk) hg hne) u
theorem KeepT.keeps {W W1 : World} {t : TypeId} {S : Nat → Prop} (h : Keeps W W1 S) (hS : ∀ k (cs : Array Value), W.heap[k]? = some (.cells cs t (0, 0)) → ¬ S k) : KeepT W W1 t := fun k cs hk => h.blk hk (hS k cs hk)
theorem KeepT.grownBy {W W1 W2 : World} {t : TypeId} (h : KeepT W W1 t) {row : Option Nat} (hg : W1.grownBy W2 row) (hne : ∀ {g : Nat} {cells : Array Value}, W1.heap[g]? = some (.cells cells t (0, 0)) → some g ≠ row) : KeepT W W2 t :=
  fun k cs hk => blk_grown (h k cs hk) hg (hne (h k cs hk))
/-- 'append(v, ys...)' inside a region that draws its order, as an arm of go_region_held3. -/
theorem append_rows_held {α : Type} {P : Program} {ops : Array Oper} {o : Oper} {a : Act} {Q : Exit → Act → World → Prop} {Kc : Act → World → Prop} {E : Prop} (hgd : o.guard = none) (d : Kd α) {Rr : α → List Value → Prop} {W : World} (base : Nat) (s x : Operand) (t e : TypeId) (z : Value) (bytes : Nat)
    (ho : o.op = .call { callee := .builtin .append, args := #[s, x], argTypes := #[t, t] })
    (ht : P.underlying t = some (.slice e)) (hinfo : (P.info? e).map (fun i => (i.zero, i.size, i.bytes)) = some (some z, d.sz, bytes)) (hz : z.cells.size = d.sz) (hs0 : 0 < d.sz) (hb0 : 0 < bytes)
    (v : Value) (xs ys : List α) (A : Option Addr) (m c : Nat) (okp : Nat → Prop) (hs : a.eval s = v) (hx : a.eval x = .slice A m c)
    (HO : d.R e W base (fun _ => True) v xs) (HR : ReadsRow Rr d.sz W A m ys) (hKM : ∀ x cs, Rr x cs → d.M W base okp x cs) (hokp : ∀ k, okp k → True ∧ some k ≠ v.ownBlock)
    (hbase : base ≤ W.heap.size) (hl : (xs.length + m) * bytes ≤ 140737488355328)
    (h : ∀ v1 w1, d.R e w1 base (fun _ => True) v1 (xs ++ ys) → Below base W w1 → W.grownBy w1 v.ownBlock → (v1.ownBlock = v.ownBlock ∨ ∃ b, v1.ownBlock = some b ∧ W.heap.size ≤ b) → Kc (a.put o.dst v1) w1) :
    if Region.wanted o (yielded ops a.tmps) = true then Oper.wp P o a W Kc Q else E := by
  have hw : Region.wanted o (yielded ops a.tmps) = true := by simp [Region.wanted, hgd]
  have h2 := Kd.R_append_rows_step (P := P) (Q := Q) (ops := ops) d (Rr := Rr) (w0 := W) base hw s x t e z bytes ho ht hinfo hz hs0 hb0 v xs ys A m c (fun _ => True) okp hs hx HO HR hKM hokp (fun _ _ => trivial) (Below.refl _ _) hbase hl h
  rw [if_pos hw] at h2 ⊢
  exact h2
/-- A function value enters its function. -/
theorem enters_hyp {P : Program} {f : FuncId} {fn : Func} (hf : P.funcs[f]? = some fn) (hname : (fn.name == "runtime.NumGoroutine") = false) (hb : fn.body.isSome = true) : ∀ (args : Array Value) (w : World), (callFunc f args).run P w = .ok (.enter f args) w :=
  fun args w => enters_ hf hname hb args w
end Go.Proofs.Ytlbkbodadkhogaa.X
