/- How an argument that was read as data lies in memory, in the words of the contracts: whole numbers, bools, structs, slices. Lemmas; no program in sight. -/
import Derived.Below
import Derived.WalkKit
import Derived.ChangeArms
import Derived.Deep.Slices
import Derived.Test.YtlbkbodadkhogaaWWords
namespace Go.Proofs.Ytlbkbodadkhogaa.X
open Go.RowKit Go.Proofs.YtlbkbodadkhogaaW.PrintWords Go.ChangeShapes Go.WideShapes
set_option linter.unusedVariables false

/-- Whatever of type t is read as data holds a value of the kind d, of which I holds. -/
def Opens {α : Type} (P : Program) (d : Kd α) (I : α → Prop) (t : TypeId) : Prop :=
  ∀ (H : Type) (enc : TypeId × Value → H) (w : World) (spare : Nat → Bool) (held : Bool) (fuel : Nat) (cs : List Value) (x : DataW H × List MemPlace),
    DataW.trod enc P w 0 spare held fuel t cs = some x → ∃ a : α, d.K w a cs ∧ I a
theorem opens_int {P : Program} {k : IntKind} {t : TypeId} (h : P.underlying t = some (.int k)) : Opens P (Kd.int k) (fun n => (Lit.int k n).wf = true) t := by
  intro H enc w spare held fuel cs x hx
  obtain ⟨n, rfl, _, hw⟩ := DataW.trod_int h hx
  exact ⟨n, rfl, hw⟩
theorem opens_bool {P : Program} {t : TypeId} (h : P.underlying t = some .bool) : Opens P Kd.bool (fun _ => True) t := by
  intro H enc w spare held fuel cs x hx
  have hb : ∃ b, cs = [.bool b] := by
    cases fuel with
    | zero => simp [DataW.trod] at hx
    | succ n =>
      unfold DataW.trod at hx
      rw [h] at hx
      split at hx <;> simp_all
  obtain ⟨b, rfl⟩ := hb
  exact ⟨b, rfl, trivial⟩
theorem opens_slice {α : Type} {P : Program} {d : Kd α} {I : α → Prop} {t e : TypeId} (z : α) (ht : P.underlying t = some (.slice e)) (hc : P.cellsOf e = d.sz) (he : Opens P d I e) : Opens P (Kd.slice e d) (fun xs => ∀ x ∈ xs, I x) t := by
  intro H enc w spare held fuel cs x hx
  rcases Go.Deep.open_slice ht hx with ⟨rfl, _⟩ | ⟨a, len, cap, m, n, D, Pl, rfl, _, hl, hm, hmm, _, hi⟩
  · exact ⟨[], ⟨none, 0, rfl, Nat.le_refl _, Kd.C_nil _ _⟩, fun x h => by simp at h⟩
  · have hlm : len ≤ m := by rw [hmm]; split <;> omega
    have hall : ∀ i, ∃ y : α, i < len → (∃ c, c.length = d.sz ∧ d.K w y c ∧ ∀ (j : Nat) u, c[j]? = some u → w.cell? (a.add (i * d.sz + j)) = some u) ∧ I y := by
      intro i
      rcases Nat.lt_or_ge i len with h | h
      · obtain ⟨cs', hcs, ht'⟩ := hi i (by omega)
        obtain ⟨y, hy, hI⟩ := he H enc w spare held n cs' _ ht'
        rw [hc] at hcs
        obtain ⟨_, hcl, hat⟩ := World.cells?_some hcs
        refine ⟨y, fun _ => ⟨⟨cs', hcl, hy, fun j u hu => ?_⟩, hI⟩⟩
        have hj : j < d.sz := by have := (List.getElem?_eq_some_iff.1 hu).1; omega
        have h1 := hat j hj
        rw [hu] at h1
        rw [← Go.Deep.add_add]; exact h1
      · exact ⟨z, fun h' => by omega⟩
    obtain ⟨f, hf⟩ := Classical.axiomOfChoice hall
    have hlen : ((List.range len).map f).length = len := by simp
    refine ⟨(List.range len).map f, ⟨some a, cap, by rw [hlen], by rw [hlen]; exact hl, hlen.trans hlen.symm, by rw [hlen]; unfold maxLen at hm; omega, fun _ => ⟨a, rfl, fun j p hj => ?_⟩⟩, ?_⟩
    · have hjl : j < len := by have := (List.getElem?_eq_some_iff.1 hj).1; simpa using this
      have hp : p = f j := by simp [hjl] at hj; exact hj.symm
      subst hp
      exact (hf j hjl).1
    · intro y hy
      obtain ⟨j, hj, rfl⟩ := List.mem_map.1 hy
      exact (hf j (List.mem_range.1 hj)).2
/-- A field of a struct. -/
theorem opens_field {α : Type} {P : Program} {d : Kd α} {I : α → Prop} {H : Type} {enc : TypeId × Value → H} {w : World} {spare : Nat → Bool} {held : Bool} {n : Nat} {cs : List Value} {xs : List (DataW H × List MemPlace)} {fs : Array Field} {f : Field} (i : Nat)
    (hf : ∀ (i : Nat) (f : Field), fs[i]? = some f → DataW.trod enc P w 0 spare held n f.type ((cs.drop f.offset).take (P.cellsOf f.type)) = xs[i]?) (hx : xs.length = fs.size) (hi : fs[i]? = some f) (ho : Opens P d I f.type) :
    ∃ a : α, d.K w a ((cs.drop f.offset).take (P.cellsOf f.type)) ∧ I a := by
  have h := hf i f hi
  have hlt : i < xs.length := by rw [hx]; exact (Array.getElem?_eq_some_iff.1 hi).1
  rw [List.getElem?_eq_getElem hlt] at h
  exact ho H enc w spare held n _ _ h
end Go.Proofs.Ytlbkbodadkhogaa.X
