/- Texts of this claim in one: SortK, CloS. -/
import Derived.Shelf.SlSortCmp.WholeK
import Derived.Shelf.SlSortCmp.NoneTotal
import Derived.Test.YtlbkbodadkhogaaKeeps
import Derived.Shelf.SlGeneric
import Derived.Ground.SlsfProg
import Derived.Test.YtlbkbodadkhogaaCl
/- A row of structs of the call's own, as slices.SortFunc's contract speaks of it. Lemmas; no program in sight. -/
section
namespace Go.Proofs.Ytlbkbodadkhogaa.X
open Go.RowKit Go.Proofs.YtlbkbodadkhogaaW.PrintWords Go.Proofs.YtlbkbodadkhogaaW.PrintLast Go.Sort Go.Shelf
set_option linter.unusedVariables false
section
variable {α : Type} [Inhabited α] (enc : α → List Value) (k : Nat) (hk : ∀ x, (enc x).length = k) (k0 : 0 < k)
include hk k0
theorem flatK_get (d : Array α) (j t : Nat) (hj : j < d.size) (ht : t < k) : (flatK enc k d).toList[j * k + t]? = (enc d[j]!)[t]? := by
  have hlt : j * k + t < d.size * k := by
    have := Nat.mul_le_mul_right k (show j + 1 ≤ d.size from hj)
    rw [Nat.add_mul, Nat.one_mul] at this
    omega
  have h := get_flatK enc k d (j * k + t) hlt
  have e1 : (j * k + t) / k = j := by rw [Nat.mul_comm, Nat.mul_add_div k0, Nat.div_eq_of_lt ht, Nat.add_zero]
  have e2 : (j * k + t) % k = t := by rw [Nat.mul_comm, Nat.mul_add_mod, Nat.mod_eq_of_lt ht]
  rw [e1, e2] at h
  have hs : j * k + t < (flatK enc k d).size := by rw [size_flatK]; exact hlt
  rw [getElem!_pos (flatK enc k d) (j * k + t) hs] at h
  have ht' : t < (enc d[j]!).length := by rw [hk]; exact ht
  rw [getElem!_pos (enc d[j]!) t ht'] at h
  rw [Array.getElem?_toList, Array.getElem?_eq_getElem hs, h, List.getElem?_eq_getElem ht']
theorem flatK_seg (d : Array α) (j : Nat) (hj : j < d.size) : ((flatK enc k d).toList.drop (j * k)).take k = enc d[j]! := by
  apply List.ext_getElem?
  intro t
  by_cases ht : t < k
  · rw [List.getElem?_take_of_lt ht, List.getElem?_drop]
    exact flatK_get enc k hk k0 d j t hj ht
  · rw [List.getElem?_take_eq_none (by omega), List.getElem?_eq_none (by rw [hk]; omega)]
theorem flatK_of (d : Array α) (inner : List Value) (hl : inner.length = d.size * k) (hs : ∀ j, j < d.size → (inner.drop (j * k)).take k = enc d[j]!) : inner = (flatK enc k d).toList := by
  apply List.ext_getElem?
  intro t
  by_cases ht : t < d.size * k
  · have hj : t / k < d.size := (Nat.div_lt_iff_lt_mul k0).2 ht
    have hm : t % k < k := Nat.mod_lt _ k0
    have e : t / k * k + t % k = t := by rw [Nat.mul_comm]; exact Nat.div_add_mod t k
    have h1 := flatK_get enc k hk k0 d (t / k) (t % k) hj hm
    rw [e] at h1
    rw [h1, ← hs _ hj, List.getElem?_take_of_lt hm, List.getElem?_drop, e]
  · rw [List.getElem?_eq_none (by omega), List.getElem?_eq_none (by simp; omega)]
omit hk k0 in
theorem holdsK_of_block {w : World} {g : Nat} {cur : Array Value} {e : TypeId} (d : Array α) (hb : w.heap[g]? = some (.cells cur e (0, 0))) (ht : cur.toList.take (d.size * k) = (flatK enc k d).toList) : HoldsK enc k w g 0 d := by
  intro j hj
  rw [size_flatK] at hj
  refine ⟨?_, by simp [World.frozen?, hb]⟩
  have h1 : (cur.toList.take (d.size * k))[j]? = (flatK enc k d).toList[j]? := by rw [ht]
  rw [List.getElem?_take_of_lt hj] at h1
  simp only [World.cell?, hb, Nat.zero_add]
  simp only [Option.isSome_none, Bool.false_eq_true, if_false]
  rw [← Array.getElem?_toList, h1]
  simp [hj]
omit hk k0 in
theorem heap_sortedK {w : World} {g n : Nat} {os : Array Obj} {cur : Array Value} {e : TypeId} {fr : Nat × Nat} (d : Array α) (hb : w.heap[g]? = some (.cells cur e fr)) :
    (sortWorldK enc k w g 0 n d os).heap[g]? = some (.cells (putCells id 0 (flatK enc k d) cur) e fr) := by
  have hg : g < w.heap.size := (Array.getElem?_eq_some_iff.1 hb).1
  unfold sortWorldK putRowK
  rw [heap_grow_old _ _ (by simpa using hg)]
  simp [putRow, mapBlock, Sort.ahead, Array.getElem?_modify, hb, onCells]
omit hk k0 in
theorem grownBy_sortedK {w : World} {g n : Nat} {os : Array Obj} (d : Array α) : w.grownBy (sortWorldK enc k w g 0 n d os) (some g) := by
  unfold sortWorldK putRowK
  refine ⟨rfl, rfl, rfl, by simp, fun j hj hne => ?_⟩
  rw [heap_grow_old _ _ (by simpa using hj)]
  have : g ≠ j := fun e => hne (by rw [e])
  simp [putRow, mapBlock, Sort.ahead, Array.getElem?_modify, this]
omit hk k0 in
theorem take_putCellsK (cur : Array Value) (F : Array Value) (h : F.size ≤ cur.size) : (putCells id 0 F cur).toList.take F.size = F.toList := by
  apply List.ext_getElem?
  intro j
  by_cases hj : j < F.size
  · rw [List.getElem?_take_of_lt hj, Array.getElem?_toList]
    simp [putCells, hj, show j < cur.size by omega]
  · rw [List.getElem?_take_eq_none (by omega), List.getElem?_eq_none (by simp; omega)]
end
/-- slices.SortFunc over a row of the call's own: the row holds the same elements, in order. -/
theorem sort_own {α : Type} [Inhabited α] {P : Program} {ρ : Ren} (L : SlLaysF0.n6 P ρ) (k : Nat) (k0 : 0 < k) (aE : ∀ w, (isAgg (ρ.t 24)).run P w = .ok true w) (zE : ∀ w, (Go.sizeOf (ρ.t 24)).run P w = .ok k w) (enc : α → List Value) (hk : ∀ x, (enc x).length = k) (h1 : ∀ x, ∀ v ∈ enc x, v.oneCell' = true) (cf : α → α → Int) (hO : SWO (ltOf cf)) (g : Nat) (cb : Array Value)
    (eg : ∀ args w, (callFunc g args).run P w = .ok (.enter g args) w) (hcmp : ∀ blk off size w, CmpLays P g cb enc k cf blk off size w)
    (w : World) (base : Nat) (e : TypeId) (v : Value) (d : Array α) (hsz : d.size < 4611686018427387904) (ho : w.ownsRow base e k v d.size (flatK enc k d).toList) :
    Calls P (ρ.f 6) #[v, .func (.func g) #[] cb] w fun e' w' => e' = .returned (.tuple #[]) ∧ (∃ d' : Array α, d'.size = d.size ∧ d'.toList.Perm d.toList ∧ (∀ i j, i < j → j < d.size → ltOf cf d'[j]! d'[i]! = false) ∧ w'.ownsRow base e k v d'.size (flatK enc k d').toList) ∧ w.grownBy w' v.ownBlock := by
  have ho' := ho
  rcases ho.2 with ⟨hnil, hz⟩ | ⟨b, cap, cur, hv, hbase, hb, c1, c2, c3, c4⟩
  · subst hnil
    have hn := AnyF.slices_SortFunc_none (P := P) (ρ := ρ) L none 0 (.func (.func g) #[] cb) w
    refine hn.mono ?_
    rintro e' w' ⟨rfl, rfl⟩
    exact ⟨rfl, ⟨d, rfl, List.Perm.refl _, fun i j _ hj => by omega, ho'⟩, ⟨rfl, rfl, rfl, Nat.le_refl _, fun _ _ _ => rfl⟩⟩
  · subst hv
    have hg : b < w.heap.size := (Array.getElem?_eq_some_iff.1 hb).1
    have hc := AnyQ.slices_SortFunc L k aE zE enc hk h1 cf hO g cb b 0 cap d w eg (hcmp _ _ _ _) (holdsK_of_block enc k d hb c4) hg hsz
    refine hc.mono ?_
    rintro e' w' ⟨rfl, d', n, os, hp, hs, rfl⟩
    have hds : d'.size = d.size := hp.1
    refine ⟨rfl, ⟨d', hds, ?_, fun i j hij hj => hs i j (Nat.zero_le _) hij hj, ?_⟩, grownBy_sortedK enc k d'⟩
    · have := hp.2.2
      rwa [show d'.extract 0 d.size = d' from by rw [← hds]; simp, show d.extract 0 d.size = d from by simp] at this
    · refine ⟨by simp, .inr ⟨b, cap, _, by rw [hds], hbase, heap_sortedK enc k d' hb, by omega, c2, by simp [putCells, c3], ?_⟩⟩
      have := take_putCellsK cur (flatK enc k d') (by rw [size_flatK, c3, hds]; exact Nat.mul_le_mul_right k c1)
      rwa [size_flatK] at this
end Go.Proofs.Ytlbkbodadkhogaa.X
end

/- graph.Close: slices.SortFunc over the arcs. -/
section
namespace Go.Proofs.Ytlbkbodadkhogaa.X
open Go.RowKit Go.Proofs.YtlbkbodadkhogaaW.PrintWords Go.Proofs.YtlbkbodadkhogaaW.PrintLast Go.Proofs.YtlbkbodadkhogaaW.PrintMore
open Go.Sort Go.Shelf
set_option linter.unusedVariables false
def sortArc_ren : Go.Shelf.Ren := ⟨fun | 6 => 38 | 15 => 43 | 14 => 42 | 28 => 52 | 29 => 53 | 20 => 44 | 21 => 45 | 22 => 46 | 23 => 47 | 24 => 48 | 25 => 49 | 26 => 50 | 27 => 51 | 46 => 54 | 47 => 55 | 48 => 56 | 49 => 57 | 50 => 58 | 57 => 59 | n => n, fun | 22 => 22 | 24 => 46 | 25 => 61 | 3 => 3 | 39 => 70 | 0 => 0 | 53 => 80 | 55 => 82 | 4 => 4 | 46 => 74 | 45 => 73 | 50 => 53 | 5 => 5 | 9 => 9 | 66 => 83 | 70 => 87 | 76 => 89 | 77 => 90 | n => n, fun | n => n⟩
theorem sortArc : Go.Proofs.SlLaysF0.n6 Try.prog sortArc_ren := {
  mixed := by kernel_rfl
  f6 := ⟨Try.f38.name, by decide, Try.func38.trans (congrArg some (by kernel_rfl))⟩
  f14 := ⟨Try.f42.name, by decide, Try.func42.trans (congrArg some (by kernel_rfl))⟩
  f15 := Try.func43.trans (congrArg some (by kernel_rfl))
  f20 := ⟨Try.f44.name, by decide, Try.func44.trans (congrArg some (by kernel_rfl))⟩
  f21 := ⟨Try.f45.name, by decide, Try.func45.trans (congrArg some (by kernel_rfl))⟩
  f22 := ⟨Try.f46.name, by decide, Try.func46.trans (congrArg some (by kernel_rfl))⟩
  f23 := ⟨Try.f47.name, by decide, Try.func47.trans (congrArg some (by kernel_rfl))⟩
  f24 := ⟨Try.f48.name, by decide, Try.func48.trans (congrArg some (by kernel_rfl))⟩
  f25 := ⟨Try.f49.name, by decide, Try.func49.trans (congrArg some (by kernel_rfl))⟩
  f26 := ⟨Try.f50.name, by decide, Try.func50.trans (congrArg some (by kernel_rfl))⟩
  f27 := ⟨Try.f51.name, by decide, Try.func51.trans (congrArg some (by kernel_rfl))⟩
  f28 := Try.func52.trans (congrArg some (by kernel_rfl))
  f29 := Try.func53.trans (congrArg some (by kernel_rfl))
  f46 := ⟨Try.f54.name, by decide, Try.func54.trans (congrArg some (by kernel_rfl))⟩
  f47 := Try.func55.trans (congrArg some (by kernel_rfl))
  f48 := Try.func56.trans (congrArg some (by kernel_rfl))
  f49 := ⟨Try.f57.name, by decide, Try.func57.trans (congrArg some (by kernel_rfl))⟩
  f50 := ⟨Try.f58.name, by decide, Try.func58.trans (congrArg some (by kernel_rfl))⟩
  f57 := ⟨Try.f59.name, by decide, Try.func59.trans (congrArg some (by kernel_rfl))⟩
  t0 := Try.underlying0
  a0 := Try.isAgg0
  z0 := Try.sizeOf0
  v0 := Try.zeroValue0
  t3 := Try.underlying3
  a3 := Try.isAgg3
  z3 := Try.sizeOf3
  v3 := Try.zeroValue3
  t4 := Try.underlying4
  a4 := Try.isAgg4
  z4 := Try.sizeOf4
  v4 := Try.zeroValue4
  t5 := Try.underlying5
  a5 := Try.isAgg5
  z5 := Try.sizeOf5
  v5 := Try.zeroValue5
  t9 := Try.underlying9
  a9 := Try.isAgg9
  z9 := Try.sizeOf9
  v9 := Try.zeroValue9
  t22 := Try.underlying22
  a22 := Try.isAgg22
  z22 := Try.sizeOf22
  v22 := Try.zeroValue22
  t25 := Try.underlying61
  a25 := Try.isAgg61
  z25 := Try.sizeOf61
  v25 := Try.zeroValue61
  t39 := Try.underlying70
  a39 := Try.isAgg70
  z39 := Try.sizeOf70
  v39 := Try.zeroValue70
  t45 := Try.underlying73
  a45 := Try.isAgg73
  z45 := Try.sizeOf73
  v45 := Try.zeroValue73
  t46 := Try.underlying74
  a46 := Try.isAgg74
  z46 := Try.sizeOf74
  v46 := Try.zeroValue74
  t50 := Try.underlying53
  a50 := Try.isAgg53
  z50 := Try.sizeOf53
  v50 := Try.zeroValue53
  t53 := Try.underlying80
  a53 := Try.isAgg80
  z53 := Try.sizeOf80
  v53 := Try.zeroValue80
  t55 := Try.underlying82
  a55 := Try.isAgg82
  z55 := Try.sizeOf82
  v55 := Try.zeroValue82
  t66 := Try.underlying83
  a66 := Try.isAgg83
  z66 := Try.sizeOf83
  v66 := Try.zeroValue83
  t70 := Try.underlying87
  a70 := Try.isAgg87
  z70 := Try.sizeOf87
  v70 := Try.zeroValue87
  t76 := Try.underlying89
  a76 := Try.isAgg89
  z76 := Try.sizeOf89
  v76 := Try.zeroValue89
  t77 := Try.underlying90
  a77 := Try.isAgg90
  z77 := Try.sizeOf90
  v77 := Try.zeroValue90 }
abbrev NArc := { x : S46 // inA x }
instance : Inhabited NArc := ⟨⟨⟨0, 0⟩, ⟨by decide, by decide, by decide, by decide⟩⟩⟩
theorem ltA (x y : NArc) : ltOf (fun x y : NArc => cmpA x.1 y.1) x y = decide (cmpA x.1 y.1 < 0) := rfl
theorem cmpA_neg (x y : S46) : cmpA x y = - cmpA y x := by
  unfold cmpA
  by_cases h : x.f0 = y.f0
  · rw [if_pos h, if_pos h.symm]; omega
  · rw [if_neg h, if_neg (fun e => h e.symm)]; omega
theorem swoA : SWO (ltOf fun x y : NArc => cmpA x.1 y.1) where
  irrefl x := by rw [ltA]; unfold cmpA; simp
  trans x y z h1 h2 := by
    rw [ltA] at *
    simp only [decide_eq_true_eq] at *
    unfold cmpA at *
    split at h1 <;> split at h2 <;> split <;> omega
  ntrans x y z h1 h2 := by
    rw [ltA] at *
    simp only [decide_eq_false_iff_not] at *
    unfold cmpA at *
    split at h1 <;> split at h2 <;> split <;> omega
theorem sortC : SortC := by
  intro w base v L hL hin hlen
  obtain ⟨Ld, hLd⟩ : ∃ Ld : List NArc, Ld.map (·.1) = L := ⟨L.pmap Subtype.mk hin, by simp [List.map_pmap]⟩
  have hl : Ld.length = L.length := by rw [← hLd, List.length_map]
  obtain ⟨_, inner, hown, hr1, hr2⟩ := hL
  have hget : ∀ j, j < Ld.toArray.size → (inner.drop (j * 2)).take 2 = encA (Ld.toArray[j]!).1 := by
    intro j hj
    have hj' : j < Ld.length := by simpa using hj
    have e1 : L[j]? = some Ld[j].1 := by rw [← hLd]; simp [hj']
    have e2 := k46_openM (hr2 j _ e1)
    have e3 : Ld.toArray[j]! = Ld[j] := by simp [hj']
    rw [e3]; exact e2
  have hfl : inner = (flatK (fun x : NArc => encA x.1) 2 Ld.toArray).toList := by
    refine flatK_of (fun x : NArc => encA x.1) 2 (fun _ => rfl) (by decide) Ld.toArray inner ?_ hget
    rw [hr1]; simp [hl]; rfl
  have hd : Ld.toArray.size = L.length := by simp [hl]
  have ho : w.ownsRow base 46 2 v Ld.toArray.size (flatK (fun x : NArc => encA x.1) 2 Ld.toArray).toList := by rw [hd, ← hfl]; exact hown
  have hc := sort_own sortArc 2 (by decide) Try.isAgg46 Try.sizeOf46 (fun x : NArc => encA x.1) (fun _ => rfl) (fun x u hu => by simp [encA] at hu; rcases hu with rfl | rfl <;> rfl) (fun x y => cmpA x.1 y.1) swoA 39 #[] (enters_of Try.func39 (by kernel_rfl) rfl)
    (fun blk off size w => fun _ _ _ _ x y => clo2 x.1 y.1 x.2 y.2 _) w base 46 v Ld.toArray (by rw [hd]; omega) ho
  change Calls Try.prog 38 _ _ _ at hc
  refine hc.mono ?_
  rintro e w' ⟨rfl, ⟨d', hds, hp, hs, ho'⟩, hg⟩
  refine ⟨rfl, ?_, (Keeps.refl w _).grown hg (fun k e => .inl e.symm)⟩
  have hM : d'.toList.map (·.1) = sortA L := by
    refine sorted_one _ _ ?_ (sortA_sorted L) ?_
    · rw [List.pairwise_iff_getElem]
      intro i j hi hj hij
      simp only [List.length_map, Array.length_toList] at hi hj
      have h := hs i j hij (by rw [← hds]; exact hj)
      rw [ltA] at h
      simp only [decide_eq_false_iff_not] at h
      have e1 : d'[i]! = d'[i] := getElem!_pos d' i hi
      have e2 : d'[j]! = d'[j] := getElem!_pos d' j hj
      rw [e1, e2] at h
      simp only [List.getElem_map, Array.getElem_toList]
      rw [cmpA_neg]; omega
    · refine List.Perm.trans ?_ (sortA_perm L).symm
      rw [← hLd]
      exact (hp.map _)
  have hsz : d'.size = (sortA L).length := by rw [← hM]; simp
  refine ⟨fun _ _ => trivial, _, by rw [← hsz]; exact ho', ⟨by simp [hsz]; rfl, fun j p hj => ?_⟩⟩
  rw [← hM] at hj
  obtain ⟨hjl, hjp⟩ := List.getElem?_eq_some_iff.1 hj
  simp only [List.length_map, Array.length_toList] at hjl
  have h := flatK_seg (fun x : NArc => encA x.1) 2 (fun _ => rfl) (by decide) d' j hjl
  have e1 : d'[j]! = d'[j] := getElem!_pos d' j hjl
  rw [e1] at h
  simp only [List.getElem_map, Array.getElem_toList] at hjp
  show k46.M w' base _ p _
  rw [show k46.sz = 2 from rfl, h, hjp]
  exact k46_mkM _ _ _ _
end Go.Proofs.Ytlbkbodadkhogaa.X
end
