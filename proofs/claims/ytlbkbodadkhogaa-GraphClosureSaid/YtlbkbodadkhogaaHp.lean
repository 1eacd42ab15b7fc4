/- Texts of this claim in one: Heap, HeapM, Heap2, Heap3, Heap4, Heap5, HeapP. -/
import Derived.Test.YtlbkbodadkhogaaX0
import Derived.Test.YtlbkbodadkhogaaKeeps
import Derived.Handy
/- Contracts of the methods of graph.least: a heap of nodes in a box. -/
section
namespace Go.Proofs.Ytlbkbodadkhogaa.X
open Go.RowKit Go.Proofs.YtlbkbodadkhogaaW.PrintWords Go.Proofs.YtlbkbodadkhogaaW.PrintLast Go.Proofs.YtlbkbodadkhogaaW.PrintMore
set_option linter.unusedVariables false
set_option linter.unusedSimpArgs false
def hswap.T0 : Bool × List (List Nat × List Nat) := (true, [([], []), ([], []), ([], []), ([], []), ([], []), ([], []), ([4, 5], [4, 5]), ([6], [6]), ([], []), ([], []), ([8, 9], [8, 9]), ([10], [10]), ([0, 1, 0, 1, 4, 5, 6, 7, 11], [0, 1]), ([12, 7, 0, 1, 4, 5, 6, 7, 11], [7, 12]), ([2, 3, 0, 1, 2, 3, 4, 5, 6, 7, 8, 9, 10, 11, 12, 13], [2, 3]), ([14, 11, 13, 0, 1, 2, 3, 4, 5, 6, 7, 8, 9, 10, 11, 12, 13], [11, 14])])
def hswap.B0 : List Nat := [0, 0, 0, 0, 0, 0, 48, 112, 0, 0, 768, 1792, 4083, 8179, 16383, 32767]
theorem hswap.tab0 : rtab .any (opsOf Try.f79 0) = hswap.T0 := by kernel_rfl
theorem hswap.bits0 : waitsOk hswap.T0.2 hswap.B0 = true := by kernel_rfl
/-- The numbers in a row of the call's own. -/
abbrev OwnI (w : World) (base : Nat) (v : Value) (L : List Int) : Prop := w.ownsRow base 3 1 v L.length (nums .i64 L)
theorem OwnI.form {w : World} {base : Nat} {v : Value} {L : List Int} (h : OwnI w base v L) (hp : 0 < L.length) : ∃ b cap, v = .slice (some ⟨b, 0, none⟩) L.length cap ∧ w.heap[b]?.isSome = true := by
  obtain ⟨g, cap, rfl, h1, h2⟩ := World.ownsRow.form h hp
  refine ⟨g, cap, rfl, ?_⟩
  obtain ⟨cells, hc⟩ := own_typed h g rfl
  rw [hc]; rfl
set_option maxHeartbeats 4000000 in
set_option maxRecDepth 100000 in
theorem hlen (w : World) (base : Nat) (v : Value) (L : List Int) (H : OwnI w base v L) : Calls Try.prog 32 #[v] w fun e w' => e = .returned (.int .i64 L.length) ∧ w' = w := by
  obtain ⟨A, c, rfl⟩ := own_slice H
  go_enter Try.func32, Try.ntmps32
  go_wp2
  go_ret
  exact ⟨rfl, rfl⟩
set_option maxHeartbeats 4000000 in
set_option maxRecDepth 100000 in
theorem hless (w : World) (base : Nat) (v : Value) (L : List Int) (i j : Int) (H : OwnI w base v L) (i0 : 0 ≤ i) (i1 : i < L.length) (j0 : 0 ≤ j) (j1 : j < L.length) : Calls Try.prog 76 #[v, .int .i64 i, .int .i64 j] w fun e w' => e = .returned (.bool (decide (rd L i < rd L j))) ∧ Below w.heap.size w w' := by
  obtain ⟨b, cap, rfl, hb⟩ := OwnI.form H (by omega)
  obtain ⟨ha, hf⟩ := own_at H i i0 i1
  obtain ⟨hc, hd⟩ := own_at H j j0 j1
  have HB := Aside0.mk (Below.refl w.heap.size w)
  clear hb H
  have p1 : (0 ≤ i) = True := eq_true i0
  have p2 : (i < (L.length : Int)) = True := eq_true i1
  have p3 : (0 ≤ j) = True := eq_true j0
  have p4 : (j < (L.length : Int)) = True := eq_true j1
  go_enter Try.func76, Try.ntmps76
  go_wp2
  repeat (go_quiet (fail); try go_wp2)
  go_ret
  exact ⟨rfl, by first | exact HB.out | exact HB.out.trans ⟨rfl, rfl, rfl, Nat.le_refl _, fun _ _ => rfl⟩ | go_grown⟩
set_option maxHeartbeats 4000000 in
set_option maxRecDepth 100000 in
theorem hswap (w : World) (base : Nat) (v : Value) (L : List Int) (i j : Int) (H : OwnI w base v L) (i0 : 0 ≤ i) (i1 : i < L.length) (j0 : 0 ≤ j) (j1 : j < L.length) : Calls Try.prog 79 #[v, .int .i64 i, .int .i64 j] w fun e w' => e = .returned (.tuple #[]) ∧ OwnI w' base v ((L.set i.toNat (rd L j)).set j.toNat (rd L i)) ∧ Keeps w w' (fun k => some k = v.ownBlock) := by
  obtain ⟨b, cap, rfl, hb⟩ := OwnI.form H (by omega)
  have HO := Aside0.mk H
  obtain ⟨ha, hf⟩ := own_at H i i0 i1
  obtain ⟨hc, hd⟩ := own_at H j j0 j1
  clear hb H
  have p1 : (0 ≤ i) = True := eq_true i0
  have p2 : (i < (L.length : Int)) = True := eq_true i1
  have p3 : (0 ≤ j) = True := eq_true j0
  have p4 : (j < (L.length : Int)) = True := eq_true j1
  go_enter Try.func79, Try.ntmps79
  go_wp2
  refine start_ (n := 16) (S := fun w' => w'.cell? ⟨b, i.toNat, none⟩ = some (.int .i64 (rd L i)) ∧ w'.cell? ⟨b, j.toNat, none⟩ = some (.int .i64 (rd L j))) (ds := [13, 15]) #[false, false, false, false, false, false, false, false, false, false, false, false, false, false, false, false] (by kernel_rfl) rfl rfl ⟨ha, hc⟩ (fun hHeld => ?_)
  refine with_tabW hswap.tab0 hswap.bits0 (fun HT_ HW_ => ?_)
  refine pure_ (i := 0) (N := some 6) (v := ?_) (a' := ?_) #[true, false, false, false, false, false, false, false, false, false, false, false, false, false, false, false] rfl rfl (any_of HT_.out (by kernel_rfl)) (fun _ _ _ h => h) (Or.inl ⟨by rfl, ?_⟩) ?_ ?_
  rotate_left
  · intro w'
    go_simp
    first | done | with_reducible rfl
  rotate_left
  · simp only [Act.put, List.setIfInBounds_toArray, List.set_cons_zero, List.set_cons_succ, i64_w, i32_w]
    rfl
  refine pure_ (i := 1) (N := some 7) (v := ?_) (a' := ?_) #[true, true, false, false, false, false, false, false, false, false, false, false, false, false, false, false] rfl rfl (any_of HT_.out (by kernel_rfl)) (fun _ _ _ h => h) (Or.inl ⟨by rfl, ?_⟩) ?_ ?_
  rotate_left
  · intro w'
    go_simp
    first | done | with_reducible rfl
  rotate_left
  · simp only [Act.put, List.setIfInBounds_toArray, List.set_cons_zero, List.set_cons_succ, i64_w, i32_w]
    rfl
  refine pure_ (i := 2) (N := some 8) (v := ?_) (a' := ?_) #[true, true, true, false, false, false, false, false, false, false, false, false, false, false, false, false] rfl rfl (any_of HT_.out (by kernel_rfl)) (fun _ _ _ h => h) (Or.inl ⟨by rfl, ?_⟩) ?_ ?_
  rotate_left
  · intro w'
    go_simp
    first | done | with_reducible rfl
  rotate_left
  · simp only [Act.put, List.setIfInBounds_toArray, List.set_cons_zero, List.set_cons_succ, i64_w, i32_w]
    rfl
  refine pure_ (i := 3) (N := some 9) (v := ?_) (a' := ?_) #[true, true, true, true, false, false, false, false, false, false, false, false, false, false, false, false] rfl rfl (any_of HT_.out (by kernel_rfl)) (fun _ _ _ h => h) (Or.inl ⟨by rfl, ?_⟩) ?_ ?_
  rotate_left
  · intro w'
    go_simp
    first | done | with_reducible rfl
  rotate_left
  · simp only [Act.put, List.setIfInBounds_toArray, List.set_cons_zero, List.set_cons_succ, i64_w, i32_w]
    rfl
  refine pure_ (i := 4) (N := some 10) (v := ?_) (a' := ?_) #[true, true, true, true, true, false, false, false, false, false, false, false, false, false, false, false] rfl rfl (any_of HT_.out (by kernel_rfl)) (fun _ _ _ h => h) (Or.inl ⟨by rfl, ?_⟩) ?_ ?_
  rotate_left
  · intro w'
    go_simp
    first | done | with_reducible rfl
  rotate_left
  · simp only [Act.put, List.setIfInBounds_toArray, List.set_cons_zero, List.set_cons_succ, i64_w, i32_w]
    rfl
  refine pure_ (i := 5) (N := some 11) (v := ?_) (a' := ?_) #[true, true, true, true, true, true, false, false, false, false, false, false, false, false, false, false] rfl rfl (any_of HT_.out (by kernel_rfl)) (fun _ _ _ h => h) (Or.inl ⟨by rfl, ?_⟩) ?_ ?_
  rotate_left
  · intro w'
    go_simp
    first | done | with_reducible rfl
  rotate_left
  · simp only [Act.put, List.setIfInBounds_toArray, List.set_cons_zero, List.set_cons_succ, i64_w, i32_w]
    rfl
  refine pure_ (i := 6) (N := some 12) (v := ?_) (a' := ?_) #[true, true, true, true, true, true, true, false, false, false, false, false, false, false, false, false] rfl rfl (any_of HT_.out (by kernel_rfl)) (fun _ _ _ h => h) (Or.inl ⟨by rfl, ?_⟩) ?_ ?_
  rotate_left
  · intro w'
    go_simp
    first | done | with_reducible rfl
  rotate_left
  · simp only [Act.put, List.setIfInBounds_toArray, List.set_cons_zero, List.set_cons_succ, i64_w, i32_w]
    rfl
  refine pure_ (i := 8) (N := some 14) (v := ?_) (a' := ?_) #[true, true, true, true, true, true, true, false, true, false, false, false, false, false, false, false] rfl rfl (any_of HT_.out (by kernel_rfl)) (fun _ _ _ h => h) (Or.inl ⟨by rfl, ?_⟩) ?_ ?_
  rotate_left
  · intro w'
    go_simp
    first | done | with_reducible rfl
  rotate_left
  · simp only [Act.put, List.setIfInBounds_toArray, List.set_cons_zero, List.set_cons_succ, i64_w, i32_w]
    rfl
  refine pure_ (i := 9) (N := some 15) (v := ?_) (a' := ?_) #[true, true, true, true, true, true, true, false, true, true, false, false, false, false, false, false] rfl rfl (any_of HT_.out (by kernel_rfl)) (fun _ _ _ h => h) (Or.inl ⟨by rfl, ?_⟩) ?_ ?_
  rotate_left
  · intro w'
    go_simp
    first | done | with_reducible rfl
  rotate_left
  · simp only [Act.put, List.setIfInBounds_toArray, List.set_cons_zero, List.set_cons_succ, i64_w, i32_w]
    rfl
  refine pure_ (i := 10) (N := some 16) (v := ?_) (a' := ?_) #[true, true, true, true, true, true, true, false, true, true, true, false, false, false, false, false] rfl rfl (any_of HT_.out (by kernel_rfl)) (fun _ _ _ h => h) (Or.inl ⟨by rfl, ?_⟩) ?_ ?_
  rotate_left
  · intro w'
    go_simp
    first | done | with_reducible rfl
  rotate_left
  · simp only [Act.put, List.setIfInBounds_toArray, List.set_cons_zero, List.set_cons_succ, i64_w, i32_w]
    rfl
  refine take_ (i := 7) (N := some 13) (v := ?_) (a' := ?_) #[true, true, true, true, true, true, true, true, true, true, true, false, false, false, false, false] rfl rfl (take_ofW HT_.out HW_.out (by kernel_rfl)) (fun _ _ _ h => h) (Or.inl ⟨by rfl, ?_⟩) hHeld ?_ ?_
  rotate_left
  · rintro w' ⟨s0, s1⟩
    go_simp
    first | done | with_reducible rfl
  rotate_left
  · simp only [Act.put, List.setIfInBounds_toArray, List.set_cons_zero, List.set_cons_succ, i64_w, i32_w]
    rfl
  refine take_ (i := 11) (N := some 17) (v := ?_) (a' := ?_) #[true, true, true, true, true, true, true, true, true, true, true, true, false, false, false, false] rfl rfl (take_ofW HT_.out HW_.out (by kernel_rfl)) (fun _ _ _ h => h) (Or.inl ⟨by rfl, ?_⟩) hHeld ?_ ?_
  rotate_left
  · rintro w' ⟨s0, s1⟩
    go_simp
    first | done | with_reducible rfl
  rotate_left
  · simp only [Act.put, List.setIfInBounds_toArray, List.set_cons_zero, List.set_cons_succ, i64_w, i32_w]
    rfl
  refine pure_ (i := 12) (N := some 18) (v := ?_) (a' := ?_) #[true, true, true, true, true, true, true, true, true, true, true, true, true, false, false, false] rfl rfl (any_of HT_.out (by kernel_rfl)) (fun _ _ _ h => h) (Or.inl ⟨by rfl, ?_⟩) ?_ ?_
  rotate_left
  · intro w'
    go_simp
    first | done | with_reducible rfl
  rotate_left
  · simp only [Act.put, List.setIfInBounds_toArray, List.set_cons_zero, List.set_cons_succ, i64_w, i32_w]
    rfl
  refine last_ (i := 13) (N := none) #[true, true, true, true, true, true, true, true, true, true, true, true, true, true, false, false] rfl rfl (one_of HT_.out (by kernel_rfl)) (by decide) (fun K hK => ?_)
  refine skip_ (w1 := ?_) (by rfl) rfl ?_ ?_
  rotate_left
  · go_simp
    rfl
  obtain ⟨w1, hw1⟩ : ∃ w1 : World, w1 = (w.setCell ⟨b, i.toNat, none⟩ (.int .i64 (rd L j))).drew := ⟨_, rfl⟩
  rw [← hw1]
  have O1 : Aside0 (OwnI w1 base (.slice (some ⟨b, 0, none⟩) (L.set i.toNat (rd L j)).length cap) (L.set i.toNat (rd L j))) := ⟨by rw [hw1, List.length_set]; exact own_drew (own_put HO.out i (rd L j))⟩
  have K1 : Aside0 (Keeps w w1 (fun k => k = b)) := ⟨by rw [hw1]; exact ((Keeps.refl w (fun k => k = b)).setCell (p := ⟨b, i.toNat, none⟩) (.inl rfl) _).drew⟩
  clear hw1 ha hc hf hd
  obtain ⟨hc, hd⟩ := own_at (n := (L.set i.toNat (rd L j)).length) O1.out j j0 (by rw [List.length_set]; exact j1)
  refine hK.out _ _ ?_
  clear hK K
  refine pure_ (i := 14) (N := some 19) (v := ?_) (a' := ?_) #[true, true, true, true, true, true, true, true, true, true, true, true, true, true, true, false] rfl rfl (any_of HT_.out (by kernel_rfl)) (fun _ _ _ h => h) (Or.inl ⟨by rfl, ?_⟩) ?_ ?_
  rotate_left
  · intro w'
    go_simp
    first | done | with_reducible rfl
  rotate_left
  · simp only [Act.put, List.setIfInBounds_toArray, List.set_cons_zero, List.set_cons_succ, i64_w, i32_w]
    rfl
  refine last_ (i := 15) (N := none) #[true, true, true, true, true, true, true, true, true, true, true, true, true, true, true, true] rfl rfl (one_of HT_.out (by kernel_rfl)) (by decide) (fun K hK => ?_)
  refine skip_ (w1 := ?_) (by rfl) rfl ?_ ?_
  rotate_left
  · go_simp
    rfl
  refine hK.out _ _ ?_
  clear hK K
  refine done_ (done_of HT_.out (by kernel_rfl)) ?_
  go_end0
  refine ⟨rfl, ?_, (K1.out.setCell (p := ⟨b, j.toNat, none⟩) (.inl rfl) _).mono (fun k hk => by rw [hk]; rfl)⟩
  have := own_put O1.out j (rd L i)
  rwa [List.length_set] at this
theorem ta_int (x : Int) (w : World) : (Instr.typeAssert (Value.iface 3 (Value.int .i64 x)) 20 3 true).run Try.prog w = .ok (.tuple #[.int .i64 x, .bool true]) w := by kernel_rfl
set_option maxHeartbeats 4000000 in
set_option maxRecDepth 100000 in
theorem hpush (w : World) (base g : Nat) (v : Value) (L : List Int) (x : Int) (H1 : One w g 50 v) (H : OwnI w base v L) (hb : base ≤ w.heap.size) (hl : L.length ≤ 100000) : Calls Try.prog 78 #[.pointer (some ⟨g, 0, none⟩), .iface 3 (.int .i64 x)] w fun e w' => e = .returned (.tuple #[]) ∧ (∃ v', One w' g 50 v' ∧ OwnI w' base v' (L ++ [x]) ∧ (v'.ownBlock = v.ownBlock ∨ ∃ b, v'.ownBlock = some b ∧ w.heap.size ≤ b)) ∧ Keeps w w' (fun k => k = g ∨ some k = v.ownBlock) := by
  have H1' := Aside0.mk H1
  have HO := Aside0.mk H
  have HN := Aside0.mk (own_ne H H1 (by decide))
  have HL := Aside0.mk hl
  have HB := Aside0.mk hb
  have hc := H1.cell
  have hf := H1.frozen
  clear H1 H hl hb
  have hta := ta_int x
  go_enter Try.func78, Try.ntmps78
  go_wp2_with (first | (at_builtin; refine print_append_num (w0 := w) base rfl (.tmp 15) (.tmp 17) 50 3 .i64 8 rfl Try.underlying50 info3 (by decide) v L x rfl rfl HO.out (Below.refl _ _) HB.out (by have := HL.out; omega) ?_; intro v1 w1 ho hbel hg hat; obtain ⟨A1, c1, rfl⟩ := own_slice ho; have O1 := Aside0.mk ho; have G1 := Aside0.mk (H1'.out.grown hg HN.out); have K1 := Aside0.mk ((Keeps.refl w (fun k => k = g ∨ some k = v.ownBlock)).grown hg (fun k hk => .inl (.inr hk.symm))); have A1' := Aside0.mk hat; have hc1 := G1.out.cell; have hf1 := G1.out.frozen; clear ho hbel hg hat))
  go_end0
  exact ⟨rfl, ⟨_, G1.out.set _, by have hz := own_setCell (p := ⟨g, 0, none⟩) O1.out (own_ne (g := g) O1.out G1.out (by decide)) (.slice A1 (L ++ [x]).length c1); unfold OwnI; simpa using hz, by simpa using A1'.out⟩, K1.out.setCell (p := ⟨g, 0, none⟩) (.inl (.inl rfl)) _⟩
theorem inf3 : ∃ i, Try.prog.info? 3 = some i ∧ i.size = 1 := by
  have h := info3
  cases hi : Try.prog.info? 3 with
  | none => rw [hi] at h; cases h
  | some i => rw [hi] at h; simp at h; exact ⟨i, rfl, h.2.1⟩
set_option maxHeartbeats 4000000 in
set_option maxRecDepth 100000 in
theorem hpop (w : World) (base g : Nat) (v : Value) (L : List Int) (x : Int) (H1 : One w g 50 v) (H : OwnI w base v (L ++ [x])) (hb : base ≤ w.heap.size) (hl : L.length ≤ 100000) : Calls Try.prog 77 #[.pointer (some ⟨g, 0, none⟩)] w fun e w' => e = .returned (.iface 3 (.int .i64 x)) ∧ (∃ v', One w' g 50 v' ∧ OwnI w' base v' L ∧ v'.ownBlock = v.ownBlock) ∧ Keeps w w' (fun k => k = g) := by
  have H1' := Aside0.mk H1
  have HN := Aside0.mk (own_ne H H1 (by decide))
  obtain ⟨b, cap, rfl, hbs⟩ := OwnI.form H (by simp)
  have hc := H1.cell
  have hf := H1.frozen
  obtain ⟨M, hM⟩ : ∃ M, M = L ++ [x] := ⟨_, rfl⟩
  obtain ⟨j, hj⟩ : ∃ j : Int, j = L.length := ⟨_, rfl⟩
  have hel : M.length = L.length + 1 := by rw [hM]; simp
  rw [← hM] at H hc H1'
  have HO := Aside0.mk H
  have e1 : IntKind.i64.wrap ((M.length : Int) - 1) = j := by
    rw [i64_w, hel, hj]; unfold wrap64; omega
  have e2 : wrap64 ((M.length : Int) - 1) = j := by rw [hel, hj]; unfold wrap64; omega
  obtain ⟨hx1, hx2⟩ := own_at H j (by omega) (by omega)
  have hrd : rd M j = x := by rw [hM, hj]; simp [rd]
  rw [hrd] at hx1
  have p1 : (0 ≤ j) = True := eq_true (by omega)
  have p2 : (j < (M.length : Int)) = True := eq_true (by omega)
  obtain ⟨i3, hi3, hs3⟩ := inf3
  obtain ⟨htk, _⟩ := print_take_int (P := Try.prog) (k := .i64) 50 3 Try.underlying50 hi3 hs3 (some ⟨b, 0, none⟩) cap M j (by omega) (by omega) (own_cap H)
  have het : M.take j.toNat = L := by rw [hM, hj]; simp
  rw [het] at htk
  have HE := Aside0.mk hel
  have HM := Aside0.mk hM
  clear H1 H hl hb hbs hel hM hj hrd het
  go_enter Try.func77, Try.ntmps77
  go_wp2
  go_ret
  have ht := own_take (m := L.length) HO.out (by rw [HE.out]; omega)
  have hn : (nums .i64 M).take (L.length * 1) = nums .i64 L := by rw [HM.out]; simp [nums]
  rw [hn] at ht
  exact ⟨rfl, ⟨_, H1'.out.set _, own_setCell (p := ⟨g, 0, none⟩) ht (own_ne (g := g) ht H1'.out (by decide)) _, rfl⟩, (Keeps.refl w (fun k => k = g)).setCell (p := ⟨g, 0, none⟩) (.inl rfl) _⟩
end Go.Proofs.Ytlbkbodadkhogaa.X
end

/- The methods of *graph.least through an interface: which function a call enters. Lemmas. -/
section
namespace Go.Proofs.Ytlbkbodadkhogaa.X
open Go.RowKit Go.Proofs.YtlbkbodadkhogaaW.PrintWords Go.Proofs.YtlbkbodadkhogaaW.PrintLast Go.Proofs.YtlbkbodadkhogaaW.PrintMore
set_option maxRecDepth 100000
theorem wnc (a : Addr) (w : World) (nm : String) : (Builtin.ssaWrapNilChk_ #[49] 49 #[.pointer (some a), strVal "", strVal nm]).run Try.prog w = .ok (.pointer (some a)) w := rfl
theorem recv49 (nm : String) (w : World) (g : Nat) (v : Value) (h : w.cell? ⟨g, 0, none⟩ = some v) : (receiverAt 49 (.val (.pointer (some ⟨g, 0, none⟩))) false (some nm)).run Try.prog w = .ok v w := by
  have ht : (underlying 49).run Try.prog w = .ok (.pointer 50) w := by kernel_rfl
  have h50 : (isAgg 50).run Try.prog w = .ok false w := by kernel_rfl
  have hl : (load ⟨g, 0, none⟩).run Try.prog w = .ok v w := by simp [go_sem, h]
  unfold receiverAt
  rw [Sem.run_bind, ht, Result.andThen_ok]
  simp only [Place.get]
  rw [Sem.run_bind, Sem.run_pure, Result.andThen_ok, Sem.run_bind, wnc, Result.andThen_ok]
  simp only [asAddr]
  unfold loadVar
  rw [Sem.run_bind, Sem.run_pure, Result.andThen_ok, Sem.run_bind, h50, Result.andThen_ok]
  exact hl
theorem info49 : ∃ i, Try.prog.info? 49 = some i := by
  cases h : Try.prog.info? 49 with
  | none => have : (Try.prog.info? 49).isSome = true := by kernel_rfl
            rw [h] at this; cases this
  | some i => exact ⟨i, rfl⟩
theorem meth_row (name : String) (f : FuncId) (w : World) (g : Nat) (v : Value) (i : TypeInfo) (hi : Try.prog.info? 49 = some i) (m : Method) (hm : i.methods.find? (fun x => x.name == name) = some m) (hp : m.path = #[]) (hf : m.func = some (f, false)) (h : w.cell? ⟨g, 0, none⟩ = some v) : (method (Try.prog.types.size + Made.depth) 49 (.pointer (some ⟨g, 0, none⟩)) name).run Try.prog w = .ok (f, v) w := by
  have hn : Try.prog.types.size + Made.depth = (Try.prog.types.size + (Made.depth - 1)) + 1 := by decide
  have hti : (typeInfo 49).run Try.prog w = .ok i w := by
    unfold typeInfo
    simp [go_sem, hi]
  rw [hn]
  unfold method
  rw [Sem.run_bind, hti, Result.andThen_ok]
  simp only [hm, hp, hf]
  rw [Sem.run_bind]
  simp only [follow]
  rw [Sem.run_pure, Result.andThen_ok]
  simp only []
  rw [Sem.run_bind]
  have := recv49 ((name.splitOn ".").getLastD name) w g v h
  simp only [Array.isEmpty_empty, if_true]
  rw [this]; rfl
theorem meth49 (name : String) (f : FuncId) (hx : (Try.prog.info? 49).map (fun i => (i.methods.find? (fun x => x.name == name)).map fun m => (m.path.toList.length, m.func)) = some (some (0, some (f, false)))) (w : World) (g : Nat) (v : Value) (h : w.cell? ⟨g, 0, none⟩ = some v) : (method (Try.prog.types.size + Made.depth) 49 (.pointer (some ⟨g, 0, none⟩)) name).run Try.prog w = .ok (f, v) w := by
  obtain ⟨i, hi⟩ := info49
  rw [hi] at hx
  cases hm : i.methods.find? (fun x => x.name == name) with
  | none => simp [hm] at hx
  | some m =>
    simp [hm] at hx
    exact meth_row name f w g v i hi m hm (by simpa using hx.1) hx.2 h
theorem meth_len : ∀ (w : World) (g : Nat) (v : Value), w.cell? ⟨g, 0, none⟩ = some v → (method (Try.prog.types.size + Made.depth) 49 (.pointer (some ⟨g, 0, none⟩)) "Len").run Try.prog w = .ok (32, v) w := meth49 "Len" 32 (by kernel_rfl)
theorem meth_less : ∀ (w : World) (g : Nat) (v : Value), w.cell? ⟨g, 0, none⟩ = some v → (method (Try.prog.types.size + Made.depth) 49 (.pointer (some ⟨g, 0, none⟩)) "Less").run Try.prog w = .ok (76, v) w := meth49 "Less" 76 (by kernel_rfl)
theorem meth_swap : ∀ (w : World) (g : Nat) (v : Value), w.cell? ⟨g, 0, none⟩ = some v → (method (Try.prog.types.size + Made.depth) 49 (.pointer (some ⟨g, 0, none⟩)) "Swap").run Try.prog w = .ok (79, v) w := meth49 "Swap" 79 (by kernel_rfl)
end Go.Proofs.Ytlbkbodadkhogaa.X
end

/- Contracts of container/heap over graph.least. -/
section
namespace Go.Proofs.Ytlbkbodadkhogaa.X
open Go.RowKit Go.Proofs.YtlbkbodadkhogaaW.PrintWords Go.Proofs.YtlbkbodadkhogaaW.PrintLast Go.Proofs.YtlbkbodadkhogaaW.PrintMore
set_option linter.unusedVariables false
set_option linter.unusedSimpArgs false
theorem fuel207 : Try.prog.types.size + Made.depth = 207 := by kernel_rfl
theorem m_len (w : World) (g : Nat) (v : Value) (h : w.cell? ⟨g, 0, none⟩ = some v) : (method 207 49 (.pointer (some ⟨g, 0, none⟩)) "Len").run Try.prog w = .ok (32, v) w := fuel207 ▸ meth_len w g v h
theorem m_less (w : World) (g : Nat) (v : Value) (h : w.cell? ⟨g, 0, none⟩ = some v) : (method 207 49 (.pointer (some ⟨g, 0, none⟩)) "Less").run Try.prog w = .ok (76, v) w := fuel207 ▸ meth_less w g v h
theorem m_swap (w : World) (g : Nat) (v : Value) (h : w.cell? ⟨g, 0, none⟩ = some v) : (method 207 49 (.pointer (some ⟨g, 0, none⟩)) "Swap").run Try.prog w = .ok (79, v) w := fuel207 ▸ meth_swap w g v h
def swp (L : List Int) (i j : Int) : List Int := (L.set i.toNat (rd L j)).set j.toNat (rd L i)
theorem swp_len (L : List Int) (i j : Int) : (swp L i j).length = L.length := by unfold swp; rw [List.length_set, List.length_set]
/-- heap.up: the node at j goes up while it is less than the one above. -/
def upF (L : List Int) (j : Nat) : List Int :=
  if h : 0 < j ∧ rd L j < rd L ((j - 1) / 2 : Nat) then upF (swp L ((j - 1) / 2 : Nat) j) ((j - 1) / 2) else L
termination_by j
decreasing_by omega
set_option maxHeartbeats 4000000 in
set_option maxRecDepth 100000 in
theorem heap_up (w : World) (base g : Nat) (v : Value) (L : List Int) (j : Nat) (H1 : One w g 50 v) (H : OwnI w base v L) (hj : j < L.length) (hl : L.length ≤ 100000) : Calls Try.prog 40 #[.iface 49 (.pointer (some ⟨g, 0, none⟩)), .int .i64 j] w fun e w' => e = .returned (.tuple #[]) ∧ One w' g 50 v ∧ OwnI w' base v (upF L j) ∧ Keeps w w' (fun k => some k = v.ownBlock) := by
  have H1' := Aside0.mk H1
  have HN := Aside0.mk (own_ne H H1 (by decide))
  have HO := Aside0.mk H
  have HL := Aside0.mk hl
  clear H1 H hl
  go_enter Try.func40, Try.ntmps40
  go_wp2
  go_loopw [1] (fun v1 w' => ∃ (i : Nat) (M : List Int), i < L.length ∧ M.length = L.length ∧ v1 = .int .i64 (i : Int) ∧ Aside0 (upF M i = upF L j) ∧ Aside0 (One w' g 50 v) ∧ Aside0 (OwnI w' base v M) ∧ Aside0 (Keeps w w' (fun k => some k = v.ownBlock))) (fun v1 _ => (intOf v1).toNat)
  · exact ⟨j, L, hj, rfl, rfl, ⟨rfl⟩, H1', HO, ⟨Keeps.refl w _⟩⟩
  · clear HO H1'
    obtain ⟨i, M, hi, hML, rfl, HE, HG, HM, HK⟩ := hrel
    have hc := HG.out.cell
    have HI := Aside0.mk hi
    have HML := Aside0.mk hML
    clear hi hML
    rcases Nat.eq_zero_or_pos i with rfl | hip
    · go_wp2
      go_end0
      refine ⟨rfl, HG.out, ?_, HK.out⟩
      rw [← HE.out]
      have : upF M 0 = M := by unfold upF; rw [dif_neg (by omega)]
      rw [this]; exact HM.out
    · obtain ⟨p, hp⟩ : ∃ p : Nat, p = (i - 1) / 2 := ⟨_, rfl⟩
      have hpi : p < i := by omega
      have e0 : wrap64 ((i : Int) - 1) = ((i - 1 : Nat) : Int) := by unfold wrap64; have := HI.out; have := HL.out; omega
      have e1 : wrap64 (((i - 1 : Nat) : Int) / 2) = (p : Int) := by unfold wrap64; have := HI.out; have := HL.out; omega
      have e2 : ((p : Int) = (i : Int)) = False := eq_false (by omega)
      have e3 : ((p : Int) == (i : Int)) = false := by rw [beq_eq_false_iff_ne]; omega
      have hml := m_less wr g v hc
      clear hc
      have hup : upF M i = if rd M i < rd M p then upF (swp M p i) p else M := by
        rw [hp]
        conv => lhs; unfold upF
        by_cases c : rd M i < rd M ((i - 1) / 2 : Nat)
        · rw [dif_pos ⟨hip, c⟩, if_pos c]
        · rw [dif_neg (fun h => c h.2), if_neg c]
      have HUP := Aside0.mk hup
      have HPI := Aside0.mk hpi
      clear hup hp hip hpi
      by_cases c : rd M i < rd M p
      · have c1 : decide (rd M i < rd M p) = true := decide_eq_true c
        go_wp2_with (go_at_call 76; refine (hless wr base v M i p HM.out (by omega) (by have := HI.out; have := HML.out; omega) (by omega) (by have := HI.out; have := HML.out; have := HPI.out; omega)).mono ?_; rintro e w2 ⟨rfl, hb⟩; have G2 := Aside0.mk (HG.out.below hb); have M2 : Aside0 (OwnI w2 base v M) := ⟨pw_own_below HM.out hb⟩; have K2 := Aside0.mk (HK.out.below hb); clear hb hml; have hms := m_swap w2 g v G2.out.cell)
        go_wp2_with (go_at_call 79; refine (hswap w2 base v M p i M2.out (by omega) (by have := HI.out; have := HML.out; have := HPI.out; omega) (by omega) (by have := HI.out; have := HML.out; omega)).mono ?_; rintro e w3 ⟨rfl, ho, hk⟩; have G3 := Aside0.mk (G2.out.keeps hk HN.out); have M3 : Aside0 (OwnI w3 base v (swp M p i)) := ⟨ho⟩; have K3 := Aside0.mk (K2.out.then_ hk (fun _ h => .inl h)); clear ho hk hms)
        refine ⟨⟨p, swp M p i, by have := HI.out; have := HPI.out; omega, by rw [swp_len]; exact HML.out, rfl, ⟨by rw [← HE.out, HUP.out, if_pos c]⟩, G3, M3, K3⟩, ?_⟩
        have := HPI.out
        show ((p : Int)).toNat < ((i : Int)).toNat
        omega
      · have c1 : decide (rd M i < rd M p) = false := decide_eq_false c
        go_wp2_with (go_at_call 76; refine (hless wr base v M i p HM.out (by omega) (by have := HI.out; have := HML.out; omega) (by omega) (by have := HI.out; have := HML.out; have := HPI.out; omega)).mono ?_; rintro e w2 ⟨rfl, hb⟩; have G2 := Aside0.mk (HG.out.below hb); have M2 : Aside0 (OwnI w2 base v M) := ⟨pw_own_below HM.out hb⟩; have K2 := Aside0.mk (HK.out.below hb); clear hb hml)
        go_end0
        exact ⟨rfl, G2.out, by rw [← HE.out, HUP.out, if_neg (by omega)]; exact M2.out, K2.out⟩
end Go.Proofs.Ytlbkbodadkhogaa.X
end

/- Contracts of container/heap over graph.least: Push. -/
section
namespace Go.Proofs.Ytlbkbodadkhogaa.X
open Go.RowKit Go.Proofs.YtlbkbodadkhogaaW.PrintWords Go.Proofs.YtlbkbodadkhogaaW.PrintLast Go.Proofs.YtlbkbodadkhogaaW.PrintMore
set_option linter.unusedVariables false
set_option linter.unusedSimpArgs false
set_option maxHeartbeats 4000000 in
set_option maxRecDepth 100000 in
theorem heap_push (w : World) (base g : Nat) (v : Value) (L : List Int) (x : Int) (H1 : One w g 50 v) (H : OwnI w base v L) (hb : base ≤ w.heap.size) (hl : L.length ≤ 90000) : Calls Try.prog 31 #[.iface 49 (.pointer (some ⟨g, 0, none⟩)), .iface 3 (.int .i64 x)] w fun e w' => e = .returned (.tuple #[]) ∧ (∃ v', One w' g 50 v' ∧ OwnI w' base v' (upF (L ++ [x]) L.length) ∧ (v'.ownBlock = v.ownBlock ∨ ∃ b, v'.ownBlock = some b ∧ w.heap.size ≤ b)) ∧ Keeps w w' (fun k => k = g ∨ some k = v.ownBlock) := by
  have H1' := Aside0.mk H1
  have HO := Aside0.mk H
  have HL := Aside0.mk hl
  have HB := Aside0.mk hb
  clear H1 H hl hb
  have e1 : wrap64 (((L ++ [x]).length : Int) - 1) = (L.length : Int) := by rw [List.length_append]; unfold wrap64; have := HL.out; simp; omega
  obtain ⟨M, hM⟩ : ∃ M, M = L ++ [x] := ⟨_, rfl⟩
  rw [← hM] at e1 ⊢
  have HM := Aside0.mk hM
  clear hM
  go_enter Try.func31, Try.ntmps31
  go_wp2_with (go_at_call 78; refine (hpush w base g v L x H1'.out HO.out HB.out (by have := HL.out; omega)).mono ?_; rintro e w2 ⟨rfl, ⟨v2, h1, h2, h3⟩, hk⟩; have B2 := Aside0.mk h3; have G2 := Aside0.mk h1; have O2 : Aside0 (OwnI w2 base v2 M) := ⟨by rw [HM.out]; exact h2⟩; have K2 := Aside0.mk hk; clear h1 h2 h3 hk; have hml := m_len w2 g v2 G2.out.cell)
  go_wp2_with (go_at_call 32; refine (hlen w2 base v2 M O2.out).mono ?_; rintro e w3 ⟨rfl, rfl⟩)
  go_wp2_with (go_at_call 40; refine (heap_up _ base g v2 M L.length G2.out O2.out (by rw [HM.out]; simp) (by rw [HM.out]; have := HL.out; simp; omega)).mono ?_; rintro e w4 ⟨rfl, h1, h2, hk⟩; have G3 := Aside0.mk h1; have O3 := Aside0.mk h2; have K3 := Aside0.mk (K2.out.then_ hk (fun k h => B2.out.elim (fun q => .inl (.inr (h.trans q))) (fun ⟨b, q1, q2⟩ => .inr (by rw [q1] at h; cases h; exact q2)))); clear h1 h2 hk)
  go_end0
  exact ⟨rfl, ⟨_, G3.out, O3.out, B2.out⟩, K3.out⟩
end Go.Proofs.Ytlbkbodadkhogaa.X
end

/- Contracts of container/heap over graph.least: down, Pop. -/
section
namespace Go.Proofs.Ytlbkbodadkhogaa.X
open Go.RowKit Go.Proofs.YtlbkbodadkhogaaW.PrintWords Go.Proofs.YtlbkbodadkhogaaW.PrintLast Go.Proofs.YtlbkbodadkhogaaW.PrintMore
set_option linter.unusedVariables false
set_option linter.unusedSimpArgs false
/-- The lesser child of i among the first n. -/
def kid (L : List Int) (n i : Nat) : Nat := if 2 * i + 2 < n ∧ rd L (2 * i + 2 : Nat) < rd L (2 * i + 1 : Nat) then 2 * i + 2 else 2 * i + 1
theorem kid_gt (L : List Int) (n i : Nat) : i < kid L n i := by unfold kid; split <;> omega
theorem kid_lt (L : List Int) (n i : Nat) (h : 2 * i + 1 < n) : kid L n i < n := by unfold kid; split <;> omega
/-- heap.down: the node at i goes down while a child is less. -/
def downF (L : List Int) (n i : Nat) : List Int :=
  if h : 2 * i + 1 < n ∧ rd L (kid L n i : Nat) < rd L i then downF (swp L i (kid L n i : Nat)) n (kid L n i) else L
termination_by n - i
decreasing_by have := kid_gt L n i; have := kid_lt L n i h.1; omega
theorem downF_stop {L : List Int} {n i : Nat} (h : ¬ (2 * i + 1 < n ∧ rd L (kid L n i : Nat) < rd L i)) : downF L n i = L := by unfold downF; rw [dif_neg h]
theorem downF_step {L : List Int} {n i : Nat} (h : 2 * i + 1 < n ∧ rd L (kid L n i : Nat) < rd L i) : downF L n i = downF (swp L i (kid L n i : Nat)) n (kid L n i) := by
  conv => lhs; unfold downF
  rw [dif_pos h]
set_option maxHeartbeats 20000000 in
set_option maxRecDepth 100000 in
theorem heap_down (w : World) (base g : Nat) (v : Value) (L : List Int) (i0 n : Nat) (H1 : One w g 50 v) (H : OwnI w base v L) (hi : i0 ≤ n) (hn : n ≤ L.length) (hl : L.length ≤ 100000) : Calls Try.prog 41 #[.iface 49 (.pointer (some ⟨g, 0, none⟩)), .int .i64 i0, .int .i64 n] w fun e w' => (∃ b, e = .returned (.bool b)) ∧ One w' g 50 v ∧ OwnI w' base v (downF L n i0) ∧ Keeps w w' (fun k => some k = v.ownBlock) := by
  have H1' := Aside0.mk H1
  have HN := Aside0.mk (own_ne H H1 (by decide))
  have HO := Aside0.mk H
  have HL := Aside0.mk hl
  have HNL := Aside0.mk hn
  clear H1 H hl hn
  go_enter Try.func41, Try.ntmps41
  go_wp2
  go_loopw [7] (fun v7 w' => ∃ (i : Nat) (M : List Int), i ≤ n ∧ M.length = L.length ∧ v7 = .int .i64 (i : Int) ∧ Aside0 (downF M n i = downF L n i0) ∧ Aside0 (One w' g 50 v) ∧ Aside0 (OwnI w' base v M) ∧ Aside0 (Keeps w w' (fun k => some k = v.ownBlock))) (fun v7 _ => n - (intOf v7).toNat)
  · exact ⟨i0, L, hi, rfl, rfl, ⟨rfl⟩, H1', HO, ⟨Keeps.refl w _⟩⟩
  · clear HO H1' hi
    obtain ⟨i, M, hi, hML, rfl, HE, HG, HM, HK⟩ := hrel
    have hc := HG.out.cell
    have HI := Aside0.mk hi
    have HML := Aside0.mk hML
    clear hi hML
    obtain ⟨q, hq⟩ : ∃ q : Int, q = ((2 * i + 1 : Nat) : Int) := ⟨_, rfl⟩
    obtain ⟨q2, hq2⟩ : ∃ q : Int, q = ((2 * i + 2 : Nat) : Int) := ⟨_, rfl⟩
    obtain ⟨d, hd⟩ : ∃ d : Int, d = 2 * (i : Int) := ⟨_, rfl⟩
    have e1 : wrap64 (2 * (i : Int)) = d := by unfold wrap64; have := HI.out; have := HL.out; have := HNL.out; omega
    have e2 : wrap64 (d + 1) = q := by unfold wrap64; have := HI.out; have := HL.out; have := HNL.out; omega
    have e3 : wrap64 (q + 1) = q2 := by unfold wrap64; have := HI.out; have := HL.out; have := HNL.out; omega
    have p0 : (0 ≤ q) = True := eq_true (by omega)
    have p00 : (q < 0) = False := eq_false (by omega)
    clear hd
    have HQ := Aside0.mk hq
    have HQ2 := Aside0.mk hq2
    by_cases c : 2 * i + 1 < n
    · have HC := Aside0.mk c
      have c0 : (q < (n : Int)) = True := eq_true (by omega)
      have c1 : ((n : Int) ≤ q) = False := eq_false (by omega)
      have hml := m_less wr g v hc
      clear hc
      by_cases d2 : q2 < (n : Int)
      · have d3 : (q2 < (n : Int)) = True := eq_true d2
        have HD := Aside0.mk d2
        by_cases y : rd M q2 < rd M q
        · have y1 : decide (rd M q2 < rd M q) = true := decide_eq_true y
          have HK2 : Aside0 (q2 = ((kid M n i : Nat) : Int)) := ⟨by unfold kid; rw [if_pos (by rw [← hq2, ← hq]; exact ⟨by omega, y⟩)]; exact hq2⟩
          clear hq hq2 c d2 y
          by_cases z : rd M q2 < rd M i
          · have z1 : decide (rd M q2 < rd M i) = true := decide_eq_true z
            have HZ := Aside0.mk z
            go_wp2_with (go_at_call 76; clear hml; refine (hless _ base v M q2 q HM.out (by have := HQ.out; have := HQ2.out; omega) (by have := HQ.out; have := HQ2.out; have := HI.out; have := HML.out; have := HNL.out; have := HC.out; have := HD.out; omega) (by have := HQ.out; have := HQ2.out; omega) (by have := HQ.out; have := HQ2.out; have := HI.out; have := HML.out; have := HNL.out; have := HC.out; omega)).mono ?_; rintro e w2 ⟨rfl, hb⟩; have G2 := Aside0.mk (HG.out.below hb); have M2 : Aside0 (OwnI w2 base v M) := ⟨pw_own_below HM.out hb⟩; have K2 := Aside0.mk (HK.out.below hb); clear hb; have hms := m_less w2 g v G2.out.cell)
            go_wp2_with (go_at_call 76; clear hms; refine (hless _ base v M q2 i M2.out (by have := HQ.out; have := HQ2.out; omega) (by have := HQ.out; have := HQ2.out; have := HI.out; have := HML.out; have := HNL.out; have := HC.out; have := HD.out; omega) (by have := HQ.out; have := HQ2.out; omega) (by have := HQ.out; have := HQ2.out; have := HI.out; have := HML.out; have := HNL.out; have := HC.out; omega)).mono ?_; rintro e w3 ⟨rfl, hb⟩; have G3 := Aside0.mk (G2.out.below hb); have M3 : Aside0 (OwnI w3 base v M) := ⟨pw_own_below M2.out hb⟩; have K3 := Aside0.mk (K2.out.below hb); clear hb; have hms := m_swap w3 g v G3.out.cell)
            go_wp2_with (go_at_call 79; refine (hswap w3 base v M i q2 M3.out (by omega) (by have := HI.out; have := HML.out; have := HNL.out; have := HC.out; omega) (by have := HQ.out; have := HQ2.out; omega) (by have := HQ.out; have := HQ2.out; have := HI.out; have := HML.out; have := HNL.out; have := HC.out; have := HD.out; omega)).mono ?_; rintro e w4 ⟨rfl, ho, hk⟩; have G4 := Aside0.mk (G3.out.keeps hk HN.out); have M4 : Aside0 (OwnI w4 base v (swp M i q2)) := ⟨ho⟩; have K4 := Aside0.mk (K3.out.then_ hk (fun _ h => .inl h)); clear ho hk hms)
            refine ⟨⟨kid M n i, swp M i (kid M n i : Nat), ?_, ?_, ?_, ?_, ?_, ?_, ?_⟩, ?_⟩
            · have := kid_lt M n i HC.out; omega
            · rw [swp_len]; exact HML.out
            · rw [HK2.out]
            · exact ⟨by rw [← HE.out, downF_step ⟨HC.out, by rw [← HK2.out]; exact HZ.out⟩]⟩
            · exact G4
            · rw [← HK2.out]; exact M4
            · exact K4
            · have := kid_gt M n i; have := kid_lt M n i HC.out; have := HK2.out
              show n - (q2 : Int).toNat < n - ((i : Int)).toNat
              omega
          · have z1 : decide (rd M q2 < rd M i) = false := decide_eq_false z
            have HZ := Aside0.mk z
            go_wp2_with (go_at_call 76; clear hml; refine (hless _ base v M q2 q HM.out (by have := HQ.out; have := HQ2.out; omega) (by have := HQ.out; have := HQ2.out; have := HI.out; have := HML.out; have := HNL.out; have := HC.out; have := HD.out; omega) (by have := HQ.out; have := HQ2.out; omega) (by have := HQ.out; have := HQ2.out; have := HI.out; have := HML.out; have := HNL.out; have := HC.out; omega)).mono ?_; rintro e w2 ⟨rfl, hb⟩; have G2 := Aside0.mk (HG.out.below hb); have M2 : Aside0 (OwnI w2 base v M) := ⟨pw_own_below HM.out hb⟩; have K2 := Aside0.mk (HK.out.below hb); clear hb; have hms := m_less w2 g v G2.out.cell)
            go_wp2_with (go_at_call 76; clear hms; refine (hless _ base v M q2 i M2.out (by have := HQ.out; have := HQ2.out; omega) (by have := HQ.out; have := HQ2.out; have := HI.out; have := HML.out; have := HNL.out; have := HC.out; have := HD.out; omega) (by have := HQ.out; have := HQ2.out; omega) (by have := HQ.out; have := HQ2.out; have := HI.out; have := HML.out; have := HNL.out; have := HC.out; omega)).mono ?_; rintro e w3 ⟨rfl, hb⟩; have G3 := Aside0.mk (G2.out.below hb); have M3 : Aside0 (OwnI w3 base v M) := ⟨pw_own_below M2.out hb⟩; have K3 := Aside0.mk (K2.out.below hb); clear hb; skip)
            go_ret
            exact ⟨⟨_, rfl⟩, G3.out, by rw [← HE.out, downF_stop (fun h => by have h2 := h.2; rw [← HK2.out] at h2; have := HZ.out; omega)]; exact M3.out, K3.out⟩
        · have y1 : decide (rd M q2 < rd M q) = false := decide_eq_false y
          have HK2 : Aside0 (q = ((kid M n i : Nat) : Int)) := ⟨by unfold kid; rw [if_neg (by rw [← hq2, ← hq]; exact fun h => y h.2)]; exact hq⟩
          clear hq hq2 c d2 y
          by_cases z : rd M q < rd M i
          · have z1 : decide (rd M q < rd M i) = true := decide_eq_true z
            have HZ := Aside0.mk z
            go_wp2_with (go_at_call 76; clear hml; refine (hless _ base v M q2 q HM.out (by have := HQ.out; have := HQ2.out; omega) (by have := HQ.out; have := HQ2.out; have := HI.out; have := HML.out; have := HNL.out; have := HC.out; have := HD.out; omega) (by have := HQ.out; have := HQ2.out; omega) (by have := HQ.out; have := HQ2.out; have := HI.out; have := HML.out; have := HNL.out; have := HC.out; omega)).mono ?_; rintro e w2 ⟨rfl, hb⟩; have G2 := Aside0.mk (HG.out.below hb); have M2 : Aside0 (OwnI w2 base v M) := ⟨pw_own_below HM.out hb⟩; have K2 := Aside0.mk (HK.out.below hb); clear hb; have hms := m_less w2 g v G2.out.cell)
            go_wp2_with (go_at_call 76; clear hms; refine (hless _ base v M q i M2.out (by have := HQ.out; have := HQ2.out; omega) (by have := HQ.out; have := HQ2.out; have := HI.out; have := HML.out; have := HNL.out; have := HC.out; have := HD.out; omega) (by have := HQ.out; have := HQ2.out; omega) (by have := HQ.out; have := HQ2.out; have := HI.out; have := HML.out; have := HNL.out; have := HC.out; omega)).mono ?_; rintro e w3 ⟨rfl, hb⟩; have G3 := Aside0.mk (G2.out.below hb); have M3 : Aside0 (OwnI w3 base v M) := ⟨pw_own_below M2.out hb⟩; have K3 := Aside0.mk (K2.out.below hb); clear hb; have hms := m_swap w3 g v G3.out.cell)
            go_wp2_with (go_at_call 79; refine (hswap w3 base v M i q M3.out (by omega) (by have := HI.out; have := HML.out; have := HNL.out; have := HC.out; omega) (by have := HQ.out; have := HQ2.out; omega) (by have := HQ.out; have := HQ2.out; have := HI.out; have := HML.out; have := HNL.out; have := HC.out; have := HD.out; omega)).mono ?_; rintro e w4 ⟨rfl, ho, hk⟩; have G4 := Aside0.mk (G3.out.keeps hk HN.out); have M4 : Aside0 (OwnI w4 base v (swp M i q)) := ⟨ho⟩; have K4 := Aside0.mk (K3.out.then_ hk (fun _ h => .inl h)); clear ho hk hms)
            refine ⟨⟨kid M n i, swp M i (kid M n i : Nat), ?_, ?_, ?_, ?_, ?_, ?_, ?_⟩, ?_⟩
            · have := kid_lt M n i HC.out; omega
            · rw [swp_len]; exact HML.out
            · rw [HK2.out]
            · exact ⟨by rw [← HE.out, downF_step ⟨HC.out, by rw [← HK2.out]; exact HZ.out⟩]⟩
            · exact G4
            · rw [← HK2.out]; exact M4
            · exact K4
            · have := kid_gt M n i; have := kid_lt M n i HC.out; have := HK2.out
              show n - (q : Int).toNat < n - ((i : Int)).toNat
              omega
          · have z1 : decide (rd M q < rd M i) = false := decide_eq_false z
            have HZ := Aside0.mk z
            go_wp2_with (go_at_call 76; clear hml; refine (hless _ base v M q2 q HM.out (by have := HQ.out; have := HQ2.out; omega) (by have := HQ.out; have := HQ2.out; have := HI.out; have := HML.out; have := HNL.out; have := HC.out; have := HD.out; omega) (by have := HQ.out; have := HQ2.out; omega) (by have := HQ.out; have := HQ2.out; have := HI.out; have := HML.out; have := HNL.out; have := HC.out; omega)).mono ?_; rintro e w2 ⟨rfl, hb⟩; have G2 := Aside0.mk (HG.out.below hb); have M2 : Aside0 (OwnI w2 base v M) := ⟨pw_own_below HM.out hb⟩; have K2 := Aside0.mk (HK.out.below hb); clear hb; have hms := m_less w2 g v G2.out.cell)
            go_wp2_with (go_at_call 76; clear hms; refine (hless _ base v M q i M2.out (by have := HQ.out; have := HQ2.out; omega) (by have := HQ.out; have := HQ2.out; have := HI.out; have := HML.out; have := HNL.out; have := HC.out; have := HD.out; omega) (by have := HQ.out; have := HQ2.out; omega) (by have := HQ.out; have := HQ2.out; have := HI.out; have := HML.out; have := HNL.out; have := HC.out; omega)).mono ?_; rintro e w3 ⟨rfl, hb⟩; have G3 := Aside0.mk (G2.out.below hb); have M3 : Aside0 (OwnI w3 base v M) := ⟨pw_own_below M2.out hb⟩; have K3 := Aside0.mk (K2.out.below hb); clear hb; skip)
            go_ret
            exact ⟨⟨_, rfl⟩, G3.out, by rw [← HE.out, downF_stop (fun h => by have h2 := h.2; rw [← HK2.out] at h2; have := HZ.out; omega)]; exact M3.out, K3.out⟩
      · have d3 : (q2 < (n : Int)) = False := eq_false d2
        have HD := Aside0.mk d2
        have HK2 : Aside0 (q = ((kid M n i : Nat) : Int)) := ⟨by unfold kid; rw [if_neg (by omega)]; exact hq⟩
        clear hq hq2 c d2
        by_cases z : rd M q < rd M i
        · have z1 : decide (rd M q < rd M i) = true := decide_eq_true z
          have HZ := Aside0.mk z
          go_wp2_with (go_at_call 76; clear hml; refine (hless _ base v M q i HM.out (by have := HQ.out; have := HQ2.out; omega) (by have := HQ.out; have := HQ2.out; have := HI.out; have := HML.out; have := HNL.out; have := HC.out; have := HD.out; omega) (by have := HQ.out; have := HQ2.out; omega) (by have := HQ.out; have := HQ2.out; have := HI.out; have := HML.out; have := HNL.out; have := HC.out; omega)).mono ?_; rintro e w3 ⟨rfl, hb⟩; have G3 := Aside0.mk (HG.out.below hb); have M3 : Aside0 (OwnI w3 base v M) := ⟨pw_own_below HM.out hb⟩; have K3 := Aside0.mk (HK.out.below hb); clear hb; have hms := m_swap w3 g v G3.out.cell)
          go_wp2_with (go_at_call 79; refine (hswap w3 base v M i q M3.out (by omega) (by have := HI.out; have := HML.out; have := HNL.out; have := HC.out; omega) (by have := HQ.out; have := HQ2.out; omega) (by have := HQ.out; have := HQ2.out; have := HI.out; have := HML.out; have := HNL.out; have := HC.out; have := HD.out; omega)).mono ?_; rintro e w4 ⟨rfl, ho, hk⟩; have G4 := Aside0.mk (G3.out.keeps hk HN.out); have M4 : Aside0 (OwnI w4 base v (swp M i q)) := ⟨ho⟩; have K4 := Aside0.mk (K3.out.then_ hk (fun _ h => .inl h)); clear ho hk hms)
          refine ⟨⟨kid M n i, swp M i (kid M n i : Nat), ?_, ?_, ?_, ?_, ?_, ?_, ?_⟩, ?_⟩
          · have := kid_lt M n i HC.out; omega
          · rw [swp_len]; exact HML.out
          · rw [HK2.out]
          · exact ⟨by rw [← HE.out, downF_step ⟨HC.out, by rw [← HK2.out]; exact HZ.out⟩]⟩
          · exact G4
          · rw [← HK2.out]; exact M4
          · exact K4
          · have := kid_gt M n i; have := kid_lt M n i HC.out; have := HK2.out
            show n - (q : Int).toNat < n - ((i : Int)).toNat
            omega
        · have z1 : decide (rd M q < rd M i) = false := decide_eq_false z
          have HZ := Aside0.mk z
          go_wp2_with (go_at_call 76; clear hml; refine (hless _ base v M q i HM.out (by have := HQ.out; have := HQ2.out; omega) (by have := HQ.out; have := HQ2.out; have := HI.out; have := HML.out; have := HNL.out; have := HC.out; have := HD.out; omega) (by have := HQ.out; have := HQ2.out; omega) (by have := HQ.out; have := HQ2.out; have := HI.out; have := HML.out; have := HNL.out; have := HC.out; omega)).mono ?_; rintro e w3 ⟨rfl, hb⟩; have G3 := Aside0.mk (HG.out.below hb); have M3 : Aside0 (OwnI w3 base v M) := ⟨pw_own_below HM.out hb⟩; have K3 := Aside0.mk (HK.out.below hb); clear hb; skip)
          go_ret
          exact ⟨⟨_, rfl⟩, G3.out, by rw [← HE.out, downF_stop (fun h => by have h2 := h.2; rw [← HK2.out] at h2; have := HZ.out; omega)]; exact M3.out, K3.out⟩
    · have c0 : (q < (n : Int)) = False := eq_false (by omega)
      have c1 : ((n : Int) ≤ q) = True := eq_true (by omega)
      have HC := Aside0.mk c
      clear hq hq2 c
      go_wp2
      go_ret
      exact ⟨⟨_, rfl⟩, HG.out, by rw [← HE.out, downF_stop (fun h => HC.out h.1)]; exact HM.out, HK.out⟩
end Go.Proofs.Ytlbkbodadkhogaa.X
end

/- Contracts of container/heap over graph.least: Pop. -/
section
namespace Go.Proofs.Ytlbkbodadkhogaa.X
open Go.RowKit Go.Proofs.YtlbkbodadkhogaaW.PrintWords Go.Proofs.YtlbkbodadkhogaaW.PrintLast Go.Proofs.YtlbkbodadkhogaaW.PrintMore
set_option linter.unusedVariables false
set_option linter.unusedSimpArgs false
theorem downF_len (n : Nat) : ∀ (d : Nat) (L : List Int) (i : Nat), n - i ≤ d → (downF L n i).length = L.length := by
  intro d
  induction d with
  | zero => intro L i h; rw [downF_stop (fun c => by have := c.1; omega)]
  | succ d ih =>
    intro L i h
    by_cases c : 2 * i + 1 < n ∧ rd L (kid L n i : Nat) < rd L i
    · rw [downF_step c, ih _ _ (by have := kid_gt L n i; have := kid_lt L n i c.1; omega), swp_len]
    · rw [downF_stop c]
set_option maxHeartbeats 20000000 in
set_option maxRecDepth 100000 in
theorem heap_pop (w : World) (base g : Nat) (v : Value) (L : List Int) (M : List Int) (x : Int) (H1 : One w g 50 v) (H : OwnI w base v L) (hp : 0 < L.length) (hl : L.length ≤ 90000) (hM : downF (swp L 0 (L.length - 1 : Nat)) (L.length - 1) 0 = M ++ [x]) (hb : base ≤ w.heap.size) :
    Calls Try.prog 33 #[.iface 49 (.pointer (some ⟨g, 0, none⟩))] w fun e w' => e = .returned (.iface 3 (.int .i64 x)) ∧ (∃ v', One w' g 50 v' ∧ OwnI w' base v' M ∧ v'.ownBlock = v.ownBlock) ∧ Keeps w w' (fun k => k = g ∨ some k = v.ownBlock) := by
  have H1' := Aside0.mk H1
  have HO := Aside0.mk H
  have HN := Aside0.mk (own_ne H H1 (by decide))
  have HL := Aside0.mk hl
  have HB := Aside0.mk hb
  have HM := Aside0.mk hM
  have hml := m_len w g v H1.cell
  obtain ⟨n, hn⟩ : ∃ n : Nat, n = L.length - 1 := ⟨_, rfl⟩
  have e1 : wrap64 ((L.length : Int) - 1) = (n : Int) := by rw [hn]; unfold wrap64; omega
  have HP := Aside0.mk hp
  have HNN := Aside0.mk hn
  clear H1 H hl hb hM hp hn
  go_enter Try.func33, Try.ntmps33
  go_wp2_with (go_at_call 32; clear hml; refine (hlen w base v L HO.out).mono ?_; rintro e w3 ⟨rfl, rfl⟩; have hms := m_swap w3 g v H1'.out.cell)
  go_wp2_with (go_at_call 79; clear hms; refine (hswap _ base v L 0 n HO.out (by omega) (by have := HP.out; omega) (by omega) (by have := HP.out; have := HNN.out; omega)).mono ?_; rintro e w4 ⟨rfl, ho, hk⟩; have G4 := Aside0.mk (H1'.out.keeps hk HN.out); have M4 : Aside0 (OwnI w4 base v (swp L 0 n)) := ⟨ho⟩; have K4 := Aside0.mk hk; clear ho hk)
  go_wp2_with (go_at_call 41; refine (heap_down _ base g v (swp L 0 n) 0 n G4.out M4.out (by omega) (by rw [swp_len]; have := HNN.out; omega) (by rw [swp_len]; have := HL.out; omega)).mono ?_; rintro e w5 ⟨⟨b, rfl⟩, h1, h2, h3⟩; have G5 := Aside0.mk h1; have M5 : Aside0 (OwnI w5 base v (M ++ [x])) := ⟨by have := HM.out; rw [← HNN.out] at this; rw [← this]; exact h2⟩; have K5 := Aside0.mk (K4.out.then_ h3 (fun _ h => .inl h)); clear h1 h2 h3)
  have hlm : M.length + 1 = L.length := by
    have h := congrArg List.length HM.out
    rw [downF_len _ _ _ _ (Nat.le_refl _), swp_len, List.length_append] at h
    simp at h; omega
  have HLM := Aside0.mk hlm
  clear hlm
  go_wp2_with (go_at_call 77; refine (hpop _ base g v M x G5.out M5.out (by have := HB.out; have := K5.out.size; omega) (by have := HLM.out; have := HL.out; omega)).mono ?_; rintro e w6 ⟨rfl, ⟨v2, h1, h2, h3⟩, hk⟩; have B6 := Aside0.mk h3; have G6 := Aside0.mk h1; have M6 := Aside0.mk h2; have K6 := Aside0.mk ((K5.out.mono (S2 := fun k => k = g ∨ some k = v.ownBlock) (fun k h => .inr h)).then_ hk (fun k h => .inl (.inl h))); clear h1 h2 h3 hk)
  go_ret
  exact ⟨rfl, ⟨_, G6.out, M6.out, B6.out⟩, K6.out⟩
end Go.Proofs.Ytlbkbodadkhogaa.X
end

/- The plain law of container/heap: what Push and Pop do to a heap is what an ordered list does. Lemmas; no memory in sight. -/
section
namespace Go.Proofs.Ytlbkbodadkhogaa.X
open Go.RowKit Go.Proofs.YtlbkbodadkhogaaW.PrintWords
set_option linter.unusedVariables false
theorem rd_nat (L : List Int) (i : Nat) : rd L (i : Int) = L.getD i 0 := by simp [rd]
theorem rd_get (L : List Int) (i : Nat) (h : i < L.length) : rd L (i : Int) = L[i] := by simp [rd, h]
theorem swp_rd (L : List Int) (i j k : Nat) (hi : i < L.length) (hj : j < L.length) : rd (swp L i j) (k : Nat) = if k = j then rd L i else if k = i then rd L j else rd L k := by
  unfold swp
  simp only [rd, Int.toNat_natCast, List.getD_eq_getElem?_getD, List.getElem?_set, List.length_set]
  by_cases a : j = k
  · subst a; simp [hj]
  · have a' : ¬ k = j := fun h => a h.symm
    by_cases b : i = k
    · subst b; simp [a, a', hi]
    · have b' : ¬ k = i := fun h => b h.symm
      simp [a, b, a', b']
theorem swp_perm (L : List Int) (i j : Nat) (hi : i < L.length) (hj : j < L.length) : (swp L i j).Perm L := by
  have h := Array.swap_perm (xs := L.toArray) (i := i) (j := j) (by simpa using hi) (by simpa using hj)
  have h2 := h.toList
  have e : (L.toArray.swap i j (by simpa using hi) (by simpa using hj)).toList = swp L i j := by
    unfold swp
    simp [Array.swap, rd, hi, hj]
  rw [e] at h2
  simpa using h2
def isHeap (L : List Int) (n : Nat) : Prop := ∀ i, 0 < i → i < n → rd L ((i - 1) / 2 : Nat) ≤ rd L (i : Nat)
/-- A heap but for what stands at j, which may be too small for its place. -/
def upOk (L : List Int) (j : Nat) : Prop :=
  (∀ i, 0 < i → i < L.length → i ≠ j → rd L ((i - 1) / 2 : Nat) ≤ rd L (i : Nat)) ∧ (0 < j → ∀ i, 0 < i → i < L.length → (i - 1) / 2 = j → rd L ((j - 1) / 2 : Nat) ≤ rd L (i : Nat))
theorem upF_ok : ∀ (j : Nat) (L : List Int), j < L.length → upOk L j → isHeap (upF L j) L.length ∧ (upF L j).Perm L := by
  intro j
  induction j using Nat.strongRecOn with
  | ind j ih =>
    intro L hj ⟨h1, h2⟩
    unfold upF
    by_cases c : 0 < j ∧ rd L j < rd L ((j - 1) / 2 : Nat)
    · rw [dif_pos c]
      obtain ⟨p, hp⟩ : ∃ p, p = (j - 1) / 2 := ⟨_, rfl⟩
      rw [← hp] at c ⊢
      have hpj : p < j := by omega
      have hs := swp_rd L p j
      have key : upOk (swp L p j) p := by
        refine ⟨fun i i0 i1 ip => ?_, fun p0 i i0 i1 e => ?_⟩
        · rw [swp_len] at i1
          rw [hs _ (by omega) hj, hs _ (by omega) hj]
          by_cases a : i = j
          · subst a
            rw [if_neg (by omega), if_pos hp.symm, if_pos rfl]
            omega
          · rw [if_neg a, if_neg ip]
            by_cases b : (i - 1) / 2 = j
            · rw [if_pos b]
              have := h2 (by omega) i i0 i1 b
              rw [hp]; exact this
            · rw [if_neg b]
              by_cases d : (i - 1) / 2 = p
              · rw [if_pos d]
                have := h1 i i0 i1 a
                rw [d] at this; omega
              · rw [if_neg d]; exact h1 i i0 i1 a
        · rw [swp_len] at i1
          rw [hs _ (by omega) hj, hs _ (by omega) hj]
          rw [if_neg (by omega), if_neg (by omega)]
          by_cases a : i = j
          · rw [if_pos a]
            exact h1 p p0 (by omega) (by omega)
          · rw [if_neg a, if_neg (by omega)]
            have q1 := h1 p p0 (by omega) (by omega)
            have q2 := h1 i i0 i1 a
            rw [e] at q2; omega
      obtain ⟨r1, r2⟩ := ih p hpj (swp L p j) (by rw [swp_len]; omega) key
      rw [swp_len] at r1
      exact ⟨r1, r2.trans (swp_perm L p j (by omega) hj)⟩
    · rw [dif_neg c]
      refine ⟨fun i i0 i1 => ?_, List.Perm.refl _⟩
      by_cases a : i = j
      · subst a
        exact Int.not_lt.1 (fun h => c ⟨i0, h⟩)
      · exact h1 i i0 i1 a
theorem heap_least {L : List Int} {n : Nat} (h : isHeap L n) : ∀ i, i < n → rd L (0 : Nat) ≤ rd L (i : Nat) := by
  intro i
  induction i using Nat.strongRecOn with
  | ind i ih =>
    intro hi
    rcases Nat.eq_zero_or_pos i with rfl | h0
    · exact Int.le_refl _
    · exact Int.le_trans (ih ((i - 1) / 2) (by omega) (by omega)) (h i h0 hi)
/-- The first n are a heap but for what stands at i, which may be too great for its place. -/
def downOk (L : List Int) (n i : Nat) : Prop :=
  (∀ k, 0 < k → k < n → (k - 1) / 2 ≠ i → rd L ((k - 1) / 2 : Nat) ≤ rd L (k : Nat)) ∧ (0 < i → ∀ k, 0 < k → k < n → (k - 1) / 2 = i → rd L ((i - 1) / 2 : Nat) ≤ rd L (k : Nat))
theorem kid_or (L : List Int) (n i : Nat) : kid L n i = 2 * i + 1 ∨ kid L n i = 2 * i + 2 := by unfold kid; split <;> simp
theorem kid_least (L : List Int) (n i k : Nat) (hk : k < n) (h0 : 0 < k) (e : (k - 1) / 2 = i) : rd L (kid L n i : Nat) ≤ rd L (k : Nat) := by
  have : k = 2 * i + 1 ∨ k = 2 * i + 2 := by omega
  unfold kid
  rcases this with rfl | rfl
  · split
    · rename_i h; exact Int.le_of_lt h.2
    · exact Int.le_refl _
  · split
    · exact Int.le_refl _
    · rename_i h
      exact Int.not_lt.1 (fun q => h ⟨hk, q⟩)
theorem downF_ok (n : Nat) : ∀ (d i : Nat) (L : List Int), n - i ≤ d → n ≤ L.length → downOk L n i → isHeap (downF L n i) n ∧ (downF L n i).Perm L ∧ (∀ k, n ≤ k → rd (downF L n i) (k : Nat) = rd L (k : Nat)) := by
  intro d
  induction d with
  | zero =>
    intro i L hd hn ⟨h1, h2⟩
    rw [downF_stop (fun c => by have := c.1; omega)]
    exact ⟨fun k k0 k1 => h1 k k0 k1 (by omega), List.Perm.refl _, fun _ _ => rfl⟩
  | succ d ih =>
    intro i L hd hn ⟨h1, h2⟩
    by_cases c : 2 * i + 1 < n ∧ rd L (kid L n i : Nat) < rd L i
    · rw [downF_step c]
      obtain ⟨q, hq⟩ : ∃ q, q = kid L n i := ⟨_, rfl⟩
      have hl := fun k a b e => kid_least L n i k a b e
      have ho := kid_or L n i
      have hlt := kid_lt L n i c.1
      rw [← hq] at c hl ho hlt ⊢
      have hs := swp_rd L i q
      have key : downOk (swp L i q) n q := by
        refine ⟨fun k k0 k1 kp => ?_, fun q0 k k0 k1 e => ?_⟩
        · rw [hs _ (by omega) (by omega), hs _ (by omega) (by omega)]
          rw [if_neg kp]
          by_cases a : k = q
          · rw [if_pos a]
            have e : (k - 1) / 2 = i := by omega
            rw [if_pos e]; omega
          · rw [if_neg a]
            by_cases b : (k - 1) / 2 = i
            · rw [if_pos b, if_neg (by omega)]
              exact hl k k1 k0 b
            · rw [if_neg b]
              by_cases f : k = i
              · subst f
                rw [if_pos rfl]
                exact h2 k0 q (by omega) (by omega) (by omega)
              · rw [if_neg f]; exact h1 k k0 k1 b
        · rw [hs _ (by omega) (by omega), hs _ (by omega) (by omega)]
          have e2 : (q - 1) / 2 = i := by omega
          rw [e2, if_neg (by omega), if_pos rfl, if_neg (by omega), if_neg (by omega)]
          have := h1 k k0 k1 (by omega)
          rw [e] at this; exact this
      obtain ⟨r1, r2, r3⟩ := ih q (swp L i q) (by omega) (by rw [swp_len]; exact hn) key
      refine ⟨r1, r2.trans (swp_perm L i q (by omega) (by omega)), fun k hk => ?_⟩
      rw [r3 k hk, hs _ (by omega) (by omega), if_neg (by omega), if_neg (by omega)]
    · rw [downF_stop c]
      refine ⟨fun k k0 k1 => ?_, List.Perm.refl _, fun _ _ => rfl⟩
      by_cases a : (k - 1) / 2 = i
      · have q1 := kid_least L n i k k1 k0 a
        have q2 : ¬ rd L (kid L n i : Nat) < rd L i := fun h => c ⟨by omega, h⟩
        rw [a]; omega
      · exact h1 k k0 k1 a
/-- A number put into an ordered list. -/
def ins (x : Int) : List Int → List Int
  | [] => [x]
  | y :: l => if x ≤ y then x :: y :: l else y :: ins x l
theorem ins_perm (x : Int) (l : List Int) : (ins x l).Perm (x :: l) := by
  induction l with
  | nil => exact List.Perm.refl _
  | cons y l ih =>
    unfold ins
    split
    · exact List.Perm.refl _
    · exact (ih.cons y).trans (List.Perm.swap x y l)
theorem ins_length (x : Int) (l : List Int) : (ins x l).length = l.length + 1 := by rw [(ins_perm x l).length_eq]; simp
theorem ins_sorted (x : Int) (l : List Int) (h : l.Pairwise (· ≤ ·)) : (ins x l).Pairwise (· ≤ ·) := by
  induction l with
  | nil => simp [ins]
  | cons y l ih =>
    unfold ins
    rw [List.pairwise_cons] at h
    split
    · rename_i c
      refine List.pairwise_cons.2 ⟨fun z hz => ?_, List.pairwise_cons.2 h⟩
      rcases List.mem_cons.1 hz with rfl | hz
      · exact c
      · exact Int.le_trans c (h.1 z hz)
    · rename_i c
      refine List.pairwise_cons.2 ⟨fun z hz => ?_, ih h.2⟩
      rcases List.mem_cons.1 ((ins_perm x l).mem_iff.1 hz) with rfl | hz
      · omega
      · exact h.1 z hz
/-- The heap L holds what the ordered list F holds. -/
structure HpF (L F : List Int) : Prop where
  heap : isHeap L L.length
  perm : L.Perm F
  ord : F.Pairwise (· ≤ ·)
theorem HpF.nil : HpF [] [] := ⟨fun i _ h => absurd h (by simp), List.Perm.refl _, List.Pairwise.nil⟩
theorem HpF.push {L F : List Int} (h : HpF L F) (x : Int) : HpF (upF (L ++ [x]) L.length) (ins x F) := by
  have hk : upOk (L ++ [x]) L.length := by
    refine ⟨fun i i0 i1 ip => ?_, fun j0 i i0 i1 e => ?_⟩
    · simp at i1
      have := h.heap i i0 (by omega)
      simp only [rd, Int.toNat_natCast, List.getD_eq_getElem?_getD] at this ⊢
      rw [List.getElem?_append_left (by omega), List.getElem?_append_left (by omega)]
      exact this
    · simp at i1; omega
  obtain ⟨h1, h2⟩ := upF_ok L.length (L ++ [x]) (by simp) hk
  refine ⟨?_, ?_, ins_sorted x F h.ord⟩
  · rw [h2.length_eq]; exact h1
  · exact h2.trans ((List.perm_append_comm.trans (h.perm.cons x)).trans (ins_perm x F).symm)
theorem HpF.length {L F : List Int} (h : HpF L F) : L.length = F.length := h.perm.length_eq
theorem HpF.pop {L F : List Int} {x : Int} (h : HpF L (x :: F)) : ∃ M, downF (swp L 0 (L.length - 1 : Nat)) (L.length - 1) 0 = M ++ [x] ∧ HpF M F := by
  have hl := h.length
  simp at hl
  obtain ⟨n, hn⟩ : ∃ n, n = L.length - 1 := ⟨_, rfl⟩
  rw [← hn]
  have hx : rd L (0 : Nat) = x := by
    have hm : x ∈ L := h.perm.mem_iff.2 (by simp)
    obtain ⟨i, hi, e⟩ := List.mem_iff_getElem.1 hm
    have h1 := heap_least h.heap i hi
    rw [rd_get L i hi, e] at h1
    have h2 : rd L (0 : Nat) ∈ x :: F := h.perm.mem_iff.1 (by rw [rd_get L 0 (by omega)]; exact List.getElem_mem _)
    rcases List.mem_cons.1 h2 with h2 | h2
    · exact h2
    · have := (List.pairwise_cons.1 h.ord).1 _ h2; omega
  have hs := swp_rd L 0 n
  have key : downOk (swp L (0 : Nat) n) n 0 := by
    refine ⟨fun k k0 k1 kp => ?_, fun c => absurd c (by omega)⟩
    rw [hs _ (by omega) (by omega), hs _ (by omega) (by omega), if_neg (by omega), if_neg kp, if_neg (by omega), if_neg (by omega)]
    exact h.heap k k0 (by omega)
  obtain ⟨h1, h2, h3⟩ := downF_ok n n 0 (swp L (0 : Nat) n) (by omega) (by rw [swp_len]; omega) key
  obtain ⟨R, hR⟩ : ∃ R, R = downF (swp L (0 : Nat) n) n 0 := ⟨_, rfl⟩
  show ∃ M, downF (swp L (0 : Nat) n) n 0 = M ++ [x] ∧ HpF M F
  rw [← hR] at h1 h2 h3 ⊢
  have hRl : R.length = n + 1 := by rw [h2.length_eq, swp_len]; omega
  have hlast : rd R (n : Nat) = x := by rw [h3 n (Nat.le_refl _), hs _ (by omega) (by omega), if_pos rfl]; exact hx
  have hsplit : R = R.take n ++ [x] := by
    have := List.take_append_drop n R
    have hd : R.drop n = [x] := by
      rw [List.drop_eq_getElem_cons (by omega), List.drop_eq_nil_of_le (by omega)]
      rw [rd_get R n (by omega)] at hlast
      rw [hlast]
    rw [hd] at this; exact this.symm
  refine ⟨R.take n, hsplit, ?_, ?_, (List.pairwise_cons.1 h.ord).2⟩
  · intro i i0 i1
    have hi : i < n := by simp at i1; omega
    have := h1 i i0 hi
    simp only [rd, Int.toNat_natCast, List.getD_eq_getElem?_getD] at this ⊢
    rw [List.getElem?_take_of_lt (by omega), List.getElem?_take_of_lt hi]
    exact this
  · have hp : R.Perm L := h2.trans (swp_perm L 0 n (by omega) (by omega))
    have hq : (R.take n ++ [x]).Perm (x :: F) := hsplit ▸ (hp.trans h.perm)
    exact (List.perm_append_comm.trans hq).cons_inv
end Go.Proofs.Ytlbkbodadkhogaa.X
end
