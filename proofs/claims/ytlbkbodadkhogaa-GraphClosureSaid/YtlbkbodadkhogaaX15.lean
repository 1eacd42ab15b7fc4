/- Contracts of functions over this seat, written by a program of this claim (xprint.py). -/
import Derived.Test.YtlbkbodadkhogaaX0
import Derived.Test.YtlbkbodadkhogaaX2
import Derived.Test.YtlbkbodadkhogaaX5
import Derived.Test.YtlbkbodadkhogaaX6
import Derived.Test.YtlbkbodadkhogaaX8
import Derived.Test.YtlbkbodadkhogaaX9
import Derived.Test.YtlbkbodadkhogaaX10
import Derived.Test.YtlbkbodadkhogaaX11
import Derived.Test.YtlbkbodadkhogaaX12
import Derived.Test.YtlbkbodadkhogaaX13
import Derived.Test.YtlbkbodadkhogaaX14
namespace Go.Proofs.Ytlbkbodadkhogaa.X
open Go.RowKit Go.Proofs.YtlbkbodadkhogaaW.PrintWords Go.Proofs.YtlbkbodadkhogaaW.PrintLast Go.Proofs.YtlbkbodadkhogaaW.PrintMore
attribute [local go_sem] max2_int min2_int max_two min_two max_three min_three max_four min_four   -- for this text's walks alone
set_option linter.unusedVariables false
set_option linter.unusedSimpArgs false

/-! ### dancestudiolaw09_awake: function 13 -/
theorem row_of {α : Type} (d : Kd α) (k : Nat) (hd : d.sz = k) (e : TypeId) (w : World) (cs : List Value) (xs : List α) (hl : xs.length ≤ 1000) (h : ∀ j p, xs[j]? = some p → d.K (w.alloc (.cells cs.toArray e)) p ((cs.drop (j * k)).take k)) (hc : cs.length = xs.length * k) : d.C (w.alloc (.cells cs.toArray e)) (some ⟨w.heap.size, 0, none⟩) xs.length xs := by
 refine ⟨rfl, by omega, fun _ => ⟨_, rfl, fun j p hj => ⟨(cs.drop (j * k)).take k, d.K_len (h j p hj), h j p hj, fun i u hu => ?_⟩⟩⟩
 have hik : i < k := by
  have := (List.getElem?_eq_some_iff.1 hu).1
  simp at this; omega
 rw [List.getElem?_take_of_lt hik, List.getElem?_drop] at hu
 rw [hd]
 have e2 : ((⟨w.heap.size, 0, none⟩ : Addr).add (j * k + i)) = ⟨w.heap.size, j * k + i, none⟩ := add_plain _ _
 rw [e2]
 have := blk_cell (blk_new w (.cells cs.toArray e)) (j * k + i)
 rw [this]
 simpa using hu
theorem ints_lit (w : World) (xs : List Int) (hl : xs.length ≤ 1000) : Kd.C (Kd.int .i64) (w.alloc (.cells (nums .i64 xs).toArray 3)) (some ⟨w.heap.size, 0, none⟩) xs.length xs := by
 refine row_of (Kd.int .i64) 1 rfl 3 w (nums .i64 xs) xs hl (fun j p hj => ?_) (by simp [nums])
 obtain ⟨h1, h2⟩ := List.getElem?_eq_some_iff.1 hj
 show _ = [Value.int .i64 p]
 have : j * 1 < (nums .i64 xs).length := by simp [nums]; omega
 rw [List.drop_eq_getElem_cons this]
 simp [nums, h2]
theorem bools_lit (w : World) (xs : List Bool) (hl : xs.length ≤ 1000) : Kd.C Kd.bool (w.alloc (.cells (xs.map Value.bool).toArray 4)) (some ⟨w.heap.size, 0, none⟩) xs.length xs := by
 refine row_of Kd.bool 1 rfl 4 w (xs.map Value.bool) xs hl (fun j p hj => ?_) (by simp)
 obtain ⟨h1, h2⟩ := List.getElem?_eq_some_iff.1 hj
 show _ = [Value.bool p]
 have : j * 1 < (xs.map Value.bool).length := by simp; omega
 rw [List.drop_eq_getElem_cons this]
 simp [h2]
def flat46 (xs : List S46) : List Value := xs.flatMap fun x => [.int .i64 x.f0, .int .i64 x.f1]
theorem arcs_lit (w : World) (xs : List S46) (hl : xs.length ≤ 1000) : Kd.C k46 (w.alloc (.cells (flat46 xs).toArray 46)) (some ⟨w.heap.size, 0, none⟩) xs.length xs := by
 have hlen : ∀ ys : List S46, (flat46 ys).length = ys.length * 2 := by
  intro ys
  induction ys with
  | nil => rfl
  | cons y ys ih => simp only [flat46, List.flatMap_cons, List.length_append, List.length_cons, List.length_nil] at ih ⊢; omega
 have hseg : ∀ (ys : List S46) (j : Nat) (p : S46), ys[j]? = some p → ((flat46 ys).drop (j * 2)).take 2 = [.int .i64 p.f0, .int .i64 p.f1] := by
  intro ys
  induction ys with
  | nil => intro j p h; simp at h
  | cons y ys ih =>
   intro j p h
   cases j with
   | zero => simp at h; subst h; simp [flat46]
   | succ j =>
    have h' : ys[j]? = some p := by simpa using h
    have := ih j p h'
    have e : (flat46 (y :: ys)).drop ((j + 1) * 2) = (flat46 ys).drop (j * 2) := by
     have e1 : flat46 (y :: ys) = [.int .i64 y.f0, .int .i64 y.f1] ++ flat46 ys := rfl
     rw [e1, show (j + 1) * 2 = 2 + j * 2 by omega, ← List.drop_drop]
     rfl
    rw [e]; exact this
 refine row_of k46 2 rfl 46 w (flat46 xs) xs hl (fun j p hj => ?_) (hlen xs)
 rw [hseg xs j p hj]
 exact k46_mk _ _
def rdLI (xs : List (List Int)) (i : Int) : List Int := xs.getD i.toNat ([] : List Int)
theorem at_LI {w : World} {A : Option Addr} {n : Nat} {xs : List (List Int)} (h : Kd.C (Kd.slice 3 (Kd.int .i64)) w A n xs) (i : Int) (h0 : 0 ≤ i) (h1 : i < n) : ∃ ad A0 c0, A = some ad ∧ w.cell? (ad.add i.toNat) = some (.slice A0 (rdLI xs i).length c0) ∧ (rdLI xs i).length ≤ c0 ∧ Kd.C (Kd.int .i64) w A0 (rdLI xs i).length (rdLI xs i) := by
 obtain ⟨ad, c, e, _, hK, hc0⟩ := Kd.C_get h ([] : List Int) i h0 h1
 have hc : ∀ j u, c[j]? = some u → w.cell? (ad.add (i.toNat * 1 + j)) = some u := hc0
 obtain ⟨A0, c0, rfl, l0, g0⟩ := hK
 exact ⟨ad, A0, c0, e, by have hq := hc 0 _ rfl; rwa [Nat.mul_one, Nat.add_zero] at hq, l0, g0⟩
def awk_smp : List S46 := [⟨3, 1⟩, ⟨1, 0⟩, ⟨3, 0⟩, ⟨2, 0⟩]
def awk_aM : List S46 := [⟨0, 1⟩]
def awk_aQ : List S46 := [⟨5, 0⟩]
def awk_aG : List S46 := [⟨2, 1⟩, ⟨1, 0⟩]
def awk_aD : List S46 := [⟨1, 0⟩, ⟨2, 0⟩, ⟨2, 1⟩]
def awk_aL : List Int := [2, 3, 1, 0, 4]
def awk_aR : List Bool := [true, true, false, true, false]
def awk_aP : List Int := [3, 0]
def awk_aC : List (List Int) := [[0, 1], [2], [3], [4]]
def awk_aC0 : List Int := [0, 1]
def awk_aC3 : List Int := [4]
def awk_smM : List S46 := awk_smp ++ awk_aM
def awk_smQ : List S46 := awk_smp ++ awk_aQ
theorem r_smp : dancestudiolaw09_sample.f [] = some (5, awk_smp) := rfl
theorem r_smM : dancestudiolaw09_sample.f awk_aM = some (5, awk_smM) := rfl
theorem r_smQ : dancestudiolaw09_sample.f awk_aQ = some (5, awk_smQ) := rfl
theorem r_L : graph_Order.f 5 awk_smp = some (awk_aL, 0) := by decide +kernel
theorem r_R : graph_Reach.f 100 5 awk_smp 3 = some (awk_aR, 0) := by decide +kernel
theorem r_P : graph_Path.f 100 5 awk_smp 3 0 = some (awk_aP, 0) := by decide +kernel
theorem r_H : graph_Path.f 100 5 awk_smp 0 3 = some ([], 6) := by decide +kernel
theorem r_E : graph_Order.f 5 awk_smM = some ([], 15) := by decide +kernel
theorem r_C : graph_Parts.f 100 5 awk_smM = some (awk_aC, 0) := by decide +kernel
theorem r_D : graph_Close.f 100 3 awk_aG = some (3, awk_aD, 0) := by kernel_rfl
theorem r_K : graph_Check.f 100 5 awk_smQ = some 6 := by decide +kernel
theorem r_iL : dancestudioref09_Ints.f 100 awk_aL awk_aL = some true := by decide +kernel
theorem r_bR : dancestudioref09_Bools.f 100 awk_aR awk_aR = some true := by decide +kernel
theorem r_iP : dancestudioref09_Ints.f 100 awk_aP awk_aP = some true := by decide +kernel
theorem r_i0 : dancestudioref09_Ints.f 100 awk_aC0 awk_aC0 = some true := by decide +kernel
theorem r_i3 : dancestudioref09_Ints.f 100 awk_aC3 awk_aC3 = some true := by decide +kernel
theorem r_S : dancestudioref09_Same.f 100 3 awk_aD 3 awk_aD = some true := by decide +kernel
set_option maxHeartbeats 8000000 in
set_option maxRecDepth 100000 in
theorem awake_walk (w : World) : Calls Try.prog 13 #[] w fun e w' => e = .returned (.bool true) ∧ Below w.heap.size w w' := by
 have HB := Aside0.mk (Below.refl w.heap.size w)
 go_enter Try.func13, Try.ntmps13
 go_wp2_with (fail)
 refine (dancestudiolaw09_sample.calls none 0 [] 5 awk_smp _ (Kd.C_nil _ _) (Nat.le_refl _) r_smp).mono ?_
 rintro e w1 ⟨v1, rfl, hR, hb⟩
 obtain ⟨A1, c1, rfl, hl_, hC_⟩ := Kd.R_reads hR
 have hB_ := below_step (Below.refl _ _) hb
 replace HB := Aside0.mk (below_step HB.out hB_)
 clear hB_ hb
 have F1 := Aside0.mk hC_
 have F1l := Aside0.mk hl_
 clear hR hC_ hl_
 go_wp2_with (fail)
 refine (graph_Order.calls 5 A1 c1 awk_smp awk_aL 0 _ F1.out F1l.out r_L).mono ?_
 rintro e w1 ⟨v2, rfl, hR, hb⟩
 obtain ⟨A2, c2, rfl, hl_, hC_⟩ := Kd.R_reads hR
 have hB_ := below_step (Below.refl _ _) hb
 replace F1 := Aside0.mk (Kd.C_below F1.out hB_)
 replace HB := Aside0.mk (below_step HB.out hB_)
 clear hB_ hb
 have FL := Aside0.mk hC_
 have FLl := Aside0.mk hl_
 clear hR hC_ hl_
 clear F1 F1l
 go_wp2_with (fail)
 refine (dancestudiolaw09_sample.calls none 0 [] 5 awk_smp _ (Kd.C_nil _ _) (Nat.le_refl _) r_smp).mono ?_
 rintro e w1 ⟨v3, rfl, hR, hb⟩
 obtain ⟨A1, c1, rfl, hl_, hC_⟩ := Kd.R_reads hR
 have hB_ := below_step (Below.refl _ _) hb
 replace FL := Aside0.mk (Kd.C_below FL.out hB_)
 replace HB := Aside0.mk (below_step HB.out hB_)
 clear hB_ hb
 have F1 := Aside0.mk hC_
 have F1l := Aside0.mk hl_
 clear hR hC_ hl_
 go_wp2_with (fail)
 refine (graph_Reach.calls 100 5 A1 c1 awk_smp 3 awk_aR 0 _ F1.out F1l.out r_R).mono ?_
 rintro e w1 ⟨v4, rfl, hR, hb⟩
 obtain ⟨A3, c3, rfl, hl_, hC_⟩ := Kd.R_reads hR
 have hB_ := below_step (Below.refl _ _) hb
 replace FL := Aside0.mk (Kd.C_below FL.out hB_)
 replace F1 := Aside0.mk (Kd.C_below F1.out hB_)
 replace HB := Aside0.mk (below_step HB.out hB_)
 clear hB_ hb
 have FR := Aside0.mk hC_
 have FRl := Aside0.mk hl_
 clear hR hC_ hl_
 clear F1 F1l
 go_wp2_with (fail)
 refine (dancestudiolaw09_sample.calls none 0 [] 5 awk_smp _ (Kd.C_nil _ _) (Nat.le_refl _) r_smp).mono ?_
 rintro e w1 ⟨v5, rfl, hR, hb⟩
 obtain ⟨A1, c1, rfl, hl_, hC_⟩ := Kd.R_reads hR
 have hB_ := below_step (Below.refl _ _) hb
 replace FL := Aside0.mk (Kd.C_below FL.out hB_)
 replace FR := Aside0.mk (Kd.C_below FR.out hB_)
 replace HB := Aside0.mk (below_step HB.out hB_)
 clear hB_ hb
 have F1 := Aside0.mk hC_
 have F1l := Aside0.mk hl_
 clear hR hC_ hl_
 go_wp2_with (fail)
 refine (graph_Path.calls 100 5 A1 c1 awk_smp 3 0 awk_aP 0 _ F1.out F1l.out r_P).mono ?_
 rintro e w1 ⟨v6, rfl, hR, hb⟩
 obtain ⟨A4, c4, rfl, hl_, hC_⟩ := Kd.R_reads hR
 have hB_ := below_step (Below.refl _ _) hb
 replace FL := Aside0.mk (Kd.C_below FL.out hB_)
 replace FR := Aside0.mk (Kd.C_below FR.out hB_)
 replace F1 := Aside0.mk (Kd.C_below F1.out hB_)
 replace HB := Aside0.mk (below_step HB.out hB_)
 clear hB_ hb
 have FP := Aside0.mk hC_
 have FPl := Aside0.mk hl_
 clear hR hC_ hl_
 clear F1 F1l
 go_wp2_with (fail)
 refine (dancestudiolaw09_sample.calls none 0 [] 5 awk_smp _ (Kd.C_nil _ _) (Nat.le_refl _) r_smp).mono ?_
 rintro e w1 ⟨v7, rfl, hR, hb⟩
 obtain ⟨A1, c1, rfl, hl_, hC_⟩ := Kd.R_reads hR
 have hB_ := below_step (Below.refl _ _) hb
 replace FL := Aside0.mk (Kd.C_below FL.out hB_)
 replace FR := Aside0.mk (Kd.C_below FR.out hB_)
 replace FP := Aside0.mk (Kd.C_below FP.out hB_)
 replace HB := Aside0.mk (below_step HB.out hB_)
 clear hB_ hb
 have F1 := Aside0.mk hC_
 have F1l := Aside0.mk hl_
 clear hR hC_ hl_
 go_wp2_with (fail)
 refine (graph_Path.calls 100 5 A1 c1 awk_smp 0 3 [] 6 _ F1.out F1l.out r_H).mono ?_
 rintro e w1 ⟨v8, rfl, hR, hb⟩
 obtain ⟨A8, c8, rfl, hl_, hC_⟩ := Kd.R_reads hR
 have hB_ := hb
 replace FL := Aside0.mk (Kd.C_below FL.out hB_)
 replace FR := Aside0.mk (Kd.C_below FR.out hB_)
 replace FP := Aside0.mk (Kd.C_below FP.out hB_)
 replace F1 := Aside0.mk (Kd.C_below F1.out hB_)
 replace HB := Aside0.mk (below_step HB.out hB_)
 clear hB_ hb
 clear hR hl_ hC_
 clear F1 F1l
 go_wp2_with (fail)
 refine (dancestudioref09_Ints.calls 100 A2 c2 awk_aL _ _ awk_aL true _ (Kd.C_alloc FL.out _) FLl.out (ints_lit _ awk_aL (by decide)) (Nat.le_refl _) r_iL).mono ?_
 rintro e w1 ⟨rfl, hb⟩
 have hB_ := below_step (below_alloc (Below.refl _ _) _) hb.below
 replace FL := Aside0.mk (Kd.C_below FL.out hB_)
 replace FR := Aside0.mk (Kd.C_below FR.out hB_)
 replace FP := Aside0.mk (Kd.C_below FP.out hB_)
 replace HB := Aside0.mk (below_step HB.out hB_)
 clear hB_ hb
 clear FL FLl
 go_wp2_with (fail)
 refine (dancestudioref09_Bools.calls 100 A3 c3 awk_aR _ _ awk_aR true _ (Kd.C_alloc FR.out _) FRl.out (bools_lit _ awk_aR (by decide)) (Nat.le_refl _) r_bR).mono ?_
 rintro e w1 ⟨rfl, hb⟩
 have hB_ := below_step (below_alloc (Below.refl _ _) _) hb.below
 replace FR := Aside0.mk (Kd.C_below FR.out hB_)
 replace FP := Aside0.mk (Kd.C_below FP.out hB_)
 replace HB := Aside0.mk (below_step HB.out hB_)
 clear hB_ hb
 clear FR FRl
 go_wp2_with (fail)
 refine (dancestudioref09_Ints.calls 100 A4 c4 awk_aP _ _ awk_aP true _ (Kd.C_alloc FP.out _) FPl.out (ints_lit _ awk_aP (by decide)) (Nat.le_refl _) r_iP).mono ?_
 rintro e w1 ⟨rfl, hb⟩
 have hB_ := below_step (below_alloc (Below.refl _ _) _) hb.below
 replace FP := Aside0.mk (Kd.C_below FP.out hB_)
 replace HB := Aside0.mk (below_step HB.out hB_)
 clear hB_ hb
 clear FP FPl
 go_wp2_with (fail)
 refine (dancestudiolaw09_sample.calls _ _ awk_aM 5 awk_smM _ (arcs_lit _ awk_aM (by decide)) (Nat.le_refl _) r_smM).mono ?_
 rintro e w1 ⟨v1, rfl, hR, hb⟩
 obtain ⟨A1, c1, rfl, hl_, hC_⟩ := Kd.R_reads hR
 have hB_ := below_step (below_alloc (Below.refl _ _) _) hb
 replace HB := Aside0.mk (below_step HB.out hB_)
 clear hB_ hb
 have F1 := Aside0.mk hC_
 have F1l := Aside0.mk hl_
 clear hR hC_ hl_
 go_wp2_with (fail)
 refine (graph_Order.calls 5 A1 c1 awk_smM [] 15 _ F1.out F1l.out r_E).mono ?_
 rintro e w1 ⟨v8, rfl, hR, hb⟩
 have hB_ := hb
 replace F1 := Aside0.mk (Kd.C_below F1.out hB_)
 replace HB := Aside0.mk (below_step HB.out hB_)
 clear hB_ hb
 clear hR
 clear F1 F1l
 go_wp2_with (fail)
 refine (dancestudiolaw09_sample.calls _ _ awk_aM 5 awk_smM _ (arcs_lit _ awk_aM (by decide)) (Nat.le_refl _) r_smM).mono ?_
 rintro e w1 ⟨v1, rfl, hR, hb⟩
 obtain ⟨A1, c1, rfl, hl_, hC_⟩ := Kd.R_reads hR
 have hB_ := below_step (below_alloc (Below.refl _ _) _) hb
 replace HB := Aside0.mk (below_step HB.out hB_)
 clear hB_ hb
 have F1 := Aside0.mk hC_
 have F1l := Aside0.mk hl_
 clear hR hC_ hl_
 go_wp2_with (fail)
 refine (graph_Parts.calls 100 5 A1 c1 awk_smM awk_aC 0 _ F1.out F1l.out r_C).mono ?_
 rintro e w1 ⟨v9, rfl, hR, hb⟩
 obtain ⟨A5, c5, rfl, hl_, hC_⟩ := Kd.S_reads hR
 have hB_ := hb
 replace F1 := Aside0.mk (Kd.C_below F1.out hB_)
 replace HB := Aside0.mk (below_step HB.out hB_)
 clear hB_ hb
 have FC := Aside0.mk hC_
 have FCl := Aside0.mk hl_
 clear hR hC_ hl_
 clear F1 F1l
 go_wp2_with (fail)
 refine (graph_Close.calls 100 3 _ _ awk_aG 3 awk_aD 0 _ (arcs_lit _ awk_aG (by decide)) (Nat.le_refl _) r_D).mono ?_
 rintro e w1 ⟨v10, rfl, hR, hb⟩
 obtain ⟨A6, c6, rfl, hl_, hC_⟩ := Kd.R_reads hR
 have hB_ := below_step (below_alloc (Below.refl _ _) _) hb
 replace FC := Aside0.mk (Kd.C_below FC.out hB_)
 replace HB := Aside0.mk (below_step HB.out hB_)
 clear hB_ hb
 have FD := Aside0.mk hC_
 have FDl := Aside0.mk hl_
 clear hR hC_ hl_
 go_upto_region 10 with (fail)
 obtain ⟨gd, hgd⟩ : ∃ g : Nat, g = w1.heap.size := ⟨_, rfl⟩
 obtain ⟨w2, hw2⟩ : ∃ W : World, W = w1.alloc (.cells #[.int .i64 3, .slice A6 awk_aD.length c6] 24) := ⟨_, rfl⟩
 have XD : Aside0 (w2.heap[gd]? = some (.cells #[.int .i64 3, .slice A6 awk_aD.length c6] 24 (0, 0))) := ⟨by rw [hw2, hgd]; exact blk_new _ _⟩
 have hb : Below w1.heap.size w1 w2 := by rw [hw2]; exact below_alloc (Below.refl _ _) _
 rw [← hgd, ← hw2]
 clear hgd hw2
 have hB_ := hb
 replace FC := Aside0.mk (Kd.C_below FC.out hB_)
 replace FD := Aside0.mk (Kd.C_below FD.out hB_)
 replace HB := Aside0.mk (below_step HB.out hB_)
 clear hB_ hb
 obtain ⟨ad0, A9, c9, e9, h90, h91, h92⟩ := at_LI FC.out 0 (by decide) (by decide)
 subst e9
 obtain ⟨ad3, A10, c10, e10, h93, h94, h95⟩ := at_LI FC.out 3 (by decide) (by decide)
 injection e10 with e10
 subst e10
 have q0 : (rdLI awk_aC 0) = awk_aC0 := rfl
 have q3 : (rdLI awk_aC 3) = awk_aC3 := rfl
 rw [q0] at h90 h91 h92
 rw [q3] at h93 h94 h95
 have G0 := Aside0.mk h92
 have G3 := Aside0.mk h95
 have G0l := Aside0.mk h91
 have G3l := Aside0.mk h94
 have q4 : ((awk_aC.length : Int) != 4) = false := by decide
 have q5 : ((0 : Int) < (awk_aC.length : Int)) = True := eq_true (by decide)
 have q6 : ((3 : Int) < (awk_aC.length : Int)) = True := eq_true (by decide)
 have q7 : 0 < awk_aC.length := by decide
 have q8 : 3 < awk_aC.length := by decide
 clear h91 h92 h94 h95 q0 q3
 have e0 : ad0.add (0 : Int).toNat = ad0 := by obtain ⟨a_, b_, c_⟩ := ad0; cases c_ <;> simp [Addr.add]
 rw [e0] at h90
 have e3 : ad0.add (3 : Int).toNat = ⟨ad0.block, ad0.off + 3, none⟩ := by have h := add_field ad0 0 3 (by omega); rw [Addr.add_zero'] at h; exact h
 rw [e3] at h93
 clear e3
 clear e0
 go_wp2_with (fail)
 refine (dancestudioref09_Ints.calls 100 A9 c9 awk_aC0 _ _ awk_aC0 true _ (Kd.C_alloc G0.out _) G0l.out (ints_lit _ awk_aC0 (by decide)) (Nat.le_refl _) r_i0).mono ?_
 rintro e w3 ⟨rfl, hb⟩
 have hB2 : Below w2.heap.size w2 w3 := below_step (below_alloc (Below.refl _ _) _) hb.below
 have h93 := pw_cell_below hB2 h93
 clear h90
 clear FC FCl
 have XD2 := Aside0.mk (blk_below XD.out hB2)
 have hB_ := hB2
 replace FD := Aside0.mk (Kd.C_below FD.out hB_)
 replace G3 := Aside0.mk (Kd.C_below G3.out hB_)
 replace HB := Aside0.mk (below_step HB.out hB_)
 clear hB_ hb
 clear hB2
 go_wp2_with (fail)
 refine (dancestudioref09_Ints.calls 100 A10 c10 awk_aC3 _ _ awk_aC3 true _ (Kd.C_alloc G3.out _) G3l.out (ints_lit _ awk_aC3 (by decide)) (Nat.le_refl _) r_i3).mono ?_
 rintro e w4 ⟨rfl, hb⟩
 have XE := Aside0.mk (blk_below XD2.out (below_step (below_alloc (Below.refl _ _) _) hb.below))
 have hB_ := below_step (below_alloc (Below.refl _ _) _) hb.below
 replace FD := Aside0.mk (Kd.C_below FD.out hB_)
 replace G3 := Aside0.mk (Kd.C_below G3.out hB_)
 replace HB := Aside0.mk (below_step HB.out hB_)
 clear hB_ hb
 clear h93
 go_wp2_with (fail)
 refine (dancestudiolaw09_sample.calls _ _ awk_aQ 5 awk_smQ _ (arcs_lit _ awk_aQ (by decide)) (Nat.le_refl _) r_smQ).mono ?_
 rintro e w1 ⟨v11, rfl, hR, hb⟩
 obtain ⟨A1, c1, rfl, hl_, hC_⟩ := Kd.R_reads hR
 have XF := Aside0.mk (blk_below XE.out (below_step (below_alloc (Below.refl _ _) _) hb))
 have hB_ := below_step (below_alloc (Below.refl _ _) _) hb
 replace FD := Aside0.mk (Kd.C_below FD.out hB_)
 replace HB := Aside0.mk (below_step HB.out hB_)
 clear hB_ hb
 have F1 := Aside0.mk hC_
 have F1l := Aside0.mk hl_
 clear hR hC_ hl_
 go_wp2_with (fail)
 refine (graph_Check.calls 100 5 A1 c1 awk_smQ 6 _ F1.out F1l.out r_K).mono ?_
 rintro e w5 ⟨rfl, hb⟩
 have XG := Aside0.mk (blk_below XF.out hb)
 have hB_ := hb
 replace FD := Aside0.mk (Kd.C_below FD.out hB_)
 replace F1 := Aside0.mk (Kd.C_below F1.out hB_)
 replace HB := Aside0.mk (below_step HB.out hB_)
 clear hB_ hb
 clear F1 F1l
 have hg0 : w5.cell? ⟨gd, 0, none⟩ = some (.int .i64 3) := (blk_cell XG.out 0).trans rfl
 have hg1 : w5.cell? ⟨gd, 1, none⟩ = some (.slice A6 awk_aD.length c6) := (blk_cell XG.out 1).trans rfl
 go_wp2_with (fail)
 refine (dancestudioref09_Same.calls 100 3 A6 c6 awk_aD 3 _ _ awk_aD true _ (Kd.C_alloc FD.out _) FDl.out (arcs_lit _ awk_aD (by decide)) (Nat.le_refl _) r_S).mono ?_
 rintro e w6 ⟨rfl, hb⟩
 have hB_ := below_step (below_alloc (Below.refl _ _) _) hb
 replace FD := Aside0.mk (Kd.C_below FD.out hB_)
 replace HB := Aside0.mk (below_step HB.out hB_)
 clear hB_ hb
 go_wp2
 go_ret
 exact ⟨rfl, HB.out⟩
def dancestudiolaw09_awake.f : Option (Bool) := some true
theorem dancestudiolaw09_awake.calls (r : Bool) (w : World) (h : dancestudiolaw09_awake.f = some r) : Calls Try.prog 13 #[] w fun e w' => e = .returned (.bool r) ∧ Below w.heap.size w w' := by
 obtain rfl := Option.some.inj h
 exact awake_walk w

end Go.Proofs.Ytlbkbodadkhogaa.X
