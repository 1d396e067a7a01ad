/- Written by wip/myprint.py of this repo (the kit's print, with additions of this session). -/
import Derived.Test.YtacaeebjanglgaaQFnExactBeginx0
import Derived.Test.YtacaeebjanglgaaQFnExactBeginx3
set_option maxRecDepth 100000
namespace Go.Proofs.Ytacaeebjanglgaa.QFnExactBegin
open Go.RowKit Go.Proofs.YtacaeebjanglgaaW.PrintWords Go.Proofs.YtacaeebjanglgaaW.PrintLast Go.Proofs.YtacaeebjanglgaaW.PrintMore
attribute [local go_sem] max2_int min2_int max_two min_two max_three min_three max_four min_four   -- for this text's walks alone
set_option linter.unusedVariables false
set_option linter.unusedSimpArgs false

/-! ### laws_heldBlobS: function 66 -/
def laws_heldBlobS.l0 : Nat → List (S66) → Int → Int → Option (Int)
 | 0, _, _, _ => none
 | k + 1, x0, x1, x5 => if x5 < (x0.length : Int) then (if 0 ≤ x5 then ((laws_markText.f k x1).bind fun t392 => (if ((rd_T66 x0 x5).f0).toList = t392.toList then ((laws_markText.f k (wrap64 (x1 + 1))).bind fun t394 => (if ((rd_T66 x0 x5).f1).toList = t394.toList then (laws_heldBlobS.l0 k x0 (wrap64 ((wrap64 (x1 + 1)) + 1)) (wrap64 (x5 + 1))) else (some (-1)))) else (some (-1)))) else (none)) else (some x1)
def laws_heldBlobS.f (k : Nat) (l0 : List (S66)) (a1 : Int) : Option (Int) := laws_heldBlobS.l0 k l0 a1 0
theorem laws_heldBlobS.mono_l : ∀ k, (∀ y0 y1 y2, LeO (laws_heldBlobS.l0 k y0 y1 y2) (laws_heldBlobS.l0 (k + 1) y0 y1 y2))
 | 0 => fun _ _ _ r h => by simp [laws_heldBlobS.l0] at h
 | k + 1 => by
  have ih0 := laws_heldBlobS.mono_l k
  ·
   intro y0 y1 y2
   unfold laws_heldBlobS.l0
   repeat' first
   | (with_reducible exact ih0 _ _ _)
   | (with_reducible exact laws_markText.mono _ _)
   | (with_reducible exact LeO.refl _)
   | (with_reducible exact LeO.none _)
   | (with_reducible refine LeO.ite ?_ ?_)
   | (with_reducible refine LeO.bind ?_ (fun _ => ?_))
   | exact LeO.none _
   | refine LeO.ite ?_ ?_
   | refine LeO.bind ?_ (fun _ => ?_)
theorem laws_heldBlobS.mono : ∀ a0 a1 k, LeO (laws_heldBlobS.f k a0 a1) (laws_heldBlobS.f (k + 1) a0 a1) := by
 intro a0 a1 k
 have ih0 := laws_heldBlobS.mono_l k
 unfold laws_heldBlobS.f
 repeat' first
   | (with_reducible exact ih0 _ _ _)
   | (with_reducible exact laws_markText.mono _ _)
   | (with_reducible exact LeO.refl _)
   | (with_reducible exact LeO.none _)
   | (with_reducible refine LeO.ite ?_ ?_)
   | (with_reducible refine LeO.bind ?_ (fun _ => ?_))
   | exact LeO.none _
   | refine LeO.ite ?_ ?_
   | refine LeO.bind ?_ (fun _ => ?_)
def laws_heldBlobS.T4 : Bool × List (List Nat × List Nat) := (true, [([], []), ([], []), ([0, 1], [0, 1]), ([2], [2]), ([3], [3]), ([], []), ([5], [5]), ([4, 6], [4, 6])])
def laws_heldBlobS.B4 : List Nat := [0, 0, 3, 7, 15, 0, 32, 127]
theorem laws_heldBlobS.tab4 : rtab .any (opsOf Try.f66 4) = laws_heldBlobS.T4 := by kernel_rfl
theorem laws_heldBlobS.bits4 : waitsOk laws_heldBlobS.T4.2 laws_heldBlobS.B4 = true := by kernel_rfl
def laws_heldBlobS.T7 : Bool × List (List Nat × List Nat) := (true, [([], []), ([], []), ([0, 1], [0, 1]), ([2], [2]), ([3], [3]), ([], []), ([5], [5]), ([4, 6], [4, 6])])
def laws_heldBlobS.B7 : List Nat := [0, 0, 3, 7, 15, 0, 32, 127]
theorem laws_heldBlobS.tab7 : rtab .any (opsOf Try.f66 7) = laws_heldBlobS.T7 := by kernel_rfl
theorem laws_heldBlobS.bits7 : waitsOk laws_heldBlobS.T7.2 laws_heldBlobS.B7 = true := by kernel_rfl
set_option maxHeartbeats 8000000 in
set_option maxRecDepth 100000 in
theorem laws_heldBlobS.calls (k : Nat) (A0 : Option Addr) (c0 : Nat) (l0 : List (S66)) (a1 : Int) (r : Int) (w : World) (hr0 : Kd.C k66 w A0 l0.length l0) (hc0 : l0.length ≤ c0) (h : laws_heldBlobS.f k l0 a1 = some r) :
  Calls Try.prog 66 #[.slice A0 l0.length c0, .int .i64 a1] w fun e w' => e = .returned (.int .i64 r) ∧ Below w.heap.size w w' := by
 have HR0 := Aside0.mk hr0
 have HC0 := Aside0.mk hc0
 clear hr0 hc0
 have HB := Aside0.mk (Below.refl w.heap.size w)
 have H : (laws_heldBlobS.l0 k l0 a1 0) = some r := h
 clear h
 have H' := Aside0.mk H
 clear H
 go_enter Try.func66, Try.ntmps66
 go_wp2
 go_loopg [1, 5] k (fun kq v1 v5 w' => ∃ (x1_1 : Int) (x5_1 : Int), v1 = .int .i64 x1_1 ∧ v5 = .int .i64 x5_1 ∧ Aside0 (laws_heldBlobS.l0 kq l0 x1_1 x5_1 = some r) ∧ Aside0 (kq ≤ k) ∧ Aside0 (Below w.heap.size w w'))
 case atStart => exact ⟨(a1), (0), zq6, zq6, H', ⟨Nat.le_refl _⟩, ⟨zq3⟩⟩
 case round =>
  clear H'
  try clear p2
  obtain ⟨x1_1, x5_1, rfl, rfl, HA, HK1, HB⟩ := hrel
  cases gk with
  | zero => exact absurd HA.out (by simp [laws_heldBlobS.l0])
  | succ k1 =>
   have H := HA.out
   clear HA
   simp only [laws_heldBlobS.l0] at H
   by_cases c3 : x5_1 < (l0.length : Int)
   ·
    rw [if_pos c3] at H
    have c3b0 := decide_eq_true c3
    clear c3
    by_cases c4 : 0 ≤ x5_1
    ·
     rw [if_pos c4] at H
     have c4b0 := decide_eq_true c4
     clear c4
     replace H := Option.bind_eq_some_iff.mp H
     obtain ⟨t392, A50, H⟩ := H
     try dsimp only at H
     have A5 := Aside0.mk A50
     clear A50
     by_cases c6 : ((rd_T66 l0 x5_1).f0).toList = t392.toList
     ·
      rw [if_pos c6] at H
      have c6b0 : (((rd_T66 l0 x5_1).f0).toList == t392.toList) = true := beq_iff_eq.mpr c6
      have c6b1 : (((rd_T66 l0 x5_1).f0).toList != t392.toList) = false := bne_eq_false_iff_eq.mpr c6
      clear c6
      replace H := Option.bind_eq_some_iff.mp H
      obtain ⟨t394, A70, H⟩ := H
      try dsimp only at H
      have A7 := Aside0.mk A70
      clear A70
      by_cases c8 : ((rd_T66 l0 x5_1).f1).toList = t394.toList
      ·
       rw [if_pos c8] at H
       have c8b0 : (((rd_T66 l0 x5_1).f1).toList == t394.toList) = true := beq_iff_eq.mpr c8
       have c8b1 : (((rd_T66 l0 x5_1).f1).toList != t394.toList) = false := bne_eq_false_iff_eq.mpr c8
       clear c8
       have H' := Aside0.mk H
       clear H
       try go_wp2
       replace HB := Aside0.mk (below_drew1 HB.out)
       have p391 : 0 ≤ (x5_1 : Int) := of_decide_eq_true zq7
       have q391 : x5_1 < (l0.length : Int) := of_decide_eq_true zq7
       obtain ⟨ad391, e391, hx391_0, hx391_1⟩ := at_T66 HR0.out x5_1 p391 q391
       have hw391_1 := hx391_1
       have hw391_0 := hx391_0
       cases e391
       replace hx391_0 := (HB.out.cell (World.block_lt_of_cell? w _ hx391_0)).trans hx391_0
       replace hx391_1 := (HB.out.cell (World.block_lt_of_cell? w _ hx391_1)).trans hx391_1
       replace p391 := eq_true p391
       replace q391 := eq_true q391
       refine start_ (n := 8) (S := fun w' => w'.cell? (ad391.add ((x5_1).toNat * 2)) = some (.string ((rd_T66 l0 x5_1).f0)) ∧ w'.cell? ⟨(ad391.add ((x5_1).toNat * 2)).block, (ad391.add ((x5_1).toNat * 2)).off + 1, none⟩ = some (.string ((rd_T66 l0 x5_1).f1))) (ds := []) (bA 8 0) (by kernel_rfl) rfl rfl ⟨((HB.out.cell (World.block_lt_of_cell? w _ hw391_0)).trans hw391_0), ((HB.out.cell (World.block_lt_of_cell? w _ hw391_1)).trans hw391_1)⟩ (fun hHeld => ?_); refine with_tabW laws_heldBlobS.tab4 laws_heldBlobS.bits4 (fun HT_ HW_ => ?_)
       generalize wr.drew = w9 at HB hx391_0 hx391_1 hHeld ⊢
       refine pV 0 12 8 1 ?_
       refine pV 1 13 8 3 ?_
       refine pV 2 14 8 7 ?_
       refine pV 3 15 8 15 ?_
       refine pV 5 17 8 47 ?_
       refine tV 4 16 8 63 rfl zq335 ?_
       refine one_ (i := 6) (N := some 18) (bA 8 127) rfl rfl (one_of HT_.out (by kernel_rfl)) (by decide) (fun K hK => ?_)
       refine goes_ Try.func63 (by kernel_rfl) rfl #[.int .i64 x1_1] (by rfl) rfl rfl zq8 ?_
       with_reducible refine (laws_markText.calls k1 x1_1 t392 _ A5.out).mono ?_
       rintro e w10 ⟨rfl, hb⟩
       refine ⟨_, rfl, ?_⟩
       replace HB := sB zq3 hb
       (try clear hb)
       (try clear hb2)
       (try clear hk)
       (try clear hi)
       refine hK.out _ _ ⟨((HB.out.cell (World.block_lt_of_cell? w _ hw391_0)).trans hw391_0), ((HB.out.cell (World.block_lt_of_cell? w _ hw391_1)).trans hw391_1)⟩ (fun hHeld => ?_)
       clear hK K
       refine norm_ (a' := ?_) ?_ ?_
       rotate_left
       exact zq336
       refine pV 7 19 8 255 ?_
       refine done_ (done_of HT_.out (by kernel_rfl)) ?_
       try go_wp2
       replace HB := Aside0.mk (below_drew1 HB.out)
       have p393 : 0 ≤ (x5_1 : Int) := of_decide_eq_true zq7
       have q393 : x5_1 < (l0.length : Int) := of_decide_eq_true zq7
       obtain ⟨ad393, e393, hx393_0, hx393_1⟩ := at_T66 HR0.out x5_1 p393 q393
       have hw393_1 := hx393_1
       have hw393_0 := hx393_0
       obtain rfl : ad391 = ad393 := (by injection e393)
       replace hx393_0 := (HB.out.cell (World.block_lt_of_cell? w _ hx393_0)).trans hx393_0
       replace hx393_1 := (HB.out.cell (World.block_lt_of_cell? w _ hx393_1)).trans hx393_1
       replace p393 := eq_true p393
       replace q393 := eq_true q393
       refine start_ (n := 8) (S := fun w' => w'.cell? (ad391.add ((x5_1).toNat * 2)) = some (.string ((rd_T66 l0 x5_1).f0)) ∧ w'.cell? ⟨(ad391.add ((x5_1).toNat * 2)).block, (ad391.add ((x5_1).toNat * 2)).off + 1, none⟩ = some (.string ((rd_T66 l0 x5_1).f1))) (ds := []) (bA 8 0) (by kernel_rfl) rfl rfl ⟨((HB.out.cell (World.block_lt_of_cell? w _ hw393_0)).trans hw393_0), ((HB.out.cell (World.block_lt_of_cell? w _ hw393_1)).trans hw393_1)⟩ (fun hHeld => ?_); refine with_tabW laws_heldBlobS.tab7 laws_heldBlobS.bits7 (fun HT_ HW_ => ?_)
       generalize w10.drew = w11 at HB hx393_0 hx393_1 hHeld ⊢
       refine pV 0 22 8 1 ?_
       refine pV 1 23 8 3 ?_
       refine pV 2 24 8 7 ?_
       refine pV 3 25 8 15 ?_
       refine pV 5 27 8 47 ?_
       refine tV 4 26 8 63 rfl zq335 ?_
       refine one_ (i := 6) (N := some 28) (bA 8 127) rfl rfl (one_of HT_.out (by kernel_rfl)) (by decide) (fun K hK => ?_)
       refine goes_ Try.func63 (by kernel_rfl) rfl #[.int .i64 (wrap64 (x1_1 + 1))] (by rfl) rfl rfl zq8 ?_
       with_reducible refine (laws_markText.calls k1 (wrap64 (x1_1 + 1)) t394 _ A7.out).mono ?_
       rintro e w12 ⟨rfl, hb⟩
       refine ⟨_, rfl, ?_⟩
       replace HB := sB zq3 hb
       (try clear hb)
       (try clear hb2)
       (try clear hk)
       (try clear hi)
       refine hK.out _ _ ⟨((HB.out.cell (World.block_lt_of_cell? w _ hw393_0)).trans hw393_0), ((HB.out.cell (World.block_lt_of_cell? w _ hw393_1)).trans hw393_1)⟩ (fun hHeld => ?_)
       clear hK K
       refine norm_ (a' := ?_) ?_ ?_
       rotate_left
       ·
        show Act.put _ (some 28) _ = _
        simp only [Act.put, List.setIfInBounds_toArray, List.set_cons_zero, List.set_cons_succ, i64_w, i32_w]
        rfl
       refine pV 7 29 8 255 ?_
       refine done_ (done_of HT_.out (by kernel_rfl)) ?_
       try go_wp2
       go_roundg k1
       case measure => have := HK1.out; omega
       case rel => exact ⟨(wrap64 ((wrap64 (x1_1 + 1)) + 1)), (wrap64 (x5_1 + 1)), zq6, zq6, H', ⟨zq9⟩, ⟨zq3⟩⟩
      rw [if_neg c8] at H
      have c8b0 : (((rd_T66 l0 x5_1).f1).toList == t394.toList) = false := beq_eq_false_iff_ne.mpr c8
      have c8b1 : (((rd_T66 l0 x5_1).f1).toList != t394.toList) = true := bne_iff_ne.mpr c8
      obtain rfl := Option.some.inj H
      try go_wp2
      replace HB := Aside0.mk (below_drew1 HB.out)
      have p391 : 0 ≤ (x5_1 : Int) := of_decide_eq_true zq7
      have q391 : x5_1 < (l0.length : Int) := of_decide_eq_true zq7
      obtain ⟨ad391, e391, hx391_0, hx391_1⟩ := at_T66 HR0.out x5_1 p391 q391
      have hw391_1 := hx391_1
      have hw391_0 := hx391_0
      cases e391
      replace hx391_0 := (HB.out.cell (World.block_lt_of_cell? w _ hx391_0)).trans hx391_0
      replace hx391_1 := (HB.out.cell (World.block_lt_of_cell? w _ hx391_1)).trans hx391_1
      replace p391 := eq_true p391
      replace q391 := eq_true q391
      refine start_ (n := 8) (S := fun w' => w'.cell? (ad391.add ((x5_1).toNat * 2)) = some (.string ((rd_T66 l0 x5_1).f0)) ∧ w'.cell? ⟨(ad391.add ((x5_1).toNat * 2)).block, (ad391.add ((x5_1).toNat * 2)).off + 1, none⟩ = some (.string ((rd_T66 l0 x5_1).f1))) (ds := []) (bA 8 0) (by kernel_rfl) rfl rfl ⟨((HB.out.cell (World.block_lt_of_cell? w _ hw391_0)).trans hw391_0), ((HB.out.cell (World.block_lt_of_cell? w _ hw391_1)).trans hw391_1)⟩ (fun hHeld => ?_); refine with_tabW laws_heldBlobS.tab4 laws_heldBlobS.bits4 (fun HT_ HW_ => ?_)
      generalize wr.drew = w13 at HB hx391_0 hx391_1 hHeld ⊢
      refine pV 0 12 8 1 ?_
      refine pV 1 13 8 3 ?_
      refine pV 2 14 8 7 ?_
      refine pV 3 15 8 15 ?_
      refine pV 5 17 8 47 ?_
      refine tV 4 16 8 63 rfl zq335 ?_
      refine one_ (i := 6) (N := some 18) (bA 8 127) rfl rfl (one_of HT_.out (by kernel_rfl)) (by decide) (fun K hK => ?_)
      refine goes_ Try.func63 (by kernel_rfl) rfl #[.int .i64 x1_1] (by rfl) rfl rfl zq8 ?_
      with_reducible refine (laws_markText.calls k1 x1_1 t392 _ A5.out).mono ?_
      rintro e w14 ⟨rfl, hb⟩
      refine ⟨_, rfl, ?_⟩
      replace HB := sB zq3 hb
      (try clear hb)
      (try clear hb2)
      (try clear hk)
      (try clear hi)
      refine hK.out _ _ ⟨((HB.out.cell (World.block_lt_of_cell? w _ hw391_0)).trans hw391_0), ((HB.out.cell (World.block_lt_of_cell? w _ hw391_1)).trans hw391_1)⟩ (fun hHeld => ?_)
      clear hK K
      refine norm_ (a' := ?_) ?_ ?_
      rotate_left
      exact zq336
      refine pV 7 19 8 255 ?_
      refine done_ (done_of HT_.out (by kernel_rfl)) ?_
      try go_wp2
      replace HB := Aside0.mk (below_drew1 HB.out)
      have p393 : 0 ≤ (x5_1 : Int) := of_decide_eq_true zq7
      have q393 : x5_1 < (l0.length : Int) := of_decide_eq_true zq7
      obtain ⟨ad393, e393, hx393_0, hx393_1⟩ := at_T66 HR0.out x5_1 p393 q393
      have hw393_1 := hx393_1
      have hw393_0 := hx393_0
      obtain rfl : ad391 = ad393 := (by injection e393)
      replace hx393_0 := (HB.out.cell (World.block_lt_of_cell? w _ hx393_0)).trans hx393_0
      replace hx393_1 := (HB.out.cell (World.block_lt_of_cell? w _ hx393_1)).trans hx393_1
      replace p393 := eq_true p393
      replace q393 := eq_true q393
      refine start_ (n := 8) (S := fun w' => w'.cell? (ad391.add ((x5_1).toNat * 2)) = some (.string ((rd_T66 l0 x5_1).f0)) ∧ w'.cell? ⟨(ad391.add ((x5_1).toNat * 2)).block, (ad391.add ((x5_1).toNat * 2)).off + 1, none⟩ = some (.string ((rd_T66 l0 x5_1).f1))) (ds := []) (bA 8 0) (by kernel_rfl) rfl rfl ⟨((HB.out.cell (World.block_lt_of_cell? w _ hw393_0)).trans hw393_0), ((HB.out.cell (World.block_lt_of_cell? w _ hw393_1)).trans hw393_1)⟩ (fun hHeld => ?_); refine with_tabW laws_heldBlobS.tab7 laws_heldBlobS.bits7 (fun HT_ HW_ => ?_)
      generalize w14.drew = w15 at HB hx393_0 hx393_1 hHeld ⊢
      refine pV 0 22 8 1 ?_
      refine pV 1 23 8 3 ?_
      refine pV 2 24 8 7 ?_
      refine pV 3 25 8 15 ?_
      refine pV 5 27 8 47 ?_
      refine tV 4 26 8 63 rfl zq335 ?_
      refine one_ (i := 6) (N := some 28) (bA 8 127) rfl rfl (one_of HT_.out (by kernel_rfl)) (by decide) (fun K hK => ?_)
      refine goes_ Try.func63 (by kernel_rfl) rfl #[.int .i64 (wrap64 (x1_1 + 1))] (by rfl) rfl rfl zq8 ?_
      with_reducible refine (laws_markText.calls k1 (wrap64 (x1_1 + 1)) t394 _ A7.out).mono ?_
      rintro e w16 ⟨rfl, hb⟩
      refine ⟨_, rfl, ?_⟩
      replace HB := sB zq3 hb
      (try clear hb)
      (try clear hb2)
      (try clear hk)
      (try clear hi)
      refine hK.out _ _ ⟨((HB.out.cell (World.block_lt_of_cell? w _ hw393_0)).trans hw393_0), ((HB.out.cell (World.block_lt_of_cell? w _ hw393_1)).trans hw393_1)⟩ (fun hHeld => ?_)
      clear hK K
      refine norm_ (a' := ?_) ?_ ?_
      rotate_left
      ·
       show Act.put _ (some 28) _ = _
       simp only [Act.put, List.setIfInBounds_toArray, List.set_cons_zero, List.set_cons_succ, i64_w, i32_w]
       rfl
      refine pV 7 29 8 255 ?_
      refine done_ (done_of HT_.out (by kernel_rfl)) ?_
      try go_wp2
      go_ret
      exact ⟨zq4, zq3⟩
     rw [if_neg c6] at H
     have c6b0 : (((rd_T66 l0 x5_1).f0).toList == t392.toList) = false := beq_eq_false_iff_ne.mpr c6
     have c6b1 : (((rd_T66 l0 x5_1).f0).toList != t392.toList) = true := bne_iff_ne.mpr c6
     obtain rfl := Option.some.inj H
     try go_wp2
     replace HB := Aside0.mk (below_drew1 HB.out)
     have p391 : 0 ≤ (x5_1 : Int) := of_decide_eq_true zq7
     have q391 : x5_1 < (l0.length : Int) := of_decide_eq_true zq7
     obtain ⟨ad391, e391, hx391_0, hx391_1⟩ := at_T66 HR0.out x5_1 p391 q391
     have hw391_1 := hx391_1
     have hw391_0 := hx391_0
     cases e391
     replace hx391_0 := (HB.out.cell (World.block_lt_of_cell? w _ hx391_0)).trans hx391_0
     replace hx391_1 := (HB.out.cell (World.block_lt_of_cell? w _ hx391_1)).trans hx391_1
     replace p391 := eq_true p391
     replace q391 := eq_true q391
     refine start_ (n := 8) (S := fun w' => w'.cell? (ad391.add ((x5_1).toNat * 2)) = some (.string ((rd_T66 l0 x5_1).f0)) ∧ w'.cell? ⟨(ad391.add ((x5_1).toNat * 2)).block, (ad391.add ((x5_1).toNat * 2)).off + 1, none⟩ = some (.string ((rd_T66 l0 x5_1).f1))) (ds := []) (bA 8 0) (by kernel_rfl) rfl rfl ⟨((HB.out.cell (World.block_lt_of_cell? w _ hw391_0)).trans hw391_0), ((HB.out.cell (World.block_lt_of_cell? w _ hw391_1)).trans hw391_1)⟩ (fun hHeld => ?_); refine with_tabW laws_heldBlobS.tab4 laws_heldBlobS.bits4 (fun HT_ HW_ => ?_)
     generalize wr.drew = w17 at HB hx391_0 hx391_1 hHeld ⊢
     refine pV 0 12 8 1 ?_
     refine pV 1 13 8 3 ?_
     refine pV 2 14 8 7 ?_
     refine pV 3 15 8 15 ?_
     refine pV 5 17 8 47 ?_
     refine tV 4 16 8 63 rfl zq335 ?_
     refine one_ (i := 6) (N := some 18) (bA 8 127) rfl rfl (one_of HT_.out (by kernel_rfl)) (by decide) (fun K hK => ?_)
     refine goes_ Try.func63 (by kernel_rfl) rfl #[.int .i64 x1_1] (by rfl) rfl rfl zq8 ?_
     with_reducible refine (laws_markText.calls k1 x1_1 t392 _ A5.out).mono ?_
     rintro e w18 ⟨rfl, hb⟩
     refine ⟨_, rfl, ?_⟩
     replace HB := sB zq3 hb
     (try clear hb)
     (try clear hb2)
     (try clear hk)
     (try clear hi)
     refine hK.out _ _ ⟨((HB.out.cell (World.block_lt_of_cell? w _ hw391_0)).trans hw391_0), ((HB.out.cell (World.block_lt_of_cell? w _ hw391_1)).trans hw391_1)⟩ (fun hHeld => ?_)
     clear hK K
     refine norm_ (a' := ?_) ?_ ?_
     rotate_left
     exact zq336
     refine pV 7 19 8 255 ?_
     refine done_ (done_of HT_.out (by kernel_rfl)) ?_
     try go_wp2
     go_ret
     exact ⟨zq4, zq3⟩
    exact zq337
   rw [if_neg c3] at H
   have c3b0 := decide_eq_false c3
   clear c3
   obtain rfl := Option.some.inj H
   go_wp2
   go_ret
   exact ⟨zq4, zq3⟩

end Go.Proofs.Ytacaeebjanglgaa.QFnExactBegin
