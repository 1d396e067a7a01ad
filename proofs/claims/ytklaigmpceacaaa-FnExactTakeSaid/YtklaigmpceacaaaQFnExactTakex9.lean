/- Written by wip/myprint.py of this repo (the kit's print, with additions of this session). -/
import Derived.Test.YtklaigmpceacaaaQFnExactTakex0
import Derived.Test.YtklaigmpceacaaaQFnExactTakex8
set_option maxRecDepth 100000
namespace Go.Proofs.Ytklaigmpceacaaa.QFnExactTake
open Go.RowKit Go.Proofs.YtklaigmpceacaaaW.PrintWords Go.Proofs.YtklaigmpceacaaaW.PrintLast Go.Proofs.YtklaigmpceacaaaW.PrintMore
attribute [local go_sem] max2_int min2_int max_two min_two max_three min_three max_four min_four   -- for this text's walks alone
set_option linter.unusedVariables false
set_option linter.unusedSimpArgs false

/-! ### laws_heldPacketS: function 48 -/
def laws_heldPacketS.l0 : Nat → List (S39) → Int → Int → Option (Int)
 | 0, _, _, _ => none
 | k + 1, x0, x1, x5 => if x5 < (x0.length : Int) then (if 0 ≤ x5 then (if ((rd_T39 x0 x5).f0) = x1 then (if ((rd_T39 x0 x5).f1) = (wrap64 (x1 + 1)) then (if ((rd_T39 x0 x5).f2) = (wrap64 ((wrap64 (x1 + 1)) + 1)) then ((laws_markText.f k (wrap64 ((wrap64 ((wrap64 (x1 + 1)) + 1)) + 1))).bind fun t222 => (if ((rd_T39 x0 x5).f3).toList = t222.toList then (laws_heldPacketS.l0 k x0 (wrap64 ((wrap64 ((wrap64 ((wrap64 (x1 + 1)) + 1)) + 1)) + 1)) (wrap64 (x5 + 1))) else (some (-1)))) else (some (-1))) else (some (-1))) else (some (-1))) else (none)) else (some x1)
def laws_heldPacketS.f (k : Nat) (l0 : List (S39)) (a1 : Int) : Option (Int) := laws_heldPacketS.l0 k l0 a1 0
theorem laws_heldPacketS.mono_l : ∀ k, (∀ y0 y1 y2, LeO (laws_heldPacketS.l0 k y0 y1 y2) (laws_heldPacketS.l0 (k + 1) y0 y1 y2))
 | 0 => fun _ _ _ r h => by simp [laws_heldPacketS.l0] at h
 | k + 1 => by
  have ih0 := laws_heldPacketS.mono_l k
  ·
   intro y0 y1 y2
   unfold laws_heldPacketS.l0
   repeat' first
   | (with_reducible exact ih0 _ _ _)
   | (with_reducible exact laws_markText.mono _ _)
   | (with_reducible exact LeO.refl _)
   | (with_reducible exact LeO.none _)
   | (with_reducible refine LeO.ite ?_ ?_)
   | (with_reducible refine LeO.bind ?_ (fun _ => ?_))
   | exact LeO.none _
   | refine LeO.ite ?_ ?_
   | refine LeO.bind ?_ (fun _ => ?_)
theorem laws_heldPacketS.mono : ∀ a0 a1 k, LeO (laws_heldPacketS.f k a0 a1) (laws_heldPacketS.f (k + 1) a0 a1) := by
 intro a0 a1 k
 have ih0 := laws_heldPacketS.mono_l k
 unfold laws_heldPacketS.f
 repeat' first
   | (with_reducible exact ih0 _ _ _)
   | (with_reducible exact laws_markText.mono _ _)
   | (with_reducible exact LeO.refl _)
   | (with_reducible exact LeO.none _)
   | (with_reducible refine LeO.ite ?_ ?_)
   | (with_reducible refine LeO.bind ?_ (fun _ => ?_))
   | exact LeO.none _
   | refine LeO.ite ?_ ?_
   | refine LeO.bind ?_ (fun _ => ?_)
def laws_heldPacketS.T13 : Bool × List (List Nat × List Nat) := (true, [([], []), ([], []), ([0, 1], [0, 1]), ([2], [2]), ([3], [3]), ([], []), ([5], [5]), ([4, 6], [4, 6])])
def laws_heldPacketS.B13 : List Nat := [0, 0, 3, 7, 15, 0, 32, 127]
theorem laws_heldPacketS.tab13 : rtab .any (opsOf Try.f48 13) = laws_heldPacketS.T13 := by kernel_rfl
theorem laws_heldPacketS.bits13 : waitsOk laws_heldPacketS.T13.2 laws_heldPacketS.B13 = true := by kernel_rfl
set_option maxHeartbeats 8000000 in
set_option maxRecDepth 100000 in
theorem laws_heldPacketS.calls (k : Nat) (A0 : Option Addr) (c0 : Nat) (l0 : List (S39)) (a1 : Int) (r : Int) (w : World) (hr0 : Kd.C k39 w A0 l0.length l0) (hc0 : l0.length ≤ c0) (h : laws_heldPacketS.f k l0 a1 = some r) :
  Calls Try.prog 48 #[.slice A0 l0.length c0, .int .i64 a1] w fun e w' => e = .returned (.int .i64 r) ∧ Below w.heap.size w w' := by
 have HR0 := Aside0.mk hr0
 have HC0 := Aside0.mk hc0
 clear hr0 hc0
 have HB := Aside0.mk (Below.refl w.heap.size w)
 have H : (laws_heldPacketS.l0 k l0 a1 0) = some r := h
 clear h
 have H' := Aside0.mk H
 clear H
 go_enter Try.func48, Try.ntmps48
 go_wp2
 go_loopg [1, 5] k (fun kq v1 v5 w' => ∃ (x1_1 : Int) (x5_1 : Int), v1 = .int .i64 x1_1 ∧ v5 = .int .i64 x5_1 ∧ Aside0 (laws_heldPacketS.l0 kq l0 x1_1 x5_1 = some r) ∧ Aside0 (kq ≤ k) ∧ Aside0 (Below w.heap.size w w'))
 case atStart => exact ⟨(a1), (0), zq5, zq5, H', ⟨Nat.le_refl _⟩, ⟨zq2⟩⟩
 case round =>
  clear H'
  try clear p2
  obtain ⟨x1_1, x5_1, rfl, rfl, HA, HK1, HB⟩ := hrel
  cases gk with
  | zero => exact absurd HA.out (by simp [laws_heldPacketS.l0])
  | succ k1 =>
   have H := HA.out
   clear HA
   simp only [laws_heldPacketS.l0] at H
   by_cases c3 : x5_1 < (l0.length : Int)
   ·
    rw [if_pos c3] at H
    have c3b0 := decide_eq_true c3
    clear c3
    by_cases c4 : 0 ≤ x5_1
    ·
     rw [if_pos c4] at H
     have c4b0 := decide_eq_true c4
     clear c4
     by_cases c5 : ((rd_T39 l0 x5_1).f0) = x1_1
     ·
      rw [if_pos c5] at H
      have c5b0 : (((rd_T39 l0 x5_1).f0) == x1_1) = true := beq_iff_eq.mpr c5
      have c5b1 : (((rd_T39 l0 x5_1).f0) != x1_1) = false := bne_eq_false_iff_eq.mpr c5
      clear c5
      by_cases c6 : ((rd_T39 l0 x5_1).f1) = (wrap64 (x1_1 + 1))
      ·
       rw [if_pos c6] at H
       have c6b0 : (((rd_T39 l0 x5_1).f1) == (wrap64 (x1_1 + 1))) = true := beq_iff_eq.mpr c6
       have c6b1 : (((rd_T39 l0 x5_1).f1) != (wrap64 (x1_1 + 1))) = false := bne_eq_false_iff_eq.mpr c6
       clear c6
       by_cases c7 : ((rd_T39 l0 x5_1).f2) = (wrap64 ((wrap64 (x1_1 + 1)) + 1))
       ·
        rw [if_pos c7] at H
        have c7b0 : (((rd_T39 l0 x5_1).f2) == (wrap64 ((wrap64 (x1_1 + 1)) + 1))) = true := beq_iff_eq.mpr c7
        have c7b1 : (((rd_T39 l0 x5_1).f2) != (wrap64 ((wrap64 (x1_1 + 1)) + 1))) = false := bne_eq_false_iff_eq.mpr c7
        clear c7
        replace H := Option.bind_eq_some_iff.mp H
        obtain ⟨t222, A80, H⟩ := H
        try dsimp only at H
        have A8 := Aside0.mk A80
        clear A80
        by_cases c9 : ((rd_T39 l0 x5_1).f3).toList = t222.toList
        ·
         rw [if_pos c9] at H
         have c9b0 : (((rd_T39 l0 x5_1).f3).toList == t222.toList) = true := beq_iff_eq.mpr c9
         have c9b1 : (((rd_T39 l0 x5_1).f3).toList != t222.toList) = false := bne_eq_false_iff_eq.mpr c9
         clear c9
         have H' := Aside0.mk H
         clear H
         have p218 : 0 ≤ (x5_1 : Int) := of_decide_eq_true zq6
         have q218 : x5_1 < (l0.length : Int) := of_decide_eq_true zq6
         obtain ⟨ad218, e218, hx218_0, hx218_1, hx218_2, hx218_3⟩ := at_T39 HR0.out x5_1 p218 q218
         cases e218
         replace hx218_0 := (HB.out.cell (World.block_lt_of_cell? w _ hx218_0)).trans hx218_0
         replace hx218_1 := (HB.out.cell (World.block_lt_of_cell? w _ hx218_1)).trans hx218_1
         replace hx218_2 := (HB.out.cell (World.block_lt_of_cell? w _ hx218_2)).trans hx218_2
         replace hx218_3 := (HB.out.cell (World.block_lt_of_cell? w _ hx218_3)).trans hx218_3
         replace p218 := eq_true p218
         replace q218 := eq_true q218
         have p219 : 0 ≤ (x5_1 : Int) := of_decide_eq_true zq6
         have q219 : x5_1 < (l0.length : Int) := of_decide_eq_true zq6
         obtain ⟨ad219, e219, hx219_0, hx219_1, hx219_2, hx219_3⟩ := at_T39 HR0.out x5_1 p219 q219
         obtain rfl : ad218 = ad219 := (by injection e219)
         replace hx219_0 := (HB.out.cell (World.block_lt_of_cell? w _ hx219_0)).trans hx219_0
         replace hx219_1 := (HB.out.cell (World.block_lt_of_cell? w _ hx219_1)).trans hx219_1
         replace hx219_2 := (HB.out.cell (World.block_lt_of_cell? w _ hx219_2)).trans hx219_2
         replace hx219_3 := (HB.out.cell (World.block_lt_of_cell? w _ hx219_3)).trans hx219_3
         replace p219 := eq_true p219
         replace q219 := eq_true q219
         have p220 : 0 ≤ (x5_1 : Int) := of_decide_eq_true zq6
         have q220 : x5_1 < (l0.length : Int) := of_decide_eq_true zq6
         obtain ⟨ad220, e220, hx220_0, hx220_1, hx220_2, hx220_3⟩ := at_T39 HR0.out x5_1 p220 q220
         obtain rfl : ad218 = ad220 := (by injection e220)
         replace hx220_0 := (HB.out.cell (World.block_lt_of_cell? w _ hx220_0)).trans hx220_0
         replace hx220_1 := (HB.out.cell (World.block_lt_of_cell? w _ hx220_1)).trans hx220_1
         replace hx220_2 := (HB.out.cell (World.block_lt_of_cell? w _ hx220_2)).trans hx220_2
         replace hx220_3 := (HB.out.cell (World.block_lt_of_cell? w _ hx220_3)).trans hx220_3
         replace p220 := eq_true p220
         replace q220 := eq_true q220
         try go_wp2
         replace HB := Aside0.mk (below_drew1 HB.out)
         have p221 : 0 ≤ (x5_1 : Int) := of_decide_eq_true zq6
         have q221 : x5_1 < (l0.length : Int) := of_decide_eq_true zq6
         obtain ⟨ad221, e221, hx221_0, hx221_1, hx221_2, hx221_3⟩ := at_T39 HR0.out x5_1 p221 q221
         have hw221_3 := hx221_3
         have hw221_2 := hx221_2
         have hw221_1 := hx221_1
         have hw221_0 := hx221_0
         obtain rfl : ad218 = ad221 := (by injection e221)
         replace hx221_0 := (HB.out.cell (World.block_lt_of_cell? w _ hx221_0)).trans hx221_0
         replace hx221_1 := (HB.out.cell (World.block_lt_of_cell? w _ hx221_1)).trans hx221_1
         replace hx221_2 := (HB.out.cell (World.block_lt_of_cell? w _ hx221_2)).trans hx221_2
         replace hx221_3 := (HB.out.cell (World.block_lt_of_cell? w _ hx221_3)).trans hx221_3
         replace p221 := eq_true p221
         replace q221 := eq_true q221
         refine start_ (n := 8) (S := fun w' => w'.cell? (ad218.add ((x5_1).toNat * 4)) = some (.int .i64 ((rd_T39 l0 x5_1).f0)) ∧ w'.cell? ⟨(ad218.add ((x5_1).toNat * 4)).block, (ad218.add ((x5_1).toNat * 4)).off + 1, none⟩ = some (.int .i64 ((rd_T39 l0 x5_1).f1)) ∧ w'.cell? ⟨(ad218.add ((x5_1).toNat * 4)).block, (ad218.add ((x5_1).toNat * 4)).off + 2, none⟩ = some (.int .i64 ((rd_T39 l0 x5_1).f2)) ∧ w'.cell? ⟨(ad218.add ((x5_1).toNat * 4)).block, (ad218.add ((x5_1).toNat * 4)).off + 3, none⟩ = some (.string ((rd_T39 l0 x5_1).f3))) (ds := []) (bA 8 0) (by kernel_rfl) rfl rfl ⟨((HB.out.cell (World.block_lt_of_cell? w _ hw221_0)).trans hw221_0), ((HB.out.cell (World.block_lt_of_cell? w _ hw221_1)).trans hw221_1), ((HB.out.cell (World.block_lt_of_cell? w _ hw221_2)).trans hw221_2), ((HB.out.cell (World.block_lt_of_cell? w _ hw221_3)).trans hw221_3)⟩ (fun hHeld => ?_); refine with_tabW laws_heldPacketS.tab13 laws_heldPacketS.bits13 (fun HT_ HW_ => ?_)
         generalize wr.drew = w10 at HB hx221_0 hx221_1 hx221_2 hx221_3 hHeld ⊢
         refine pV 0 39 8 1 ?_
         refine pV 1 40 8 3 ?_
         refine pV 2 41 8 7 ?_
         refine pV 3 42 8 15 ?_
         refine pV 5 44 8 47 ?_
         refine tV 4 43 8 63 rfl zq287 ?_
         refine one_ (i := 6) (N := some 45) (bA 8 127) rfl rfl (one_of HT_.out (by kernel_rfl)) (by decide) (fun K hK => ?_)
         refine goes_ Try.func66 (by kernel_rfl) rfl #[.int .i64 (wrap64 ((wrap64 ((wrap64 (x1_1 + 1)) + 1)) + 1))] (by rfl) rfl rfl zq7 ?_
         with_reducible refine (laws_markText.calls k1 (wrap64 ((wrap64 ((wrap64 (x1_1 + 1)) + 1)) + 1)) t222 _ A8.out).mono ?_
         rintro e w11 ⟨rfl, hb⟩
         refine ⟨_, rfl, ?_⟩
         replace HB := sB zq2 hb
         (try clear hb)
         (try clear hb2)
         (try clear hk)
         (try clear hi)
         refine hK.out _ _ ⟨((HB.out.cell (World.block_lt_of_cell? w _ hw221_0)).trans hw221_0), ((HB.out.cell (World.block_lt_of_cell? w _ hw221_1)).trans hw221_1), ((HB.out.cell (World.block_lt_of_cell? w _ hw221_2)).trans hw221_2), ((HB.out.cell (World.block_lt_of_cell? w _ hw221_3)).trans hw221_3)⟩ (fun hHeld => ?_)
         clear hK K
         refine norm_ (a' := ?_) ?_ ?_
         rotate_left
         ·
          show Act.put _ (some 45) _ = _
          simp only [Act.put, List.setIfInBounds_toArray, List.set_cons_zero, List.set_cons_succ, i64_w, i32_w]
          rfl
         refine pV 7 46 8 255 ?_
         refine done_ (done_of HT_.out (by kernel_rfl)) ?_
         try go_wp2
         go_roundg k1
         case measure => have := HK1.out; omega
         case rel => exact ⟨(wrap64 ((wrap64 ((wrap64 ((wrap64 (x1_1 + 1)) + 1)) + 1)) + 1)), (wrap64 (x5_1 + 1)), zq5, zq5, H', ⟨zq8⟩, ⟨zq2⟩⟩
        rw [if_neg c9] at H
        have c9b0 : (((rd_T39 l0 x5_1).f3).toList == t222.toList) = false := beq_eq_false_iff_ne.mpr c9
        have c9b1 : (((rd_T39 l0 x5_1).f3).toList != t222.toList) = true := bne_iff_ne.mpr c9
        obtain rfl := Option.some.inj H
        have p218 : 0 ≤ (x5_1 : Int) := of_decide_eq_true zq6
        have q218 : x5_1 < (l0.length : Int) := of_decide_eq_true zq6
        obtain ⟨ad218, e218, hx218_0, hx218_1, hx218_2, hx218_3⟩ := at_T39 HR0.out x5_1 p218 q218
        cases e218
        replace hx218_0 := (HB.out.cell (World.block_lt_of_cell? w _ hx218_0)).trans hx218_0
        replace hx218_1 := (HB.out.cell (World.block_lt_of_cell? w _ hx218_1)).trans hx218_1
        replace hx218_2 := (HB.out.cell (World.block_lt_of_cell? w _ hx218_2)).trans hx218_2
        replace hx218_3 := (HB.out.cell (World.block_lt_of_cell? w _ hx218_3)).trans hx218_3
        replace p218 := eq_true p218
        replace q218 := eq_true q218
        have p219 : 0 ≤ (x5_1 : Int) := of_decide_eq_true zq6
        have q219 : x5_1 < (l0.length : Int) := of_decide_eq_true zq6
        obtain ⟨ad219, e219, hx219_0, hx219_1, hx219_2, hx219_3⟩ := at_T39 HR0.out x5_1 p219 q219
        obtain rfl : ad218 = ad219 := (by injection e219)
        replace hx219_0 := (HB.out.cell (World.block_lt_of_cell? w _ hx219_0)).trans hx219_0
        replace hx219_1 := (HB.out.cell (World.block_lt_of_cell? w _ hx219_1)).trans hx219_1
        replace hx219_2 := (HB.out.cell (World.block_lt_of_cell? w _ hx219_2)).trans hx219_2
        replace hx219_3 := (HB.out.cell (World.block_lt_of_cell? w _ hx219_3)).trans hx219_3
        replace p219 := eq_true p219
        replace q219 := eq_true q219
        have p220 : 0 ≤ (x5_1 : Int) := of_decide_eq_true zq6
        have q220 : x5_1 < (l0.length : Int) := of_decide_eq_true zq6
        obtain ⟨ad220, e220, hx220_0, hx220_1, hx220_2, hx220_3⟩ := at_T39 HR0.out x5_1 p220 q220
        obtain rfl : ad218 = ad220 := (by injection e220)
        replace hx220_0 := (HB.out.cell (World.block_lt_of_cell? w _ hx220_0)).trans hx220_0
        replace hx220_1 := (HB.out.cell (World.block_lt_of_cell? w _ hx220_1)).trans hx220_1
        replace hx220_2 := (HB.out.cell (World.block_lt_of_cell? w _ hx220_2)).trans hx220_2
        replace hx220_3 := (HB.out.cell (World.block_lt_of_cell? w _ hx220_3)).trans hx220_3
        replace p220 := eq_true p220
        replace q220 := eq_true q220
        try go_wp2
        replace HB := Aside0.mk (below_drew1 HB.out)
        have p221 : 0 ≤ (x5_1 : Int) := of_decide_eq_true zq6
        have q221 : x5_1 < (l0.length : Int) := of_decide_eq_true zq6
        obtain ⟨ad221, e221, hx221_0, hx221_1, hx221_2, hx221_3⟩ := at_T39 HR0.out x5_1 p221 q221
        have hw221_3 := hx221_3
        have hw221_2 := hx221_2
        have hw221_1 := hx221_1
        have hw221_0 := hx221_0
        obtain rfl : ad218 = ad221 := (by injection e221)
        replace hx221_0 := (HB.out.cell (World.block_lt_of_cell? w _ hx221_0)).trans hx221_0
        replace hx221_1 := (HB.out.cell (World.block_lt_of_cell? w _ hx221_1)).trans hx221_1
        replace hx221_2 := (HB.out.cell (World.block_lt_of_cell? w _ hx221_2)).trans hx221_2
        replace hx221_3 := (HB.out.cell (World.block_lt_of_cell? w _ hx221_3)).trans hx221_3
        replace p221 := eq_true p221
        replace q221 := eq_true q221
        refine start_ (n := 8) (S := fun w' => w'.cell? (ad218.add ((x5_1).toNat * 4)) = some (.int .i64 ((rd_T39 l0 x5_1).f0)) ∧ w'.cell? ⟨(ad218.add ((x5_1).toNat * 4)).block, (ad218.add ((x5_1).toNat * 4)).off + 1, none⟩ = some (.int .i64 ((rd_T39 l0 x5_1).f1)) ∧ w'.cell? ⟨(ad218.add ((x5_1).toNat * 4)).block, (ad218.add ((x5_1).toNat * 4)).off + 2, none⟩ = some (.int .i64 ((rd_T39 l0 x5_1).f2)) ∧ w'.cell? ⟨(ad218.add ((x5_1).toNat * 4)).block, (ad218.add ((x5_1).toNat * 4)).off + 3, none⟩ = some (.string ((rd_T39 l0 x5_1).f3))) (ds := []) (bA 8 0) (by kernel_rfl) rfl rfl ⟨((HB.out.cell (World.block_lt_of_cell? w _ hw221_0)).trans hw221_0), ((HB.out.cell (World.block_lt_of_cell? w _ hw221_1)).trans hw221_1), ((HB.out.cell (World.block_lt_of_cell? w _ hw221_2)).trans hw221_2), ((HB.out.cell (World.block_lt_of_cell? w _ hw221_3)).trans hw221_3)⟩ (fun hHeld => ?_); refine with_tabW laws_heldPacketS.tab13 laws_heldPacketS.bits13 (fun HT_ HW_ => ?_)
        generalize wr.drew = w12 at HB hx221_0 hx221_1 hx221_2 hx221_3 hHeld ⊢
        refine pV 0 39 8 1 ?_
        refine pV 1 40 8 3 ?_
        refine pV 2 41 8 7 ?_
        refine pV 3 42 8 15 ?_
        refine pV 5 44 8 47 ?_
        refine tV 4 43 8 63 rfl zq287 ?_
        refine one_ (i := 6) (N := some 45) (bA 8 127) rfl rfl (one_of HT_.out (by kernel_rfl)) (by decide) (fun K hK => ?_)
        refine goes_ Try.func66 (by kernel_rfl) rfl #[.int .i64 (wrap64 ((wrap64 ((wrap64 (x1_1 + 1)) + 1)) + 1))] (by rfl) rfl rfl zq7 ?_
        with_reducible refine (laws_markText.calls k1 (wrap64 ((wrap64 ((wrap64 (x1_1 + 1)) + 1)) + 1)) t222 _ A8.out).mono ?_
        rintro e w13 ⟨rfl, hb⟩
        refine ⟨_, rfl, ?_⟩
        replace HB := sB zq2 hb
        (try clear hb)
        (try clear hb2)
        (try clear hk)
        (try clear hi)
        refine hK.out _ _ ⟨((HB.out.cell (World.block_lt_of_cell? w _ hw221_0)).trans hw221_0), ((HB.out.cell (World.block_lt_of_cell? w _ hw221_1)).trans hw221_1), ((HB.out.cell (World.block_lt_of_cell? w _ hw221_2)).trans hw221_2), ((HB.out.cell (World.block_lt_of_cell? w _ hw221_3)).trans hw221_3)⟩ (fun hHeld => ?_)
        clear hK K
        refine norm_ (a' := ?_) ?_ ?_
        rotate_left
        ·
         show Act.put _ (some 45) _ = _
         simp only [Act.put, List.setIfInBounds_toArray, List.set_cons_zero, List.set_cons_succ, i64_w, i32_w]
         rfl
        refine pV 7 46 8 255 ?_
        refine done_ (done_of HT_.out (by kernel_rfl)) ?_
        try go_wp2
        go_ret
        exact ⟨zq3, zq2⟩
       rw [if_neg c7] at H
       have c7b0 : (((rd_T39 l0 x5_1).f2) == (wrap64 ((wrap64 (x1_1 + 1)) + 1))) = false := beq_eq_false_iff_ne.mpr c7
       have c7b1 : (((rd_T39 l0 x5_1).f2) != (wrap64 ((wrap64 (x1_1 + 1)) + 1))) = true := bne_iff_ne.mpr c7
       obtain rfl := Option.some.inj H
       have p218 : 0 ≤ (x5_1 : Int) := of_decide_eq_true zq6
       have q218 : x5_1 < (l0.length : Int) := of_decide_eq_true zq6
       obtain ⟨ad218, e218, hx218_0, hx218_1, hx218_2, hx218_3⟩ := at_T39 HR0.out x5_1 p218 q218
       cases e218
       replace hx218_0 := (HB.out.cell (World.block_lt_of_cell? w _ hx218_0)).trans hx218_0
       replace hx218_1 := (HB.out.cell (World.block_lt_of_cell? w _ hx218_1)).trans hx218_1
       replace hx218_2 := (HB.out.cell (World.block_lt_of_cell? w _ hx218_2)).trans hx218_2
       replace hx218_3 := (HB.out.cell (World.block_lt_of_cell? w _ hx218_3)).trans hx218_3
       replace p218 := eq_true p218
       replace q218 := eq_true q218
       have p219 : 0 ≤ (x5_1 : Int) := of_decide_eq_true zq6
       have q219 : x5_1 < (l0.length : Int) := of_decide_eq_true zq6
       obtain ⟨ad219, e219, hx219_0, hx219_1, hx219_2, hx219_3⟩ := at_T39 HR0.out x5_1 p219 q219
       obtain rfl : ad218 = ad219 := (by injection e219)
       replace hx219_0 := (HB.out.cell (World.block_lt_of_cell? w _ hx219_0)).trans hx219_0
       replace hx219_1 := (HB.out.cell (World.block_lt_of_cell? w _ hx219_1)).trans hx219_1
       replace hx219_2 := (HB.out.cell (World.block_lt_of_cell? w _ hx219_2)).trans hx219_2
       replace hx219_3 := (HB.out.cell (World.block_lt_of_cell? w _ hx219_3)).trans hx219_3
       replace p219 := eq_true p219
       replace q219 := eq_true q219
       have p220 : 0 ≤ (x5_1 : Int) := of_decide_eq_true zq6
       have q220 : x5_1 < (l0.length : Int) := of_decide_eq_true zq6
       obtain ⟨ad220, e220, hx220_0, hx220_1, hx220_2, hx220_3⟩ := at_T39 HR0.out x5_1 p220 q220
       obtain rfl : ad218 = ad220 := (by injection e220)
       replace hx220_0 := (HB.out.cell (World.block_lt_of_cell? w _ hx220_0)).trans hx220_0
       replace hx220_1 := (HB.out.cell (World.block_lt_of_cell? w _ hx220_1)).trans hx220_1
       replace hx220_2 := (HB.out.cell (World.block_lt_of_cell? w _ hx220_2)).trans hx220_2
       replace hx220_3 := (HB.out.cell (World.block_lt_of_cell? w _ hx220_3)).trans hx220_3
       replace p220 := eq_true p220
       replace q220 := eq_true q220
       go_wp2
       go_ret
       exact ⟨zq3, zq2⟩
      rw [if_neg c6] at H
      have c6b0 : (((rd_T39 l0 x5_1).f1) == (wrap64 (x1_1 + 1))) = false := beq_eq_false_iff_ne.mpr c6
      have c6b1 : (((rd_T39 l0 x5_1).f1) != (wrap64 (x1_1 + 1))) = true := bne_iff_ne.mpr c6
      obtain rfl := Option.some.inj H
      have p218 : 0 ≤ (x5_1 : Int) := of_decide_eq_true zq6
      have q218 : x5_1 < (l0.length : Int) := of_decide_eq_true zq6
      obtain ⟨ad218, e218, hx218_0, hx218_1, hx218_2, hx218_3⟩ := at_T39 HR0.out x5_1 p218 q218
      cases e218
      replace hx218_0 := (HB.out.cell (World.block_lt_of_cell? w _ hx218_0)).trans hx218_0
      replace hx218_1 := (HB.out.cell (World.block_lt_of_cell? w _ hx218_1)).trans hx218_1
      replace hx218_2 := (HB.out.cell (World.block_lt_of_cell? w _ hx218_2)).trans hx218_2
      replace hx218_3 := (HB.out.cell (World.block_lt_of_cell? w _ hx218_3)).trans hx218_3
      replace p218 := eq_true p218
      replace q218 := eq_true q218
      have p219 : 0 ≤ (x5_1 : Int) := of_decide_eq_true zq6
      have q219 : x5_1 < (l0.length : Int) := of_decide_eq_true zq6
      obtain ⟨ad219, e219, hx219_0, hx219_1, hx219_2, hx219_3⟩ := at_T39 HR0.out x5_1 p219 q219
      obtain rfl : ad218 = ad219 := (by injection e219)
      replace hx219_0 := (HB.out.cell (World.block_lt_of_cell? w _ hx219_0)).trans hx219_0
      replace hx219_1 := (HB.out.cell (World.block_lt_of_cell? w _ hx219_1)).trans hx219_1
      replace hx219_2 := (HB.out.cell (World.block_lt_of_cell? w _ hx219_2)).trans hx219_2
      replace hx219_3 := (HB.out.cell (World.block_lt_of_cell? w _ hx219_3)).trans hx219_3
      replace p219 := eq_true p219
      replace q219 := eq_true q219
      go_wp2
      go_ret
      exact ⟨zq3, zq2⟩
     rw [if_neg c5] at H
     have c5b0 : (((rd_T39 l0 x5_1).f0) == x1_1) = false := beq_eq_false_iff_ne.mpr c5
     have c5b1 : (((rd_T39 l0 x5_1).f0) != x1_1) = true := bne_iff_ne.mpr c5
     obtain rfl := Option.some.inj H
     have p218 : 0 ≤ (x5_1 : Int) := of_decide_eq_true zq6
     have q218 : x5_1 < (l0.length : Int) := of_decide_eq_true zq6
     obtain ⟨ad218, e218, hx218_0, hx218_1, hx218_2, hx218_3⟩ := at_T39 HR0.out x5_1 p218 q218
     cases e218
     replace hx218_0 := (HB.out.cell (World.block_lt_of_cell? w _ hx218_0)).trans hx218_0
     replace hx218_1 := (HB.out.cell (World.block_lt_of_cell? w _ hx218_1)).trans hx218_1
     replace hx218_2 := (HB.out.cell (World.block_lt_of_cell? w _ hx218_2)).trans hx218_2
     replace hx218_3 := (HB.out.cell (World.block_lt_of_cell? w _ hx218_3)).trans hx218_3
     replace p218 := eq_true p218
     replace q218 := eq_true q218
     go_wp2
     go_ret
     exact ⟨zq3, zq2⟩
    rw [if_neg c4] at H
    exact absurd H (by simp)
   rw [if_neg c3] at H
   have c3b0 := decide_eq_false c3
   clear c3
   obtain rfl := Option.some.inj H
   go_wp2
   go_ret
   exact ⟨zq3, zq2⟩

/-! ### laws_heldNet: function 24 -/
def laws_heldNet.f (k : Nat) (a0_0 : Int) (l0_1 : List (S39)) (a1 : Int) : Option (Int) := (laws_heldPacketS.f k l0_1 a1).bind fun t224 => (if t224 < 0 then (some (-1)) else (some t224))
theorem laws_heldNet.mono : ∀ a0 a1 a2 k, LeO (laws_heldNet.f k a0 a1 a2) (laws_heldNet.f (k + 1) a0 a1 a2) := by
 intro a0 a1 a2 k
 unfold laws_heldNet.f
 repeat' first
   | (with_reducible exact laws_heldPacketS.mono _ _ _)
   | (with_reducible exact LeO.refl _)
   | (with_reducible exact LeO.none _)
   | (with_reducible refine LeO.ite ?_ ?_)
   | (with_reducible refine LeO.bind ?_ (fun _ => ?_))
   | exact LeO.none _
   | refine LeO.ite ?_ ?_
   | refine LeO.bind ?_ (fun _ => ?_)
set_option maxHeartbeats 8000000 in
set_option maxRecDepth 100000 in
theorem laws_heldNet.calls (k : Nat) (a0_0 : Int) (A0_1 : Option Addr) (c0_1 : Nat) (l0_1 : List (S39)) (a1 : Int) (r : Int) (w : World) (hr0_1 : Kd.C k39 w A0_1 l0_1.length l0_1) (hc0_1 : l0_1.length ≤ c0_1) (h : laws_heldNet.f k a0_0 l0_1 a1 = some r) :
  Calls Try.prog 24 #[.agg #[.int .i64 a0_0, .slice A0_1 l0_1.length c0_1], .int .i64 a1] w fun e w' => e = .returned (.int .i64 r) ∧ Below w.heap.size w w' := by
 have hu37 := Try.underlying37
 have HR0_1 := Aside0.mk hr0_1
 have HC0_1 := Aside0.mk hc0_1
 clear hr0_1 hc0_1
 have HB := Aside0.mk (Below.refl w.heap.size w)
 have H : ((laws_heldPacketS.f k l0_1 a1).bind fun t224 => (if t224 < 0 then (some (-1)) else (some t224))) = some r := h
 clear h
 replace H := Option.bind_eq_some_iff.mp H
 obtain ⟨t224, A30, H⟩ := H
 try dsimp only at H
 have A3 := Aside0.mk A30
 clear A30
 by_cases c4 : t224 < 0
 ·
  rw [if_pos c4] at H
  have c4b0 := decide_eq_true c4
  clear c4
  obtain rfl := Option.some.inj H
  go_enter Try.func24, Try.ntmps24
  go_wp2_with (first | ((with_reducible refine gate_dst (N := 2) rfl ?_); refine box_event ?hg (N := 2) ?hd (cs := #[.int .i64 a0_0, .slice A0_1 l0_1.length c0_1]) (t := 37) ?hr ?_; (case hd => rfl); (case hg => rfl); (case hr => exact zq1); intro gb223 hg w5 hbox hb; have BK223 := Aside0.mk hbox; have GW223 := Aside0.mk (zq205 : w.heap.size ≤ gb223); have GE223 := Aside0.mk (zq205 : w.heap.size ≤ gb223); replace HB := sB zq2 hb; clear hb hbox hg; obtain ⟨hcz6_0, hcz6_1, hfz6_0, hfz6_1⟩ := c2 (w := w5) BK223) | ((with_reducible refine gC 48 rfl ?_); refine gL 8 Try.func48 #[.slice A0_1 l0_1.length c0_1, .int .i64 a1] ?_; (with_reducible refine (laws_heldPacketS.calls k _ _ l0_1 a1 t224 _ ?_ ?_ A3.out).mono ?_); exact zq9; exact zq10; rintro e w7 ⟨rfl, hb⟩; refine ⟨_, rfl, ?_⟩; replace BK223 := bF BK223 zq203 hb; replace HB := sB zq204 hb; clear hb))
  go_ret
  exact ⟨zq3, zq204⟩
 rw [if_neg c4] at H
 have c4b0 := decide_eq_false c4
 clear c4
 obtain rfl := Option.some.inj H
 go_enter Try.func24, Try.ntmps24
 go_wp2_with (first | ((with_reducible refine gate_dst (N := 2) rfl ?_); refine box_event ?hg (N := 2) ?hd (cs := #[.int .i64 a0_0, .slice A0_1 l0_1.length c0_1]) (t := 37) ?hr ?_; (case hd => rfl); (case hg => rfl); (case hr => exact zq1); intro gb223 hg w8 hbox hb; have BK223 := Aside0.mk hbox; have GW223 := Aside0.mk (zq205 : w.heap.size ≤ gb223); have GE223 := Aside0.mk (zq205 : w.heap.size ≤ gb223); replace HB := sB zq2 hb; clear hb hbox hg; obtain ⟨hcz9_0, hcz9_1, hfz9_0, hfz9_1⟩ := c2 (w := w8) BK223) | ((with_reducible refine gC 48 rfl ?_); refine gL 8 Try.func48 #[.slice A0_1 l0_1.length c0_1, .int .i64 a1] ?_; (with_reducible refine (laws_heldPacketS.calls k _ _ l0_1 a1 t224 _ ?_ ?_ A3.out).mono ?_); exact zq9; exact zq10; rintro e w10 ⟨rfl, hb⟩; refine ⟨_, rfl, ?_⟩; replace BK223 := bF BK223 zq203 hb; replace HB := sB zq204 hb; clear hb))
 go_ret
 exact ⟨zq3, zq204⟩

end Go.Proofs.Ytklaigmpceacaaa.QFnExactTake
