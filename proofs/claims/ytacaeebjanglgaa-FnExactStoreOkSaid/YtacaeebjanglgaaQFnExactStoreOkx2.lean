/- Written by wip/myprint.py of this repo (the kit's print, with additions of this session). -/
import Derived.Test.YtacaeebjanglgaaQFnExactStoreOkx0
import Derived.Test.YtacaeebjanglgaaQFnExactStoreOkx1
set_option maxRecDepth 100000
namespace Go.Proofs.Ytacaeebjanglgaa.QFnExactStoreOk
open Go.RowKit Go.Proofs.YtacaeebjanglgaaW.PrintWords Go.Proofs.YtacaeebjanglgaaW.PrintLast Go.Proofs.YtacaeebjanglgaaW.PrintMore
attribute [local go_sem] max2_int min2_int max_two min_two max_three min_three max_four min_four   -- for this text's walks alone
set_option linter.unusedVariables false
set_option linter.unusedSimpArgs false

/-! ### spec_l1Block: function 105 -/
mutual
def spec_l1Block.l0 : Nat → List Int → List Int → List Int → List Int → Int → Option (List Int)
 | 0, _, _, _, _, _ => none
 | k + 1, x0, x1, x2, x7, x8 => if x8 < 64 then (if x8 < 16 then (if 0 ≤ (wrap64 (4 * x8)) then (if (wrap64 (4 * x8)) < (x2.length : Int) then (if 0 ≤ (wrap64 ((wrap64 (4 * x8)) + 1)) then (if (wrap64 ((wrap64 (4 * x8)) + 1)) < (x2.length : Int) then (if 0 ≤ (wrap64 ((wrap64 (4 * x8)) + 2)) then (if (wrap64 ((wrap64 (4 * x8)) + 2)) < (x2.length : Int) then (if 0 ≤ (wrap64 ((wrap64 (4 * x8)) + 3)) then (if (wrap64 ((wrap64 (4 * x8)) + 3)) < (x2.length : Int) then (if 0 ≤ x8 then (if x8 < (x7.length : Int) then (spec_l1Block.l0 k x0 x1 x2 (x7.set (x8 : Int).toNat (Go.bits .or .u32 (Go.bits .or .u32 (Go.bits .or .u32 ((((rd x2 (wrap64 (4 * x8))) % 4294967296) * 16777216) % 4294967296) ((((rd x2 (wrap64 ((wrap64 (4 * x8)) + 1))) % 4294967296) * 65536) % 4294967296)) ((((rd x2 (wrap64 ((wrap64 (4 * x8)) + 2))) % 4294967296) * 256) % 4294967296)) ((rd x2 (wrap64 ((wrap64 (4 * x8)) + 3))) % 4294967296))) (wrap64 (x8 + 1))) else (none)) else (none)) else (none)) else (none)) else (none)) else (none)) else (none)) else (none)) else (none)) else (none)) else (if 0 ≤ (wrap64 (x8 - 15)) then (if (wrap64 (x8 - 15)) < (x7.length : Int) then (if 0 ≤ (wrap64 (x8 - 2)) then (if (wrap64 (x8 - 2)) < (x7.length : Int) then ((spec_Rotate.f (rd x7 (wrap64 (x8 - 15))) 7).bind fun t123 => ((spec_Rotate.f (rd x7 (wrap64 (x8 - 15))) 18).bind fun t124 => ((spec_Rotate.f (rd x7 (wrap64 (x8 - 2))) 17).bind fun t125 => ((spec_Rotate.f (rd x7 (wrap64 (x8 - 2))) 19).bind fun t126 => (if 0 ≤ (wrap64 (x8 - 7)) then (if (wrap64 (x8 - 7)) < (x7.length : Int) then (if 0 ≤ (wrap64 (x8 - 16)) then (if (wrap64 (x8 - 16)) < (x7.length : Int) then (if 0 ≤ x8 then (if x8 < (x7.length : Int) then (spec_l1Block.l0 k x0 x1 x2 (x7.set (x8 : Int).toNat (((((((Go.bits .xor .u32 (Go.bits .xor .u32 t125 t126) ((rd x7 (wrap64 (x8 - 2))) / 1024)) + (rd x7 (wrap64 (x8 - 7)))) % 4294967296) + (Go.bits .xor .u32 (Go.bits .xor .u32 t123 t124) ((rd x7 (wrap64 (x8 - 15))) / 8))) % 4294967296) + (rd x7 (wrap64 (x8 - 16)))) % 4294967296)) (wrap64 (x8 + 1))) else (none)) else (none)) else (none)) else (none)) else (none)) else (none)))))) else (none)) else (none)) else (none)) else (none))) else ((some (([] : List Int) : List Int)).bind fun y130 => (if y130.length + x0.length < 35184372088832 then (spec_l1Block.l1 k x0 x1 x7 (y130 ++ x0) 0) else (none)))
def spec_l1Block.l1 : Nat → List Int → List Int → List Int → List Int → Int → Option (List Int)
 | 0, _, _, _, _, _ => none
 | k + 1, x0, x1, x7, x13, x14 => if x14 < 64 then (if 0 < (x13.length : Int) then (if 4 < (x13.length : Int) then (if 7 < (x13.length : Int) then ((spec_Rotate.f (rd x13 4) 6).bind fun t139 => ((spec_Rotate.f (rd x13 4) 11).bind fun t140 => ((spec_Rotate.f (rd x13 4) 25).bind fun t141 => (if 5 < (x13.length : Int) then (if 6 < (x13.length : Int) then (if 0 ≤ x14 then (if x14 < (x1.length : Int) then (if x14 < (x7.length : Int) then ((spec_Rotate.f (rd x13 0) 2).bind fun t146 => ((spec_Rotate.f (rd x13 0) 13).bind fun t147 => ((spec_Rotate.f (rd x13 0) 22).bind fun t148 => (if 1 < (x13.length : Int) then (if 2 < (x13.length : Int) then (if 3 < (x13.length : Int) then (spec_l1Block.l1 k x0 x1 x7 (([((((((((((rd x13 7) + (Go.bits .xor .u32 (Go.bits .xor .u32 t139 t140) t141)) % 4294967296) + (Go.bits .xor .u32 (Go.bits .and .u32 (rd x13 4) (rd x13 5)) (Go.bits .and .u32 (Go.bits .xor .u32 4294967295 (rd x13 4)) (rd x13 6)))) % 4294967296) + (rd x1 x14)) % 4294967296) + (rd x7 x14)) % 4294967296) + (((Go.bits .xor .u32 (Go.bits .xor .u32 t146 t147) t148) + (Go.bits .xor .u32 (Go.bits .xor .u32 (Go.bits .and .u32 (rd x13 0) (rd x13 1)) (Go.bits .and .u32 (rd x13 0) (rd x13 2))) (Go.bits .and .u32 (rd x13 1) (rd x13 2)))) % 4294967296)) % 4294967296, rd x13 0, rd x13 1, rd x13 2, ((rd x13 3) + (((((((((rd x13 7) + (Go.bits .xor .u32 (Go.bits .xor .u32 t139 t140) t141)) % 4294967296) + (Go.bits .xor .u32 (Go.bits .and .u32 (rd x13 4) (rd x13 5)) (Go.bits .and .u32 (Go.bits .xor .u32 4294967295 (rd x13 4)) (rd x13 6)))) % 4294967296) + (rd x1 x14)) % 4294967296) + (rd x7 x14)) % 4294967296)) % 4294967296, rd x13 4, rd x13 5, rd x13 6] : List Int)) (wrap64 (x14 + 1))) else (none)) else (none)) else (none))))) else (none)) else (none)) else (none)) else (none)) else (none))))) else (none)) else (none)) else (none)) else (spec_l1Block.l2 k x0 x13 (([] : List Int)) 0)
def spec_l1Block.l2 : Nat → List Int → List Int → List Int → Int → Option (List Int)
 | 0, _, _, _, _ => none
 | k + 1, x0, x13, x19, x20 => if x20 < 8 then (if 0 ≤ x20 then (if x20 < (x0.length : Int) then (if x20 < (x13.length : Int) then (if x19.length < 35184372088832 then (spec_l1Block.l2 k x0 x13 (x19 ++ [((rd x0 x20) + (rd x13 x20)) % 4294967296]) (wrap64 (x20 + 1))) else (none)) else (none)) else (none)) else (none)) else (some x19)
end
def spec_l1Block.f (k : Nat) (l0 : List Int) (l1 : List Int) (l2 : List Int) : Option (List Int) := if 64 ≤ 70368744177664 then (spec_l1Block.l0 k l0 l1 l2 (List.replicate 64 0) 0) else (none)
theorem spec_l1Block.mono_l : ∀ k, (∀ y0 y1 y2 y3 y4, LeO (spec_l1Block.l0 k y0 y1 y2 y3 y4) (spec_l1Block.l0 (k + 1) y0 y1 y2 y3 y4)) ∧ (∀ y0 y1 y2 y3 y4, LeO (spec_l1Block.l1 k y0 y1 y2 y3 y4) (spec_l1Block.l1 (k + 1) y0 y1 y2 y3 y4)) ∧ (∀ y0 y1 y2 y3, LeO (spec_l1Block.l2 k y0 y1 y2 y3) (spec_l1Block.l2 (k + 1) y0 y1 y2 y3))
 | 0 => ⟨fun _ _ _ _ _ r h => by simp [spec_l1Block.l0] at h, fun _ _ _ _ _ r h => by simp [spec_l1Block.l1] at h, fun _ _ _ _ r h => by simp [spec_l1Block.l2] at h⟩
 | k + 1 => by
  obtain ⟨ih0, ih1, ih2⟩ := spec_l1Block.mono_l k
  refine ⟨?_, ?_, ?_⟩
  ·
   intro y0 y1 y2 y3 y4
   unfold spec_l1Block.l0
   repeat' first
   | (with_reducible exact ih0 _ _ _ _ _)
   | (with_reducible exact ih1 _ _ _ _ _)
   | (with_reducible exact ih2 _ _ _ _)
   | (with_reducible exact LeO.refl _)
   | (with_reducible exact LeO.none _)
   | (with_reducible refine LeO.ite ?_ ?_)
   | (with_reducible refine LeO.bind ?_ (fun _ => ?_))
   | exact ih0 _ _ _ _ _
   | exact ih1 _ _ _ _ _
   | exact ih2 _ _ _ _
   | exact LeO.none _
   | refine LeO.ite ?_ ?_
   | refine LeO.bind ?_ (fun _ => ?_)
  ·
   intro y0 y1 y2 y3 y4
   unfold spec_l1Block.l1
   repeat' first
   | (with_reducible exact ih0 _ _ _ _ _)
   | (with_reducible exact ih1 _ _ _ _ _)
   | (with_reducible exact ih2 _ _ _ _)
   | (with_reducible exact LeO.refl _)
   | (with_reducible exact LeO.none _)
   | (with_reducible refine LeO.ite ?_ ?_)
   | (with_reducible refine LeO.bind ?_ (fun _ => ?_))
   | exact ih0 _ _ _ _ _
   | exact ih1 _ _ _ _ _
   | exact ih2 _ _ _ _
   | exact LeO.none _
   | refine LeO.ite ?_ ?_
   | refine LeO.bind ?_ (fun _ => ?_)
  ·
   intro y0 y1 y2 y3
   unfold spec_l1Block.l2
   repeat' first
   | (with_reducible exact ih0 _ _ _ _ _)
   | (with_reducible exact ih1 _ _ _ _ _)
   | (with_reducible exact ih2 _ _ _ _)
   | (with_reducible exact LeO.refl _)
   | (with_reducible exact LeO.none _)
   | (with_reducible refine LeO.ite ?_ ?_)
   | (with_reducible refine LeO.bind ?_ (fun _ => ?_))
   | exact ih0 _ _ _ _ _
   | exact ih1 _ _ _ _ _
   | exact ih2 _ _ _ _
   | exact LeO.none _
   | refine LeO.ite ?_ ?_
   | refine LeO.bind ?_ (fun _ => ?_)
theorem spec_l1Block.mono : ∀ a0 a1 a2 k, LeO (spec_l1Block.f k a0 a1 a2) (spec_l1Block.f (k + 1) a0 a1 a2) := by
 intro a0 a1 a2 k
 obtain ⟨ih0, ih1, ih2⟩ := spec_l1Block.mono_l k
 unfold spec_l1Block.f
 repeat' first
   | (with_reducible exact ih0 _ _ _ _ _)
   | (with_reducible exact ih1 _ _ _ _ _)
   | (with_reducible exact ih2 _ _ _ _)
   | (with_reducible exact LeO.refl _)
   | (with_reducible exact LeO.none _)
   | (with_reducible refine LeO.ite ?_ ?_)
   | (with_reducible refine LeO.bind ?_ (fun _ => ?_))
   | exact ih0 _ _ _ _ _
   | exact ih1 _ _ _ _ _
   | exact ih2 _ _ _ _
   | exact LeO.none _
   | refine LeO.ite ?_ ?_
   | refine LeO.bind ?_ (fun _ => ?_)
def spec_l1Block.T6 : Bool × List (List Nat × List Nat) := (true, [([], []), ([], []), ([], []), ([], []), ([3], [3]), ([2, 4], [2, 4]), ([5], [5]), ([6], [6]), ([7], [7]), ([], []), ([], []), ([10], [10]), ([11], [11]), ([9, 12], [9, 12]), ([13], [13]), ([14], [14]), ([15], [15]), ([8, 16], [8, 16]), ([], []), ([], []), ([19], [19]), ([20], [20]), ([18, 21], [18, 21]), ([22], [22]), ([23], [23]), ([24], [24]), ([17, 25], [17, 25]), ([], []), ([], []), ([28], [28]), ([29], [29]), ([27, 30], [27, 30]), ([31], [31]), ([32], [32]), ([26, 33], [26, 33]), ([0, 1, 0, 1, 2, 3, 4, 5, 6, 7, 8, 9, 10, 11, 12, 13, 14, 15, 16, 17, 18, 19, 20, 21, 22, 23, 24, 25, 26, 27, 28, 29, 30, 31, 32, 33, 34], [0, 1]), ([35, 34, 0, 1, 2, 3, 4, 5, 6, 7, 8, 9, 10, 11, 12, 13, 14, 15, 16, 17, 18, 19, 20, 21, 22, 23, 24, 25, 26, 27, 28, 29, 30, 31, 32, 33, 34], [34, 35])])
def spec_l1Block.B6 : List Nat := [0, 0, 0, 0, 8, 28, 60, 124, 252, 0, 0, 1024, 3072, 7680, 15872, 32256, 65024, 131068, 0, 0, 524288, 1572864, 3932160, 8126464, 16515072, 33292288, 67108860, 0, 0, 268435456, 805306368, 2013265920, 4160749568, 8455716864, 17179869180, 34359738367, 68719476735]
theorem spec_l1Block.tab6 : rtab .any (opsOf Try.f105 6) = spec_l1Block.T6 := by kernel_rfl
theorem spec_l1Block.bits6 : waitsOk spec_l1Block.T6.2 spec_l1Block.B6 = true := by kernel_rfl
def spec_l1Block.T11 : Bool × List (List Nat × List Nat) := (true, [([], []), ([], []), ([], []), ([], []), ([], []), ([4], [4]), ([3, 5], [3, 5]), ([6], [6]), ([2, 7], [2, 7]), ([], []), ([8, 9], [8, 9]), ([], []), ([], []), ([12], [12]), ([11, 13], [11, 13]), ([14], [14]), ([10, 15], [10, 15]), ([0, 1, 0, 1, 2, 3, 4, 5, 6, 7, 8, 9, 10, 11, 12, 13, 14, 15, 16], [0, 1]), ([17, 16, 0, 1, 2, 3, 4, 5, 6, 7, 8, 9, 10, 11, 12, 13, 14, 15, 16], [16, 17])])
def spec_l1Block.B11 : List Nat := [0, 0, 0, 0, 0, 16, 56, 120, 252, 0, 1020, 0, 0, 4096, 14336, 30720, 65532, 131071, 262143]
theorem spec_l1Block.tab11 : rtab .any (opsOf Try.f105 11) = spec_l1Block.T11 := by kernel_rfl
theorem spec_l1Block.bits11 : waitsOk spec_l1Block.T11.2 spec_l1Block.B11 = true := by kernel_rfl
def spec_l1Block.T18 : Bool × List (List Nat × List Nat) := (true, [([], []), ([0], [0]), ([1], [1]), ([], []), ([3], [3]), ([], []), ([5, 4], [5]), ([4, 6], [4, 6]), ([], []), ([8, 6], [8]), ([7, 9], [7, 9]), ([2, 10], [2, 10]), ([], []), ([], []), ([13], [13]), ([14], [14]), ([12, 15], [12, 15]), ([], []), ([17], [17]), ([], []), ([19], [19]), ([20], [20]), ([18, 21], [18, 21]), ([16, 22], [16, 22]), ([11, 23], [11, 23]), ([], []), ([], []), ([25, 26], [25, 26]), ([27], [27]), ([24, 28], [24, 28]), ([], []), ([], []), ([30, 31], [30, 31]), ([32], [32]), ([29, 33], [29, 33]), ([34, 9, 0, 1, 2, 3, 4, 5, 6, 7, 8, 9, 10, 11, 12, 13, 14, 15, 16, 17, 18, 19, 20, 21, 22, 23, 24, 25, 26, 27, 28, 29, 30, 31, 32, 33, 34], [34])])
def spec_l1Block.B18 : List Nat := [0, 1, 3, 0, 8, 0, 56, 120, 0, 376, 1016, 2047, 0, 0, 8192, 24576, 61440, 0, 131072, 0, 524288, 1572864, 4063232, 8384512, 16777215, 0, 0, 100663296, 234881024, 536870911, 0, 0, 3221225472, 7516192768, 17179869183, 34359738367]
theorem spec_l1Block.tab18 : rtab .any (opsOf Try.f105 18) = spec_l1Block.T18 := by kernel_rfl
theorem spec_l1Block.bits18 : waitsOk spec_l1Block.T18.2 spec_l1Block.B18 = true := by kernel_rfl
def spec_l1Block.T19 : Bool × List (List Nat × List Nat) := (true, [([], []), ([0], [0]), ([], []), ([2, 1], [2]), ([1, 3], [1, 3]), ([], []), ([5, 3], [5]), ([4, 6], [4, 6]), ([], []), ([], []), ([9], [9]), ([10], [10]), ([8, 11], [8, 11]), ([], []), ([], []), ([14], [14]), ([15], [15]), ([13, 16], [13, 16]), ([12, 17], [12, 17]), ([], []), ([19], [19]), ([20], [20]), ([], []), ([22], [22]), ([23], [23]), ([21, 24], [21, 24]), ([18, 25], [18, 25]), ([7, 26], [7, 26]), ([27, 6, 0, 1, 2, 3, 4, 5, 6, 7, 8, 9, 10, 11, 12, 13, 14, 15, 16, 17, 18, 19, 20, 21, 22, 23, 24, 25, 26, 27], [27])])
def spec_l1Block.B19 : List Nat := [0, 1, 0, 7, 15, 0, 47, 127, 0, 0, 512, 1536, 3840, 0, 0, 16384, 49152, 122880, 261888, 0, 524288, 1572864, 0, 4194304, 12582912, 33030144, 67108608, 134217727, 268435455]
theorem spec_l1Block.tab19 : rtab .any (opsOf Try.f105 19) = spec_l1Block.T19 := by kernel_rfl
theorem spec_l1Block.bits19 : waitsOk spec_l1Block.T19.2 spec_l1Block.B19 = true := by kernel_rfl
def spec_l1Block.T20 : Bool × List (List Nat × List Nat) := (true, [([], []), ([], []), ([0, 1], [0, 1]), ([], []), ([], []), ([4], [4]), ([5], [5]), ([], []), ([7], [7]), ([8], [8]), ([], []), ([10], [10]), ([11], [11]), ([], []), ([12, 13], [12, 13]), ([], []), ([], []), ([16], [16]), ([17], [17]), ([], []), ([19], [19]), ([20], [20]), ([2, 3, 6, 9, 14, 15, 18, 21], [2, 3, 6, 9, 14, 15, 18, 21]), ([22, 0, 1, 2, 3, 4, 5, 6, 7, 8, 9, 10, 11, 12, 13, 14, 15, 16, 17, 18, 19, 20, 21, 22], [4, 7, 10, 16, 19, 22])])
def spec_l1Block.B20 : List Nat := [0, 0, 3, 0, 0, 16, 48, 0, 128, 384, 0, 1024, 3072, 0, 15360, 0, 0, 65536, 196608, 0, 524288, 1572864, 4194303, 8388607]
theorem spec_l1Block.tab20 : rtab .any (opsOf Try.f105 20) = spec_l1Block.T20 := by kernel_rfl
theorem spec_l1Block.bits20 : waitsOk spec_l1Block.T20.2 spec_l1Block.B20 = true := by kernel_rfl
def spec_l1Block.T25 : Bool × List (List Nat × List Nat) := (true, [([], []), ([], []), ([], []), ([1, 2], [1, 2]), ([3], [3]), ([], []), ([], []), ([5, 6], [5, 6]), ([7], [7]), ([4, 8], [4, 8]), ([9], [9]), ([0, 10], [0, 10]), ([11, 11, 0, 1, 2, 3, 4, 5, 6, 7, 8, 9, 10, 11], [0, 11])])
def spec_l1Block.B25 : List Nat := [0, 0, 0, 6, 14, 0, 0, 96, 224, 510, 1022, 2047, 4095]
theorem spec_l1Block.tab25 : rtab .any (opsOf Try.f105 25) = spec_l1Block.T25 := by kernel_rfl
theorem spec_l1Block.bits25 : waitsOk spec_l1Block.T25.2 spec_l1Block.B25 = true := by kernel_rfl
set_option maxHeartbeats 8000000 in
set_option maxRecDepth 100000 in
theorem spec_l1Block.calls (k : Nat) (A0 : Option Addr) (c0 : Nat) (l0 : List Int) (A1 : Option Addr) (c1 : Nat) (l1 : List Int) (A2 : Option Addr) (c2 : Nat) (l2 : List Int) (r : List Int) (w : World) (hr0 : Kd.C (Kd.int .u32) w A0 l0.length l0) (hc0 : l0.length ≤ c0) (hr1 : Kd.C (Kd.int .u32) w A1 l1.length l1) (hc1 : l1.length ≤ c1) (hr2 : Kd.C (Kd.int .u8) w A2 l2.length l2) (hc2 : l2.length ≤ c2) (h : spec_l1Block.f k l0 l1 l2 = some r) :
  Calls Try.prog 105 #[.slice A0 l0.length c0, .slice A1 l1.length c1, .slice A2 l2.length c2] w fun e w' => ∃ v0_ : Value, e = .returned (v0_) ∧ Kd.R (Kd.int .u32) 93 w' w.heap.size (fun _ => True) v0_ r ∧ Below w.heap.size w w' := by
 have HR0 := Aside0.mk hr0
 have HC0 := Aside0.mk hc0
 clear hr0 hc0
 have HR1 := Aside0.mk hr1
 have HC1 := Aside0.mk hc1
 clear hr1 hc1
 have HR2 := Aside0.mk hr2
 have HC2 := Aside0.mk hc2
 clear hr2 hc2
 have HB := Aside0.mk (Below.refl w.heap.size w)
 have H : (if 64 ≤ 70368744177664 then (spec_l1Block.l0 k l0 l1 l2 (List.replicate 64 0) 0) else (none)) = some r := h
 clear h
 by_cases c4 : 64 ≤ 70368744177664
 ·
  rw [if_pos c4] at H
  have c4b0 := eq_true c4
  have c4b1 : decide (64 ≤ 70368744177664) = true := decide_eq_true c4
  clear c4
  obtain ⟨y113, hy113⟩ : ∃ y_ : List Int, y_ = (List.replicate 64 0) := ⟨_, rfl⟩
  replace H : (spec_l1Block.l0 k l0 l1 l2 y113 0) = some r := by first | (rw [hy113]; with_reducible exact H) | (have H2_ := (Option.bind_some _ _).symm.trans H; rw [hy113]; with_reducible exact H2_) | (have H2_ := (Option.bind_some _ _).symm.trans H; with_reducible exact H2_) | with_reducible exact H | (rw [hy113]; exact H) | exact H
  have Ny113 := Aside0.mk hy113
  clear hy113
  have H' := Aside0.mk H
  clear H
  go_enter Try.func105, Try.ntmps105
  go_wp2_with (first | ((with_reducible refine gate_dst (N := 21) rfl ?_); refine Kd.R_make (Kd.int .u32) _ 93 rfl (N := 21) rfl 90 _ _ rfl 64 rfl rfl Try.underlying90 (.int .u32 0) 4 info93 rfl (by decide) (by omega) 0 (ok := fun _ => True) (okp := fun _ => True) rfl (fun _ hk => hk) trivial (by omega) (by omega) (Below.refl _ _) (Nat.le_refl _) ?_; intro v114 w5 ho6 hb hg_ hnew_; clear hg_ hnew_; (first | rw [← Ny113.out] at ho6 | (simp only [Int.reduceToNat] at ho6; rw [← Ny113.out] at ho6)); have n0_ := Aside0.mk (Kd.R_lower ho6 (below_size zq3)); have n1_ := Aside0.mk (below_step zq3 hb); clear HB; have HO115 := n0_; have HB := n1_; clear n0_ n1_; clear hb ho6))
  go_loopg [8] k (fun kq v8 w' => ∃ (x7_1 : List Int) (x8_1 : Int), v8 = .int .i64 x8_1 ∧ Aside0 (spec_l1Block.l0 kq l0 l1 l2 x7_1 x8_1 = some r) ∧ Aside0 (kq ≤ k) ∧ Aside0 (Kd.R (Kd.int .u32) 93 w' w.heap.size (fun _ => True) v114 x7_1) ∧ Aside0 (Below w.heap.size w w'))
  case atStart => exact ⟨(y113), (0), zq6, H', ⟨Nat.le_refl _⟩, ⟨by (with_reducible repeat (first | apply Kd.R_alloc | apply Kd.R_drewN | apply Kd.R_drew)); first | exact HO115.out | (have h_ := HO115.out; simp only [Int.emod_add_emod, Int.add_emod_emod] at h_ ⊢; exact h_)⟩, ⟨zq3⟩⟩
  case round =>
   clear H'
   try clear c1
   try clear c2
   try clear p2
   try clear c4
   try clear c4b0
   try clear c4b1
   obtain ⟨x7_1, x8_1, rfl, HA, HK1, HO_7, HB⟩ := hrel
   cases gk with
   | zero => exact absurd HA.out (by simp [spec_l1Block.l0])
   | succ k1 =>
    have H := HA.out
    clear HA
    simp only [spec_l1Block.l0] at H
    by_cases c7 : x8_1 < 64
    ·
     rw [if_pos c7] at H
     have c7b0 : decide (x8_1 < 64) = true := decide_eq_true c7
     clear c7
     by_cases c8 : x8_1 < 16
     ·
      rw [if_pos c8] at H
      have c8b0 : decide (x8_1 < 16) = true := decide_eq_true c8
      clear c8
      obtain ⟨ji9, hji9⟩ : ∃ j_ : Int, (wrap64 (4 * x8_1)) = j_ := ⟨_, rfl⟩
      replace H : (if 0 ≤ (ji9) then (if (ji9) < (l2.length : Int) then (if 0 ≤ (wrap64 ((ji9) + 1)) then (if (wrap64 ((ji9) + 1)) < (l2.length : Int) then (if 0 ≤ (wrap64 ((ji9) + 2)) then (if (wrap64 ((ji9) + 2)) < (l2.length : Int) then (if 0 ≤ (wrap64 ((ji9) + 3)) then (if (wrap64 ((ji9) + 3)) < (l2.length : Int) then (if 0 ≤ x8_1 then (if x8_1 < (x7_1.length : Int) then (spec_l1Block.l0 k1 l0 l1 l2 (x7_1.set (x8_1 : Int).toNat (Go.bits .or .u32 (Go.bits .or .u32 (Go.bits .or .u32 ((((rd l2 (ji9)) % 4294967296) * 16777216) % 4294967296) ((((rd l2 (wrap64 ((ji9) + 1))) % 4294967296) * 65536) % 4294967296)) ((((rd l2 (wrap64 ((ji9) + 2))) % 4294967296) * 256) % 4294967296)) ((rd l2 (wrap64 ((ji9) + 3))) % 4294967296))) (wrap64 (x8_1 + 1))) else (none)) else (none)) else (none)) else (none)) else (none)) else (none)) else (none)) else (none)) else (none)) else (none)) = some r := by first | (rw [hji9] at H; exact H) | (simp only [hji9] at H ⊢; exact H)
      have hji9w : (IntKind.i64.wrap (4 * x8_1)) = ji9 := (i64_w _).trans hji9
      by_cases c10 : 0 ≤ (ji9)
      ·
       rw [if_pos c10] at H
       have c10b0 : decide (0 ≤ (ji9)) = true := decide_eq_true c10
       clear c10
       by_cases c11 : (ji9) < (l2.length : Int)
       ·
        rw [if_pos c11] at H
        have c11b0 : decide ((ji9) < (l2.length : Int)) = true := decide_eq_true c11
        clear c11
        obtain ⟨ji12, hji12⟩ : ∃ j_ : Int, (wrap64 ((ji9) + 1)) = j_ := ⟨_, rfl⟩
        replace H : (if 0 ≤ (ji12) then (if (ji12) < (l2.length : Int) then (if 0 ≤ (wrap64 ((ji9) + 2)) then (if (wrap64 ((ji9) + 2)) < (l2.length : Int) then (if 0 ≤ (wrap64 ((ji9) + 3)) then (if (wrap64 ((ji9) + 3)) < (l2.length : Int) then (if 0 ≤ x8_1 then (if x8_1 < (x7_1.length : Int) then (spec_l1Block.l0 k1 l0 l1 l2 (x7_1.set (x8_1 : Int).toNat (Go.bits .or .u32 (Go.bits .or .u32 (Go.bits .or .u32 ((((rd l2 (ji9)) % 4294967296) * 16777216) % 4294967296) ((((rd l2 (ji12)) % 4294967296) * 65536) % 4294967296)) ((((rd l2 (wrap64 ((ji9) + 2))) % 4294967296) * 256) % 4294967296)) ((rd l2 (wrap64 ((ji9) + 3))) % 4294967296))) (wrap64 (x8_1 + 1))) else (none)) else (none)) else (none)) else (none)) else (none)) else (none)) else (none)) else (none)) = some r := by first | (rw [hji12] at H; exact H) | (simp only [hji12] at H ⊢; exact H)
        have hji12w : (IntKind.i64.wrap ((ji9) + 1)) = ji12 := (i64_w _).trans hji12
        by_cases c13 : 0 ≤ (ji12)
        ·
         rw [if_pos c13] at H
         have c13b0 : decide (0 ≤ (ji12)) = true := decide_eq_true c13
         clear c13
         by_cases c14 : (ji12) < (l2.length : Int)
         ·
          rw [if_pos c14] at H
          have c14b0 : decide ((ji12) < (l2.length : Int)) = true := decide_eq_true c14
          clear c14
          obtain ⟨ji15, hji15⟩ : ∃ j_ : Int, (wrap64 ((ji9) + 2)) = j_ := ⟨_, rfl⟩
          replace H : (if 0 ≤ (ji15) then (if (ji15) < (l2.length : Int) then (if 0 ≤ (wrap64 ((ji9) + 3)) then (if (wrap64 ((ji9) + 3)) < (l2.length : Int) then (if 0 ≤ x8_1 then (if x8_1 < (x7_1.length : Int) then (spec_l1Block.l0 k1 l0 l1 l2 (x7_1.set (x8_1 : Int).toNat (Go.bits .or .u32 (Go.bits .or .u32 (Go.bits .or .u32 ((((rd l2 (ji9)) % 4294967296) * 16777216) % 4294967296) ((((rd l2 (ji12)) % 4294967296) * 65536) % 4294967296)) ((((rd l2 (ji15)) % 4294967296) * 256) % 4294967296)) ((rd l2 (wrap64 ((ji9) + 3))) % 4294967296))) (wrap64 (x8_1 + 1))) else (none)) else (none)) else (none)) else (none)) else (none)) else (none)) = some r := by first | (rw [hji15] at H; exact H) | (simp only [hji15] at H ⊢; exact H)
          have hji15w : (IntKind.i64.wrap ((ji9) + 2)) = ji15 := (i64_w _).trans hji15
          by_cases c16 : 0 ≤ (ji15)
          ·
           rw [if_pos c16] at H
           have c16b0 : decide (0 ≤ (ji15)) = true := decide_eq_true c16
           clear c16
           by_cases c17 : (ji15) < (l2.length : Int)
           ·
            rw [if_pos c17] at H
            have c17b0 : decide ((ji15) < (l2.length : Int)) = true := decide_eq_true c17
            clear c17
            obtain ⟨ji18, hji18⟩ : ∃ j_ : Int, (wrap64 ((ji9) + 3)) = j_ := ⟨_, rfl⟩
            replace H : (if 0 ≤ (ji18) then (if (ji18) < (l2.length : Int) then (if 0 ≤ x8_1 then (if x8_1 < (x7_1.length : Int) then (spec_l1Block.l0 k1 l0 l1 l2 (x7_1.set (x8_1 : Int).toNat (Go.bits .or .u32 (Go.bits .or .u32 (Go.bits .or .u32 ((((rd l2 (ji9)) % 4294967296) * 16777216) % 4294967296) ((((rd l2 (ji12)) % 4294967296) * 65536) % 4294967296)) ((((rd l2 (ji15)) % 4294967296) * 256) % 4294967296)) ((rd l2 (ji18)) % 4294967296))) (wrap64 (x8_1 + 1))) else (none)) else (none)) else (none)) else (none)) = some r := by first | (rw [hji18] at H; exact H) | (simp only [hji18] at H ⊢; exact H)
            have hji18w : (IntKind.i64.wrap ((ji9) + 3)) = ji18 := (i64_w _).trans hji18
            by_cases c19 : 0 ≤ (ji18)
            ·
             rw [if_pos c19] at H
             have c19b0 : decide (0 ≤ (ji18)) = true := decide_eq_true c19
             clear c19
             by_cases c20 : (ji18) < (l2.length : Int)
             ·
              rw [if_pos c20] at H
              have c20b0 : decide ((ji18) < (l2.length : Int)) = true := decide_eq_true c20
              clear c20
              by_cases c21 : 0 ≤ x8_1
              ·
               rw [if_pos c21] at H
               have c21b0 : decide (0 ≤ x8_1) = true := decide_eq_true c21
               clear c21
               by_cases c22 : x8_1 < (x7_1.length : Int)
               ·
                rw [if_pos c22] at H
                have c22b0 : decide (x8_1 < (x7_1.length : Int)) = true := decide_eq_true c22
                clear c22
                obtain ⟨y120, hy120⟩ : ∃ y_ : List Int, y_ = (x7_1.set (x8_1 : Int).toNat (Go.bits .or .u32 (Go.bits .or .u32 (Go.bits .or .u32 ((((rd l2 (ji9)) % 4294967296) * 16777216) % 4294967296) ((((rd l2 (ji12)) % 4294967296) * 65536) % 4294967296)) ((((rd l2 (ji15)) % 4294967296) * 256) % 4294967296)) ((rd l2 (ji18)) % 4294967296))) := ⟨_, rfl⟩
                replace H : (spec_l1Block.l0 k1 l0 l1 l2 y120 (wrap64 (x8_1 + 1))) = some r := by first | (rw [hy120]; with_reducible exact H) | (have H2_ := (Option.bind_some _ _).symm.trans H; rw [hy120]; with_reducible exact H2_) | (have H2_ := (Option.bind_some _ _).symm.trans H; with_reducible exact H2_) | with_reducible exact H | (rw [hy120]; exact H) | exact H
                have Ny120 := Aside0.mk hy120
                clear hy120
                have H' := Aside0.mk H
                clear H
                try go_wp2
                have n0_ := Aside0.mk (Kd.R_drew HO_7.out)
                have n1_ := Aside0.mk (below_drew1 HB.out)
                clear HO_7
                clear HB
                have HO_7 := n0_
                have HB := n1_
                clear n0_ n1_
                have p116 : 0 ≤ ((ji9) : Int) := of_decide_eq_true zq7
                have q116 : (ji9) < (l2.length : Int) := of_decide_eq_true zq7
                obtain ⟨ad116, e116, hx116_0⟩ := Kd.at_int HR2.out (ji9) p116 q116
                have hw116_0 := hx116_0
                cases e116
                replace hx116_0 := (HB.out.cell (World.block_lt_of_cell? w _ hx116_0)).trans hx116_0
                replace p116 := eq_true p116
                replace q116 := eq_true q116
                have p117 : 0 ≤ ((ji12) : Int) := of_decide_eq_true zq7
                have q117 : (ji12) < (l2.length : Int) := of_decide_eq_true zq7
                obtain ⟨ad117, e117, hx117_0⟩ := Kd.at_int HR2.out (ji12) p117 q117
                have hw117_0 := hx117_0
                obtain rfl : ad116 = ad117 := (by injection e117)
                replace hx117_0 := (HB.out.cell (World.block_lt_of_cell? w _ hx117_0)).trans hx117_0
                replace p117 := eq_true p117
                replace q117 := eq_true q117
                have p118 : 0 ≤ ((ji15) : Int) := of_decide_eq_true zq7
                have q118 : (ji15) < (l2.length : Int) := of_decide_eq_true zq7
                obtain ⟨ad118, e118, hx118_0⟩ := Kd.at_int HR2.out (ji15) p118 q118
                have hw118_0 := hx118_0
                obtain rfl : ad116 = ad118 := (by injection e118)
                replace hx118_0 := (HB.out.cell (World.block_lt_of_cell? w _ hx118_0)).trans hx118_0
                replace p118 := eq_true p118
                replace q118 := eq_true q118
                have p119 : 0 ≤ ((ji18) : Int) := of_decide_eq_true zq7
                have q119 : (ji18) < (l2.length : Int) := of_decide_eq_true zq7
                obtain ⟨ad119, e119, hx119_0⟩ := Kd.at_int HR2.out (ji18) p119 q119
                have hw119_0 := hx119_0
                obtain rfl : ad116 = ad119 := (by injection e119)
                replace hx119_0 := (HB.out.cell (World.block_lt_of_cell? w _ hx119_0)).trans hx119_0
                replace p119 := eq_true p119
                replace q119 := eq_true q119
                have p23 : 0 ≤ (x8_1 : Int) := of_decide_eq_true zq7
                have q23 : (x8_1 : Int) < ((x7_1.length : Int) : Int) := of_decide_eq_true zq7
                obtain ⟨go23, co23, eo23, gb23, gl23, cl23, HG23⟩ := Kd.R_form HO_7.out (by omega)
                (first | cases eo23 | (injection eo23 with ea_ en_ ec_; (first | subst ea_ | (injection ea_ with ea_; subst ea_)); subst ec_; clear en_))
                have GB23 := Aside0.mk gb23
                have GG23 := Aside0.mk HG23
                clear gb23 gl23 HG23
                obtain ⟨hx23_0, hf23_0⟩ := Kd.R_celln 0 HO_7.out (x8_1 : Int) p23 q23
                replace p23 := eq_true p23
                replace q23 := eq_true q23
                have HP25 := Kd.R_putn HO_7.out (x8_1 : Int) (Go.bits .or .u32 (Go.bits .or .u32 (Go.bits .or .u32 ((((rd l2 (ji9)) % 4294967296) * 16777216) % 4294967296) ((((rd l2 (ji12)) % 4294967296) * 65536) % 4294967296)) ((((rd l2 (ji15)) % 4294967296) * 256) % 4294967296)) ((rd l2 (ji18)) % 4294967296))
                rw [← Ny120.out] at HP25
                have HQ25 := Aside0.mk HP25
                clear HP25
                refine start_ (n := 37) (S := fun w' => w'.cell? (ad116.add ((ji9)).toNat) = some (.int .u8 (rd l2 (ji9))) ∧ w'.cell? (ad116.add ((ji12)).toNat) = some (.int .u8 (rd l2 (ji12))) ∧ w'.cell? (ad116.add ((ji15)).toNat) = some (.int .u8 (rd l2 (ji15))) ∧ w'.cell? (ad116.add ((ji18)).toNat) = some (.int .u8 (rd l2 (ji18)))) (ds := [36]) (bA 37 0) (by kernel_rfl) rfl rfl ⟨((HB.out.cell (World.block_lt_of_cell? w _ hw116_0)).trans hw116_0), ((HB.out.cell (World.block_lt_of_cell? w _ hw117_0)).trans hw117_0), ((HB.out.cell (World.block_lt_of_cell? w _ hw118_0)).trans hw118_0), ((HB.out.cell (World.block_lt_of_cell? w _ hw119_0)).trans hw119_0)⟩ (fun hHeld => ?_); refine with_tabW spec_l1Block.tab6 spec_l1Block.bits6 (fun HT_ HW_ => ?_)
                generalize wr.drew = w24 at HO_7 HB GG23 HQ25 hf23_0 hx116_0 hx117_0 hx118_0 hx119_0 hx23_0 hHeld ⊢
                refine pu_ (i := 0) (N := some 28) (bA 37 1) rfl rfl HT_ (by kernel_rfl) (Or.inl ⟨by rfl, zq162⟩) zq163 ?_
                refine pu_ (i := 1) (N := some 29) (bA 37 3) rfl rfl HT_ (by kernel_rfl) (Or.inl ⟨by rfl, zq162⟩) zq163 ?_
                refine pu_ (i := 2) (N := some 30) (bA 37 7) rfl rfl HT_ (by kernel_rfl) (Or.inl ⟨by rfl, zq162⟩) zq163 ?_
                refine pu_ (i := 3) (N := some 31) (bA 37 15) rfl rfl HT_ (by kernel_rfl) (Or.inl ⟨by rfl, zq162⟩) zq163 ?_
                refine pu_ (i := 4) (N := some 32) (bA 37 31) rfl rfl HT_ (by kernel_rfl) (Or.inl ⟨by rfl, zq162⟩) zq163 ?_
                refine pu_ (i := 5) (N := some 33) (bA 37 63) rfl rfl HT_ (by kernel_rfl) (Or.inl ⟨by rfl, zq162⟩) zq163 ?_
                refine pu_ (i := 9) (N := some 37) (bA 37 575) rfl rfl HT_ (by kernel_rfl) (Or.inl ⟨by rfl, zq162⟩) zq163 ?_
                refine pu_ (i := 10) (N := some 38) (bA 37 1599) rfl rfl HT_ (by kernel_rfl) (Or.inl ⟨by rfl, zq162⟩) zq163 ?_
                refine pu_ (i := 11) (N := some 39) (bA 37 3647) rfl rfl HT_ (by kernel_rfl) (Or.inl ⟨by rfl, zq162⟩) zq163 ?_
                refine pu_ (i := 12) (N := some 40) (bA 37 7743) rfl rfl HT_ (by kernel_rfl) (Or.inl ⟨by rfl, zq162⟩) zq163 ?_
                refine pu_ (i := 13) (N := some 41) (bA 37 15935) rfl rfl HT_ (by kernel_rfl) (Or.inl ⟨by rfl, zq162⟩) zq163 ?_
                refine pu_ (i := 18) (N := some 46) (bA 37 278079) rfl rfl HT_ (by kernel_rfl) (Or.inl ⟨by rfl, zq162⟩) zq163 ?_
                refine pu_ (i := 19) (N := some 47) (bA 37 802367) rfl rfl HT_ (by kernel_rfl) (Or.inl ⟨by rfl, zq162⟩) zq163 ?_
                refine pu_ (i := 20) (N := some 48) (bA 37 1850943) rfl rfl HT_ (by kernel_rfl) (Or.inl ⟨by rfl, zq162⟩) zq163 ?_
                refine pu_ (i := 21) (N := some 49) (bA 37 3948095) rfl rfl HT_ (by kernel_rfl) (Or.inl ⟨by rfl, zq162⟩) zq163 ?_
                refine pu_ (i := 22) (N := some 50) (bA 37 8142399) rfl rfl HT_ (by kernel_rfl) (Or.inl ⟨by rfl, zq162⟩) zq163 ?_
                refine pu_ (i := 27) (N := some 55) (bA 37 142360127) rfl rfl HT_ (by kernel_rfl) (Or.inl ⟨by rfl, zq162⟩) zq163 ?_
                refine pu_ (i := 28) (N := some 56) (bA 37 410795583) rfl rfl HT_ (by kernel_rfl) (Or.inl ⟨by rfl, zq162⟩) zq163 ?_
                refine pu_ (i := 29) (N := some 57) (bA 37 947666495) rfl rfl HT_ (by kernel_rfl) (Or.inl ⟨by rfl, zq162⟩) zq163 ?_
                refine pu_ (i := 30) (N := some 58) (bA 37 2021408319) rfl rfl HT_ (by kernel_rfl) (Or.inl ⟨by rfl, zq162⟩) zq163 ?_
                refine pu_ (i := 31) (N := some 59) (bA 37 4168891967) rfl rfl HT_ (by kernel_rfl) (Or.inl ⟨by rfl, zq162⟩) zq163 ?_
                refine tk_ (i := 6) (N := some 34) (bA 37 4168892031) rfl rfl HT_ HW_ (by kernel_rfl) (Or.inl ⟨by rfl, zq164⟩) hHeld zq163 ?_
                refine pu_ (i := 7) (N := some 35) (bA 37 4168892159) rfl rfl HT_ (by kernel_rfl) (Or.inl ⟨by rfl, zq162⟩) zq163 ?_
                refine pu_ (i := 8) (N := some 36) (bA 37 4168892415) rfl rfl HT_ (by kernel_rfl) (Or.inl ⟨by rfl, zq162⟩) zq163 ?_
                refine tk_ (i := 14) (N := some 42) (bA 37 4168908799) rfl rfl HT_ HW_ (by kernel_rfl) (Or.inl ⟨by rfl, zq164⟩) hHeld zq163 ?_
                refine pu_ (i := 15) (N := some 43) (bA 37 4168941567) rfl rfl HT_ (by kernel_rfl) (Or.inl ⟨by rfl, zq162⟩) zq163 ?_
                refine pu_ (i := 16) (N := some 44) (bA 37 4169007103) rfl rfl HT_ (by kernel_rfl) (Or.inl ⟨by rfl, zq162⟩) zq163 ?_
                refine pu_ (i := 17) (N := some 45) (bA 37 4169138175) rfl rfl HT_ (by kernel_rfl) (Or.inl ⟨by rfl, zq162⟩) zq163 ?_
                refine tk_ (i := 23) (N := some 51) (bA 37 4177526783) rfl rfl HT_ HW_ (by kernel_rfl) (Or.inl ⟨by rfl, zq164⟩) hHeld zq163 ?_
                refine pu_ (i := 24) (N := some 52) (bA 37 4194303999) rfl rfl HT_ (by kernel_rfl) (Or.inl ⟨by rfl, zq162⟩) zq163 ?_
                refine pu_ (i := 25) (N := some 53) (bA 37 4227858431) rfl rfl HT_ (by kernel_rfl) (Or.inl ⟨by rfl, zq162⟩) zq163 ?_
                refine pu_ (i := 26) (N := some 54) (bA 37 4294967295) rfl rfl HT_ (by kernel_rfl) (Or.inl ⟨by rfl, zq162⟩) zq163 ?_
                refine tk_ (i := 32) (N := some 60) (bA 37 8589934591) rfl rfl HT_ HW_ (by kernel_rfl) (Or.inl ⟨by rfl, zq164⟩) hHeld zq163 ?_
                refine pu_ (i := 33) (N := some 61) (bA 37 17179869183) rfl rfl HT_ (by kernel_rfl) (Or.inl ⟨by rfl, zq162⟩) zq163 ?_
                refine pu_ (i := 34) (N := some 62) (bA 37 34359738367) rfl rfl HT_ (by kernel_rfl) (Or.inl ⟨by rfl, zq162⟩) zq163 ?_
                refine pu_ (i := 35) (N := some 63) (bA 37 68719476735) rfl rfl HT_ (by kernel_rfl) (Or.inl ⟨by rfl, zq162⟩) zq163 ?_
                refine last_ (i := 36) (N := none) (bA 37 137438953471) rfl rfl (one_of HT_.out (by kernel_rfl)) (by decide) (fun K hK => ?_)
                refine skip_ (w1 := ?_) (by rfl) rfl ?_ ?_
                rotate_left
                ·
                 go_simp
                 rfl
                refine hK.out _ _ ?_
                clear hK K
                refine done_ (done_of HT_.out (by kernel_rfl)) ?_
                try go_wp2
                go_roundg k1
                case measure => have := HK1.out; omega
                case rel => exact ⟨(y120), (wrap64 (x8_1 + 1)), zq6, H', ⟨zq9⟩, ⟨by (with_reducible repeat (first | apply Kd.R_alloc | apply Kd.R_drewN | apply Kd.R_drew)); first | exact HQ25.out | (have h_ := HQ25.out; simp only [Int.emod_add_emod, Int.add_emod_emod] at h_ ⊢; exact h_)⟩, ⟨by repeat (first | (with_reducible first | exact HB.out | apply below_alloc | apply pw_below_drewN | apply below_drew1 | refine below_set ?_ GB23.out) | exact HB.out)⟩⟩
               ·
                rw [if_neg c22] at H
                exact absurd H (by simp)
              ·
               rw [if_neg c21] at H
               exact absurd H (by simp)
             ·
              rw [if_neg c20] at H
              exact absurd H (by simp)
            ·
             rw [if_neg c19] at H
             exact absurd H (by simp)
           ·
            rw [if_neg c17] at H
            exact absurd H (by simp)
          ·
           rw [if_neg c16] at H
           exact absurd H (by simp)
         ·
          rw [if_neg c14] at H
          exact absurd H (by simp)
        exact zq168
       exact zq169
      ·
       rw [if_neg c10] at H
       exact absurd H (by simp)
     ·
      rw [if_neg c8] at H
      have c8b0 : decide (x8_1 < 16) = false := decide_eq_false c8
      clear c8
      obtain ⟨ji26, hji26⟩ : ∃ j_ : Int, (wrap64 (x8_1 - 15)) = j_ := ⟨_, rfl⟩
      replace H : (if 0 ≤ (ji26) then (if (ji26) < (x7_1.length : Int) then (if 0 ≤ (wrap64 (x8_1 - 2)) then (if (wrap64 (x8_1 - 2)) < (x7_1.length : Int) then ((spec_Rotate.f (rd x7_1 (ji26)) 7).bind fun t123 => ((spec_Rotate.f (rd x7_1 (ji26)) 18).bind fun t124 => ((spec_Rotate.f (rd x7_1 (wrap64 (x8_1 - 2))) 17).bind fun t125 => ((spec_Rotate.f (rd x7_1 (wrap64 (x8_1 - 2))) 19).bind fun t126 => (if 0 ≤ (wrap64 (x8_1 - 7)) then (if (wrap64 (x8_1 - 7)) < (x7_1.length : Int) then (if 0 ≤ (wrap64 (x8_1 - 16)) then (if (wrap64 (x8_1 - 16)) < (x7_1.length : Int) then (if 0 ≤ x8_1 then (if x8_1 < (x7_1.length : Int) then (spec_l1Block.l0 k1 l0 l1 l2 (x7_1.set (x8_1 : Int).toNat (((((((Go.bits .xor .u32 (Go.bits .xor .u32 t125 t126) ((rd x7_1 (wrap64 (x8_1 - 2))) / 1024)) + (rd x7_1 (wrap64 (x8_1 - 7)))) % 4294967296) + (Go.bits .xor .u32 (Go.bits .xor .u32 t123 t124) ((rd x7_1 (ji26)) / 8))) % 4294967296) + (rd x7_1 (wrap64 (x8_1 - 16)))) % 4294967296)) (wrap64 (x8_1 + 1))) else (none)) else (none)) else (none)) else (none)) else (none)) else (none)))))) else (none)) else (none)) else (none)) else (none)) = some r := by first | (rw [hji26] at H; exact H) | (simp only [hji26] at H ⊢; exact H)
      have hji26w : (IntKind.i64.wrap (x8_1 - 15)) = ji26 := (i64_w _).trans hji26
      by_cases c27 : 0 ≤ (ji26)
      ·
       rw [if_pos c27] at H
       have c27b0 : decide (0 ≤ (ji26)) = true := decide_eq_true c27
       clear c27
       by_cases c28 : (ji26) < (x7_1.length : Int)
       ·
        rw [if_pos c28] at H
        have c28b0 : decide ((ji26) < (x7_1.length : Int)) = true := decide_eq_true c28
        clear c28
        obtain ⟨ji29, hji29⟩ : ∃ j_ : Int, (wrap64 (x8_1 - 2)) = j_ := ⟨_, rfl⟩
        replace H : (if 0 ≤ (ji29) then (if (ji29) < (x7_1.length : Int) then ((spec_Rotate.f (rd x7_1 (ji26)) 7).bind fun t123 => ((spec_Rotate.f (rd x7_1 (ji26)) 18).bind fun t124 => ((spec_Rotate.f (rd x7_1 (ji29)) 17).bind fun t125 => ((spec_Rotate.f (rd x7_1 (ji29)) 19).bind fun t126 => (if 0 ≤ (wrap64 (x8_1 - 7)) then (if (wrap64 (x8_1 - 7)) < (x7_1.length : Int) then (if 0 ≤ (wrap64 (x8_1 - 16)) then (if (wrap64 (x8_1 - 16)) < (x7_1.length : Int) then (if 0 ≤ x8_1 then (if x8_1 < (x7_1.length : Int) then (spec_l1Block.l0 k1 l0 l1 l2 (x7_1.set (x8_1 : Int).toNat (((((((Go.bits .xor .u32 (Go.bits .xor .u32 t125 t126) ((rd x7_1 (ji29)) / 1024)) + (rd x7_1 (wrap64 (x8_1 - 7)))) % 4294967296) + (Go.bits .xor .u32 (Go.bits .xor .u32 t123 t124) ((rd x7_1 (ji26)) / 8))) % 4294967296) + (rd x7_1 (wrap64 (x8_1 - 16)))) % 4294967296)) (wrap64 (x8_1 + 1))) else (none)) else (none)) else (none)) else (none)) else (none)) else (none)))))) else (none)) else (none)) = some r := by first | (rw [hji29] at H; exact H) | (simp only [hji29] at H ⊢; exact H)
        have hji29w : (IntKind.i64.wrap (x8_1 - 2)) = ji29 := (i64_w _).trans hji29
        by_cases c30 : 0 ≤ (ji29)
        ·
         rw [if_pos c30] at H
         have c30b0 : decide (0 ≤ (ji29)) = true := decide_eq_true c30
         clear c30
         by_cases c31 : (ji29) < (x7_1.length : Int)
         ·
          rw [if_pos c31] at H
          have c31b0 : decide ((ji29) < (x7_1.length : Int)) = true := decide_eq_true c31
          clear c31
          replace H := Option.bind_eq_some_iff.mp H
          obtain ⟨t123, A320, H⟩ := H
          replace H : ((spec_Rotate.f (rd x7_1 (ji26)) 18).bind fun t124 => ((spec_Rotate.f (rd x7_1 (ji29)) 17).bind fun t125 => ((spec_Rotate.f (rd x7_1 (ji29)) 19).bind fun t126 => (if 0 ≤ (wrap64 (x8_1 - 7)) then (if (wrap64 (x8_1 - 7)) < (x7_1.length : Int) then (if 0 ≤ (wrap64 (x8_1 - 16)) then (if (wrap64 (x8_1 - 16)) < (x7_1.length : Int) then (if 0 ≤ x8_1 then (if x8_1 < (x7_1.length : Int) then (spec_l1Block.l0 k1 l0 l1 l2 (x7_1.set (x8_1 : Int).toNat (((((((Go.bits .xor .u32 (Go.bits .xor .u32 t125 t126) ((rd x7_1 (ji29)) / 1024)) + (rd x7_1 (wrap64 (x8_1 - 7)))) % 4294967296) + (Go.bits .xor .u32 (Go.bits .xor .u32 t123 t124) ((rd x7_1 (ji26)) / 8))) % 4294967296) + (rd x7_1 (wrap64 (x8_1 - 16)))) % 4294967296)) (wrap64 (x8_1 + 1))) else (none)) else (none)) else (none)) else (none)) else (none)) else (none))))) = some r := H
          have A32 := Aside0.mk A320
          clear A320
          replace H := Option.bind_eq_some_iff.mp H
          obtain ⟨t124, A330, H⟩ := H
          replace H : ((spec_Rotate.f (rd x7_1 (ji29)) 17).bind fun t125 => ((spec_Rotate.f (rd x7_1 (ji29)) 19).bind fun t126 => (if 0 ≤ (wrap64 (x8_1 - 7)) then (if (wrap64 (x8_1 - 7)) < (x7_1.length : Int) then (if 0 ≤ (wrap64 (x8_1 - 16)) then (if (wrap64 (x8_1 - 16)) < (x7_1.length : Int) then (if 0 ≤ x8_1 then (if x8_1 < (x7_1.length : Int) then (spec_l1Block.l0 k1 l0 l1 l2 (x7_1.set (x8_1 : Int).toNat (((((((Go.bits .xor .u32 (Go.bits .xor .u32 t125 t126) ((rd x7_1 (ji29)) / 1024)) + (rd x7_1 (wrap64 (x8_1 - 7)))) % 4294967296) + (Go.bits .xor .u32 (Go.bits .xor .u32 t123 t124) ((rd x7_1 (ji26)) / 8))) % 4294967296) + (rd x7_1 (wrap64 (x8_1 - 16)))) % 4294967296)) (wrap64 (x8_1 + 1))) else (none)) else (none)) else (none)) else (none)) else (none)) else (none)))) = some r := H
          have A33 := Aside0.mk A330
          clear A330
          replace H := Option.bind_eq_some_iff.mp H
          obtain ⟨t125, A340, H⟩ := H
          replace H : ((spec_Rotate.f (rd x7_1 (ji29)) 19).bind fun t126 => (if 0 ≤ (wrap64 (x8_1 - 7)) then (if (wrap64 (x8_1 - 7)) < (x7_1.length : Int) then (if 0 ≤ (wrap64 (x8_1 - 16)) then (if (wrap64 (x8_1 - 16)) < (x7_1.length : Int) then (if 0 ≤ x8_1 then (if x8_1 < (x7_1.length : Int) then (spec_l1Block.l0 k1 l0 l1 l2 (x7_1.set (x8_1 : Int).toNat (((((((Go.bits .xor .u32 (Go.bits .xor .u32 t125 t126) ((rd x7_1 (ji29)) / 1024)) + (rd x7_1 (wrap64 (x8_1 - 7)))) % 4294967296) + (Go.bits .xor .u32 (Go.bits .xor .u32 t123 t124) ((rd x7_1 (ji26)) / 8))) % 4294967296) + (rd x7_1 (wrap64 (x8_1 - 16)))) % 4294967296)) (wrap64 (x8_1 + 1))) else (none)) else (none)) else (none)) else (none)) else (none)) else (none))) = some r := H
          have A34 := Aside0.mk A340
          clear A340
          replace H := Option.bind_eq_some_iff.mp H
          obtain ⟨t126, A350, H⟩ := H
          replace H : (if 0 ≤ (wrap64 (x8_1 - 7)) then (if (wrap64 (x8_1 - 7)) < (x7_1.length : Int) then (if 0 ≤ (wrap64 (x8_1 - 16)) then (if (wrap64 (x8_1 - 16)) < (x7_1.length : Int) then (if 0 ≤ x8_1 then (if x8_1 < (x7_1.length : Int) then (spec_l1Block.l0 k1 l0 l1 l2 (x7_1.set (x8_1 : Int).toNat (((((((Go.bits .xor .u32 (Go.bits .xor .u32 t125 t126) ((rd x7_1 (ji29)) / 1024)) + (rd x7_1 (wrap64 (x8_1 - 7)))) % 4294967296) + (Go.bits .xor .u32 (Go.bits .xor .u32 t123 t124) ((rd x7_1 (ji26)) / 8))) % 4294967296) + (rd x7_1 (wrap64 (x8_1 - 16)))) % 4294967296)) (wrap64 (x8_1 + 1))) else (none)) else (none)) else (none)) else (none)) else (none)) else (none)) = some r := H
          have A35 := Aside0.mk A350
          clear A350
          obtain ⟨ji36, hji36⟩ : ∃ j_ : Int, (wrap64 (x8_1 - 7)) = j_ := ⟨_, rfl⟩
          replace H : (if 0 ≤ (ji36) then (if (ji36) < (x7_1.length : Int) then (if 0 ≤ (wrap64 (x8_1 - 16)) then (if (wrap64 (x8_1 - 16)) < (x7_1.length : Int) then (if 0 ≤ x8_1 then (if x8_1 < (x7_1.length : Int) then (spec_l1Block.l0 k1 l0 l1 l2 (x7_1.set (x8_1 : Int).toNat (((((((Go.bits .xor .u32 (Go.bits .xor .u32 t125 t126) ((rd x7_1 (ji29)) / 1024)) + (rd x7_1 (ji36))) % 4294967296) + (Go.bits .xor .u32 (Go.bits .xor .u32 t123 t124) ((rd x7_1 (ji26)) / 8))) % 4294967296) + (rd x7_1 (wrap64 (x8_1 - 16)))) % 4294967296)) (wrap64 (x8_1 + 1))) else (none)) else (none)) else (none)) else (none)) else (none)) else (none)) = some r := by first | (rw [hji36] at H; exact H) | (simp only [hji36] at H ⊢; exact H)
          (try rw [hji36] at A32)
          (try rw [hji36] at A33)
          (try rw [hji36] at A34)
          (try rw [hji36] at A35)
          have hji36w : (IntKind.i64.wrap (x8_1 - 7)) = ji36 := (i64_w _).trans hji36
          by_cases c37 : 0 ≤ (ji36)
          ·
           rw [if_pos c37] at H
           have c37b0 : decide (0 ≤ (ji36)) = true := decide_eq_true c37
           clear c37
           by_cases c38 : (ji36) < (x7_1.length : Int)
           ·
            rw [if_pos c38] at H
            have c38b0 : decide ((ji36) < (x7_1.length : Int)) = true := decide_eq_true c38
            clear c38
            obtain ⟨ji39, hji39⟩ : ∃ j_ : Int, (wrap64 (x8_1 - 16)) = j_ := ⟨_, rfl⟩
            replace H : (if 0 ≤ (ji39) then (if (ji39) < (x7_1.length : Int) then (if 0 ≤ x8_1 then (if x8_1 < (x7_1.length : Int) then (spec_l1Block.l0 k1 l0 l1 l2 (x7_1.set (x8_1 : Int).toNat (((((((Go.bits .xor .u32 (Go.bits .xor .u32 t125 t126) ((rd x7_1 (ji29)) / 1024)) + (rd x7_1 (ji36))) % 4294967296) + (Go.bits .xor .u32 (Go.bits .xor .u32 t123 t124) ((rd x7_1 (ji26)) / 8))) % 4294967296) + (rd x7_1 (ji39))) % 4294967296)) (wrap64 (x8_1 + 1))) else (none)) else (none)) else (none)) else (none)) = some r := by first | (rw [hji39] at H; exact H) | (simp only [hji39] at H ⊢; exact H)
            (try rw [hji39] at A32)
            (try rw [hji39] at A33)
            (try rw [hji39] at A34)
            (try rw [hji39] at A35)
            have hji39w : (IntKind.i64.wrap (x8_1 - 16)) = ji39 := (i64_w _).trans hji39
            by_cases c40 : 0 ≤ (ji39)
            ·
             rw [if_pos c40] at H
             have c40b0 : decide (0 ≤ (ji39)) = true := decide_eq_true c40
             clear c40
             by_cases c41 : (ji39) < (x7_1.length : Int)
             ·
              rw [if_pos c41] at H
              have c41b0 : decide ((ji39) < (x7_1.length : Int)) = true := decide_eq_true c41
              clear c41
              by_cases c42 : 0 ≤ x8_1
              ·
               rw [if_pos c42] at H
               have c42b0 : decide (0 ≤ x8_1) = true := decide_eq_true c42
               clear c42
               by_cases c43 : x8_1 < (x7_1.length : Int)
               ·
                rw [if_pos c43] at H
                have c43b0 : decide (x8_1 < (x7_1.length : Int)) = true := decide_eq_true c43
                clear c43
                obtain ⟨y129, hy129⟩ : ∃ y_ : List Int, y_ = (x7_1.set (x8_1 : Int).toNat (((((((Go.bits .xor .u32 (Go.bits .xor .u32 t125 t126) ((rd x7_1 (ji29)) / 1024)) + (rd x7_1 (ji36))) % 4294967296) + (Go.bits .xor .u32 (Go.bits .xor .u32 t123 t124) ((rd x7_1 (ji26)) / 8))) % 4294967296) + (rd x7_1 (ji39))) % 4294967296)) := ⟨_, rfl⟩
                replace H : (spec_l1Block.l0 k1 l0 l1 l2 y129 (wrap64 (x8_1 + 1))) = some r := by first | (rw [hy129]; with_reducible exact H) | (have H2_ := (Option.bind_some _ _).symm.trans H; rw [hy129]; with_reducible exact H2_) | (have H2_ := (Option.bind_some _ _).symm.trans H; with_reducible exact H2_) | with_reducible exact H | (rw [hy129]; exact H) | exact H
                have Ny129 := Aside0.mk hy129
                clear hy129
                have H' := Aside0.mk H
                clear H
                obtain ⟨Ao45, co45, eo45⟩ := Kd.R_slice HO_7.out
                subst eo45
                have p121 : 0 ≤ ((ji26) : Int) := of_decide_eq_true zq7
                have q121 : (ji26) < (x7_1.length : Int) := of_decide_eq_true zq7
                obtain ⟨ad121, e121, hx121_0⟩ := Kd.at_int (Kd.R_reads' HO_7.out).2.2 (ji26) p121 q121
                cases e121
                replace p121 := eq_true p121
                replace q121 := eq_true q121
                have p122 : 0 ≤ ((ji29) : Int) := of_decide_eq_true zq7
                have q122 : (ji29) < (x7_1.length : Int) := of_decide_eq_true zq7
                obtain ⟨ad122, e122, hx122_0⟩ := Kd.at_int (Kd.R_reads' HO_7.out).2.2 (ji29) p122 q122
                obtain rfl : ad121 = ad122 := (by injection e122)
                replace p122 := eq_true p122
                replace q122 := eq_true q122
                try go_wp2_with (first | ((with_reducible refine gate_callee (f := 111) rfl ?_); refine goesL_ (some 75) rfl rfl Try.func111 (by kernel_rfl) rfl #[.int .u32 (rd x7_1 (ji26)), .int .i64 7] rfl zq53 ?_; (with_reducible refine (spec_Rotate.calls (rd x7_1 (ji26)) 7 t123 _ A32.out).mono ?_); rintro e w' ⟨rfl, ⟨nd, rfl⟩⟩; refine ⟨_, rfl, ?_⟩; repeat (rw [drewN_self wr]; generalize hq_ : World.drewN wr _ = wr; have n0_ : Aside0 (Kd.R (Kd.int .u32) 93 wr w.heap.size (fun _ => True) (.slice (some ad121) x7_1.length co45) x7_1) := ⟨zq134⟩; have n1_ : Aside0 (Below w.heap.size w wr) := ⟨zq135⟩; clear HO_7 HB hq_; have HO_7 := n0_; have HB := n1_; clear n0_ n1_)) | ((with_reducible refine gate_callee (f := 111) rfl ?_); refine goesL_ (some 77) rfl rfl Try.func111 (by kernel_rfl) rfl #[.int .u32 (rd x7_1 (ji26)), .int .i64 18] rfl zq53 ?_; (with_reducible refine (spec_Rotate.calls (rd x7_1 (ji26)) 18 t124 _ A33.out).mono ?_); rintro e w' ⟨rfl, ⟨nd, rfl⟩⟩; refine ⟨_, rfl, ?_⟩; repeat (rw [drewN_self wr]; generalize hq_ : World.drewN wr _ = wr; have n0_ : Aside0 (Kd.R (Kd.int .u32) 93 wr w.heap.size (fun _ => True) (.slice (some ad121) x7_1.length co45) x7_1) := ⟨zq134⟩; have n1_ : Aside0 (Below w.heap.size w wr) := ⟨zq135⟩; clear HO_7 HB hq_; have HO_7 := n0_; have HB := n1_; clear n0_ n1_)) | ((with_reducible refine gate_callee (f := 111) rfl ?_); refine goesL_ (some 83) rfl rfl Try.func111 (by kernel_rfl) rfl #[.int .u32 (rd x7_1 (ji29)), .int .i64 17] rfl zq55 ?_; (with_reducible refine (spec_Rotate.calls (rd x7_1 (ji29)) 17 t125 _ A34.out).mono ?_); rintro e w' ⟨rfl, ⟨nd, rfl⟩⟩; refine ⟨_, rfl, ?_⟩; repeat (rw [drewN_self wr]; generalize hq_ : World.drewN wr _ = wr; have n0_ : Aside0 (Kd.R (Kd.int .u32) 93 wr w.heap.size (fun _ => True) (.slice (some ad121) x7_1.length co45) x7_1) := ⟨zq134⟩; have n1_ : Aside0 (Below w.heap.size w wr) := ⟨zq135⟩; clear HO_7 HB hq_; have HO_7 := n0_; have HB := n1_; clear n0_ n1_)) | ((with_reducible refine gate_callee (f := 111) rfl ?_); refine goesL_ (some 85) rfl rfl Try.func111 (by kernel_rfl) rfl #[.int .u32 (rd x7_1 (ji29)), .int .i64 19] rfl zq55 ?_; (with_reducible refine (spec_Rotate.calls (rd x7_1 (ji29)) 19 t126 _ A35.out).mono ?_); rintro e w' ⟨rfl, ⟨nd, rfl⟩⟩; refine ⟨_, rfl, ?_⟩; repeat (rw [drewN_self wr]; generalize hq_ : World.drewN wr _ = wr; have n0_ : Aside0 (Kd.R (Kd.int .u32) 93 wr w.heap.size (fun _ => True) (.slice (some ad121) x7_1.length co45) x7_1) := ⟨zq134⟩; have n1_ : Aside0 (Below w.heap.size w wr) := ⟨zq135⟩; clear HO_7 HB hq_; have HO_7 := n0_; have HB := n1_; clear n0_ n1_)))
                have n0_ := Aside0.mk (Kd.R_drew HO_7.out)
                have n1_ := Aside0.mk (below_drew1 HB.out)
                clear HO_7
                clear HB
                have HO_7 := n0_
                have HB := n1_
                clear n0_ n1_
                have p127 : 0 ≤ ((ji36) : Int) := of_decide_eq_true zq7
                have q127 : (ji36) < (x7_1.length : Int) := of_decide_eq_true zq7
                obtain ⟨ad127, e127, hx127_0⟩ := Kd.at_int (Kd.R_reads' HO_7.out).2.2 (ji36) p127 q127
                obtain rfl : ad121 = ad127 := (by injection e127)
                replace p127 := eq_true p127
                replace q127 := eq_true q127
                have p128 : 0 ≤ ((ji39) : Int) := of_decide_eq_true zq7
                have q128 : (ji39) < (x7_1.length : Int) := of_decide_eq_true zq7
                obtain ⟨ad128, e128, hx128_0⟩ := Kd.at_int (Kd.R_reads' HO_7.out).2.2 (ji39) p128 q128
                obtain rfl : ad121 = ad128 := (by injection e128)
                replace p128 := eq_true p128
                replace q128 := eq_true q128
                have p44 : 0 ≤ (x8_1 : Int) := of_decide_eq_true zq7
                have q44 : (x8_1 : Int) < ((x7_1.length : Int) : Int) := of_decide_eq_true zq7
                obtain ⟨go44, co44, eo44, gb44, gl44, cl44, HG44⟩ := Kd.R_form HO_7.out (by omega)
                (first | cases eo44 | (injection eo44 with ea_ en_ ec_; (first | subst ea_ | (injection ea_ with ea_; subst ea_)); subst ec_; clear en_))
                have GB44 := Aside0.mk gb44
                have GG44 := Aside0.mk HG44
                clear gb44 gl44 HG44
                (first | simp only [add_plain] at hx121_0 | skip)
                (first | simp only [add_plain] at hx122_0 | skip)
                (first | simp only [add_plain] at hx127_0 | skip)
                (first | simp only [add_plain] at hx128_0 | skip)
                obtain ⟨hx44_0, hf44_0⟩ := Kd.R_celln 0 HO_7.out (x8_1 : Int) p44 q44
                replace p44 := eq_true p44
                replace q44 := eq_true q44
                have HP47 := Kd.R_putn HO_7.out (x8_1 : Int) (((((((Go.bits .xor .u32 (Go.bits .xor .u32 t125 t126) ((rd x7_1 (ji29)) / 1024)) + (rd x7_1 (ji36))) % 4294967296) + (Go.bits .xor .u32 (Go.bits .xor .u32 t123 t124) ((rd x7_1 (ji26)) / 8))) % 4294967296) + (rd x7_1 (ji39))) % 4294967296)
                rw [← Ny129.out] at HP47
                have HQ47 := Aside0.mk HP47
                clear HP47
                refine start_ (n := 19) (S := fun w' => w'.cell? ⟨go44, ((ji36)).toNat, none⟩ = some (.int .u32 (rd x7_1 (ji36))) ∧ w'.cell? ⟨go44, ((ji39)).toNat, none⟩ = some (.int .u32 (rd x7_1 (ji39)))) (ds := [18]) (bA 19 0) (by kernel_rfl) rfl rfl ⟨hx127_0, hx128_0⟩ (fun hHeld => ?_); refine with_tabW spec_l1Block.tab11 spec_l1Block.bits11 (fun HT_ HW_ => ?_)
                generalize wr.drew = w46 at HO_7 HB GG44 HQ47 hf44_0 hx121_0 hx122_0 hx127_0 hx128_0 hx44_0 hHeld ⊢
                refine pu_ (i := 0) (N := some 90) (bA 19 1) rfl rfl HT_ (by kernel_rfl) (Or.inl ⟨by rfl, zq162⟩) zq163 ?_
                refine pu_ (i := 1) (N := some 91) (bA 19 3) rfl rfl HT_ (by kernel_rfl) (Or.inl ⟨by rfl, zq162⟩) zq163 ?_
                refine pu_ (i := 2) (N := some 92) (bA 19 7) rfl rfl HT_ (by kernel_rfl) (Or.inl ⟨by rfl, zq162⟩) zq163 ?_
                refine pu_ (i := 3) (N := some 93) (bA 19 15) rfl rfl HT_ (by kernel_rfl) (Or.inl ⟨by rfl, zq162⟩) zq163 ?_
                refine pu_ (i := 4) (N := some 94) (bA 19 31) rfl rfl HT_ (by kernel_rfl) (Or.inl ⟨by rfl, zq162⟩) zq163 ?_
                refine pu_ (i := 5) (N := some 95) (bA 19 63) rfl rfl HT_ (by kernel_rfl) (Or.inl ⟨by rfl, zq162⟩) zq163 ?_
                refine pu_ (i := 6) (N := some 96) (bA 19 127) rfl rfl HT_ (by kernel_rfl) (Or.inl ⟨by rfl, zq162⟩) zq163 ?_
                refine pu_ (i := 9) (N := some 99) (bA 19 639) rfl rfl HT_ (by kernel_rfl) (Or.inl ⟨by rfl, zq162⟩) zq163 ?_
                refine pu_ (i := 11) (N := some 101) (bA 19 2687) rfl rfl HT_ (by kernel_rfl) (Or.inl ⟨by rfl, zq162⟩) zq163 ?_
                refine pu_ (i := 12) (N := some 102) (bA 19 6783) rfl rfl HT_ (by kernel_rfl) (Or.inl ⟨by rfl, zq162⟩) zq163 ?_
                refine pu_ (i := 13) (N := some 103) (bA 19 14975) rfl rfl HT_ (by kernel_rfl) (Or.inl ⟨by rfl, zq162⟩) zq163 ?_
                refine pu_ (i := 14) (N := some 104) (bA 19 31359) rfl rfl HT_ (by kernel_rfl) (Or.inl ⟨by rfl, zq162⟩) zq163 ?_
                refine tk_ (i := 7) (N := some 97) (bA 19 31487) rfl rfl HT_ HW_ (by kernel_rfl) (Or.inl ⟨by rfl, zq170⟩) hHeld zq163 ?_
                refine pu_ (i := 8) (N := some 98) (bA 19 31743) rfl rfl HT_ (by kernel_rfl) (Or.inl ⟨by rfl, zq162⟩) zq163 ?_
                refine pu_ (i := 10) (N := some 100) (bA 19 32767) rfl rfl HT_ (by kernel_rfl) (Or.inl ⟨by rfl, zq162⟩) zq163 ?_
                refine tk_ (i := 15) (N := some 105) (bA 19 65535) rfl rfl HT_ HW_ (by kernel_rfl) (Or.inl ⟨by rfl, zq170⟩) hHeld zq163 ?_
                refine pu_ (i := 16) (N := some 106) (bA 19 131071) rfl rfl HT_ (by kernel_rfl) (Or.inl ⟨by rfl, zq162⟩) zq163 ?_
                refine pu_ (i := 17) (N := some 107) (bA 19 262143) rfl rfl HT_ (by kernel_rfl) (Or.inl ⟨by rfl, zq162⟩) zq163 ?_
                refine last_ (i := 18) (N := none) (bA 19 524287) rfl rfl (one_of HT_.out (by kernel_rfl)) (by decide) (fun K hK => ?_)
                refine skip_ (w1 := ?_) (by rfl) rfl ?_ ?_
                rotate_left
                ·
                 go_simp
                 rfl
                refine hK.out _ _ ?_
                clear hK K
                refine done_ (done_of HT_.out (by kernel_rfl)) ?_
                try go_wp2
                go_roundg k1
                case measure => have := HK1.out; omega
                case rel => exact ⟨(y129), (wrap64 (x8_1 + 1)), zq6, H', ⟨zq9⟩, ⟨by (with_reducible repeat (first | apply Kd.R_alloc | apply Kd.R_drewN | apply Kd.R_drew)); first | exact HQ47.out | (have h_ := HQ47.out; simp only [Int.emod_add_emod, Int.add_emod_emod] at h_ ⊢; exact h_)⟩, ⟨by repeat (first | (with_reducible first | exact HB.out | apply below_alloc | apply pw_below_drewN | apply below_drew1 | refine below_set ?_ GB44.out) | exact HB.out)⟩⟩
               ·
                rw [if_neg c43] at H
                exact absurd H (by simp)
              ·
               rw [if_neg c42] at H
               exact absurd H (by simp)
             ·
              rw [if_neg c41] at H
              exact absurd H (by simp)
            ·
             rw [if_neg c40] at H
             exact absurd H (by simp)
           ·
            rw [if_neg c38] at H
            exact absurd H (by simp)
          ·
           rw [if_neg c37] at H
           exact absurd H (by simp)
         ·
          rw [if_neg c31] at H
          exact absurd H (by simp)
        ·
         rw [if_neg c30] at H
         exact absurd H (by simp)
       ·
        rw [if_neg c28] at H
        exact absurd H (by simp)
      ·
       rw [if_neg c27] at H
       exact absurd H (by simp)
    ·
     rw [if_neg c7] at H
     have c7b0 : decide (x8_1 < 64) = false := decide_eq_false c7
     clear c7
     obtain ⟨y130, hy130⟩ : ∃ y_ : List Int, y_ = (([] : List Int)) := ⟨_, rfl⟩
     replace H : (if y130.length + l0.length < 35184372088832 then (spec_l1Block.l1 k1 l0 l1 x7_1 (y130 ++ l0) 0) else (none)) = some r := by first | (rw [hy130]; with_reducible exact H) | (have H2_ := (Option.bind_some _ _).symm.trans H; rw [hy130]; with_reducible exact H2_) | (have H2_ := (Option.bind_some _ _).symm.trans H; with_reducible exact H2_) | with_reducible exact H | (rw [hy130]; exact H) | exact H
     have Ny130 := Aside0.mk hy130
     clear hy130
     by_cases c48 : y130.length + l0.length < 35184372088832
     ·
      rw [if_pos c48] at H
      have LMc48 := Aside0.mk c48
      clear c48
      obtain ⟨y133, hy133⟩ : ∃ y_ : List Int, y_ = (y130 ++ l0) := ⟨_, rfl⟩
      replace H : (spec_l1Block.l1 k1 l0 l1 x7_1 y133 0) = some r := by first | (rw [hy133]; with_reducible exact H) | (have H2_ := (Option.bind_some _ _).symm.trans H; rw [hy133]; with_reducible exact H2_) | (have H2_ := (Option.bind_some _ _).symm.trans H; with_reducible exact H2_) | with_reducible exact H | (rw [hy133]; exact H) | exact H
      have Ny133 := Aside0.mk hy133
      clear hy133
      have H' := Aside0.mk H
      clear H
      go_wp2_with (first | ((with_reducible refine gate_dst (N := 108) rfl ?_); refine Kd.R_lit (Kd.int .u32) _ 93 ?hg (N := 108) ?hd (xs := ([] : List Int)) (inner := []) (ok := fun _ => True) (okp := fun _ => True) ?hr ?hp (fun _ hk => hk) trivial (Below.refl _ _) (Nat.le_refl _) (by simp) ?_; (case hd => rfl); (case hg => rfl); (case hr => exact zq17); (case hp => exact zq56); intro v131 w49 ho50 hb hg_ hnew_; clear hg_ hnew_; (first | rw [← Ny130.out] at ho50 | (simp only [Int.reduceToNat] at ho50; rw [← Ny130.out] at ho50)); have n0_ := Aside0.mk (Kd.R_elder' zq54 (Kd.R_base ho50) hb); have n1_ := Aside0.mk (Kd.R_lower (Kd.R_new' ho50 (Kd.R_lt zq54)) (below_size zq3)); have n2_ := Aside0.mk (below_step zq3 hb); clear HO_7; clear HB; have HO_7 := n0_; have HO132 := n1_; have HB := n2_; clear n0_ n1_ n2_; clear hb ho50) | ((with_reducible refine gate_builtin (b := .append) (xs := #[.tmp 108, .tmp 109]) rfl ?_); at_builtin; refine Kd.R_append_rows (Kd.int .u32) (w0 := w) w.heap.size rfl (.tmp 108) (.tmp 109) 90 93 (.int .u32 0) 4 rfl Try.underlying90 info93 rfl (by decide) (by omega) v131 y130 l0 _ _ _ (fun k_ => some k_ ≠ (v114 : Value).ownBlock) (fun _ => False) rfl rfl ?aO ?aR (fun _ _ h => h) (fun _ h => h.elim) ?aF ?aB ?aS ?aL ?_; (case aR => repeat (first | exact (Kd.C_below HR0.out HB.out) | (with_reducible refine Kd.C_alloc ?_ _) | (with_reducible refine Kd.C_drewN ?_ _) | (with_reducible refine Kd.C_drew ?_))); (case aB => exact zq3); (case aF => exact (fun k_ hk => Kd.fresh' (Kd.R_lt zq54) k_ hk)); (case aO => exact (by (with_reducible repeat (first | apply Kd.R_alloc | apply Kd.R_drewN | apply Kd.R_drew)); first | exact Kd.R_mono HO132.out (fun _ hk => hk.2) | (have h_ := Kd.R_mono HO132.out (fun _ hk => hk.2); simp only [Int.emod_add_emod, Int.add_emod_emod] at h_ ⊢; exact h_))); (case aS => exact zq136); (case aL => have := LMc48.out; omega); intro v134 w51 ho hb hg hat; rw [← Ny133.out] at ho; have n0_ := Aside0.mk (Kd.R_after (ok := (fun _ => True)) zq54 hg hat); have n1_ := Aside0.mk (hb); have n2_ := Aside0.mk (ho); clear HO_7; clear HB; clear HO132; have HO_7 := n0_; have HB := n1_; have HO135 := n2_; clear n0_ n1_ n2_; clear ho hb hg hat))
      go_loopg [13, 14] k1 (fun kq v13 v14 w' => ∃ (x13_2 : List Int) (x14_2 : Int), v14 = .int .i64 x14_2 ∧ Aside0 (spec_l1Block.l1 kq l0 l1 x7_1 x13_2 x14_2 = some r) ∧ Aside0 (kq ≤ k1) ∧ Aside0 (Kd.R (Kd.int .u32) 93 w' w.heap.size (fun k_ => some k_ ≠ (v13 : Value).ownBlock) v114 x7_1) ∧ Aside0 (Kd.R (Kd.int .u32) 93 w' w.heap.size (fun k_ => some k_ ≠ (v114 : Value).ownBlock) v13 x13_2) ∧ Aside0 (Below w.heap.size w w'))
      case atStart => exact ⟨(y133), (0), zq6, H', ⟨Nat.le_refl _⟩, ⟨zq57⟩, ⟨by (with_reducible repeat (first | apply Kd.R_alloc | apply Kd.R_drewN | apply Kd.R_drew)); first | exact HO135.out | (have h_ := HO135.out; simp only [Int.emod_add_emod, Int.add_emod_emod] at h_ ⊢; exact h_)⟩, ⟨zq3⟩⟩
      case round =>
       clear H'
       try clear c1
       try clear p1
       try clear q1
       try clear hx1
       try clear c2
       try clear p2
       try clear c3
       try clear c4
       try clear p4
       try clear q4
       try clear hx4
       try clear hf4
       try clear p6
       try clear c7
       try clear c7b0
       try clear c8
       try clear c8b0
       try clear c10
       try clear c11
       try clear p12
       try clear q12
       try clear hx12
       try clear c13
       try clear c14
       try clear c16
       try clear c17
       try clear c19
       try clear c20
       try clear c21
       try clear c22
       try clear c27
       try clear c27b0
       try clear c28
       try clear c28b0
       try clear c30
       try clear c30b0
       try clear c31
       try clear c31b0
       try clear c37
       try clear c37b0
       try clear c38
       try clear c38b0
       try clear c40
       try clear c40b0
       try clear c41
       try clear c41b0
       try clear c42
       try clear c42b0
       try clear c43
       try clear c43b0
       try clear p44
       try clear q44
       try clear hx44
       try clear hf44
       try clear c48
       try clear hx121_0
       try clear hx122_0
       try clear hx127_0
       try clear hx128_0
       try clear hx44_0
       try clear p121
       try clear p122
       try clear p127
       try clear p128
       try clear p44
       try clear q121
       try clear q122
       try clear q127
       try clear q128
       try clear q44
       obtain ⟨x13_2, x14_2, rfl, HA, HK2, HO_7, HO_13, HB⟩ := hrel
       cases gk with
       | zero => exact absurd HA.out (by simp [spec_l1Block.l1])
       | succ k2 =>
        have H := HA.out
        clear HA
        simp only [spec_l1Block.l1] at H
        by_cases c52 : x14_2 < 64
        ·
         rw [if_pos c52] at H
         have c52b0 : decide (x14_2 < 64) = true := decide_eq_true c52
         clear c52
         by_cases c53 : 0 < (x13_2.length : Int)
         ·
          rw [if_pos c53] at H
          have c53b0 : decide (0 < (x13_2.length : Int)) = true := decide_eq_true c53
          have c53b1 : decide (0 < x13_2.length) = true := decide_eq_true (by omega)
          clear c53
          by_cases c54 : 4 < (x13_2.length : Int)
          ·
           rw [if_pos c54] at H
           have c54b0 : decide (4 < (x13_2.length : Int)) = true := decide_eq_true c54
           have c54b1 : decide (4 < x13_2.length) = true := decide_eq_true (by omega)
           clear c54
           by_cases c55 : 7 < (x13_2.length : Int)
           ·
            rw [if_pos c55] at H
            have c55b0 : decide (7 < (x13_2.length : Int)) = true := decide_eq_true c55
            have c55b1 : decide (7 < x13_2.length) = true := decide_eq_true (by omega)
            clear c55
            replace H := Option.bind_eq_some_iff.mp H
            obtain ⟨t139, A560, H⟩ := H
            replace H : ((spec_Rotate.f (rd x13_2 4) 11).bind fun t140 => ((spec_Rotate.f (rd x13_2 4) 25).bind fun t141 => (if 5 < (x13_2.length : Int) then (if 6 < (x13_2.length : Int) then (if 0 ≤ x14_2 then (if x14_2 < (l1.length : Int) then (if x14_2 < (x7_1.length : Int) then ((spec_Rotate.f (rd x13_2 0) 2).bind fun t146 => ((spec_Rotate.f (rd x13_2 0) 13).bind fun t147 => ((spec_Rotate.f (rd x13_2 0) 22).bind fun t148 => (if 1 < (x13_2.length : Int) then (if 2 < (x13_2.length : Int) then (if 3 < (x13_2.length : Int) then (spec_l1Block.l1 k2 l0 l1 x7_1 (([((((((((((rd x13_2 7) + (Go.bits .xor .u32 (Go.bits .xor .u32 t139 t140) t141)) % 4294967296) + (Go.bits .xor .u32 (Go.bits .and .u32 (rd x13_2 4) (rd x13_2 5)) (Go.bits .and .u32 (Go.bits .xor .u32 4294967295 (rd x13_2 4)) (rd x13_2 6)))) % 4294967296) + (rd l1 x14_2)) % 4294967296) + (rd x7_1 x14_2)) % 4294967296) + (((Go.bits .xor .u32 (Go.bits .xor .u32 t146 t147) t148) + (Go.bits .xor .u32 (Go.bits .xor .u32 (Go.bits .and .u32 (rd x13_2 0) (rd x13_2 1)) (Go.bits .and .u32 (rd x13_2 0) (rd x13_2 2))) (Go.bits .and .u32 (rd x13_2 1) (rd x13_2 2)))) % 4294967296)) % 4294967296, rd x13_2 0, rd x13_2 1, rd x13_2 2, ((rd x13_2 3) + (((((((((rd x13_2 7) + (Go.bits .xor .u32 (Go.bits .xor .u32 t139 t140) t141)) % 4294967296) + (Go.bits .xor .u32 (Go.bits .and .u32 (rd x13_2 4) (rd x13_2 5)) (Go.bits .and .u32 (Go.bits .xor .u32 4294967295 (rd x13_2 4)) (rd x13_2 6)))) % 4294967296) + (rd l1 x14_2)) % 4294967296) + (rd x7_1 x14_2)) % 4294967296)) % 4294967296, rd x13_2 4, rd x13_2 5, rd x13_2 6] : List Int)) (wrap64 (x14_2 + 1))) else (none)) else (none)) else (none))))) else (none)) else (none)) else (none)) else (none)) else (none)))) = some r := H
            have A56 := Aside0.mk A560
            clear A560
            replace H := Option.bind_eq_some_iff.mp H
            obtain ⟨t140, A570, H⟩ := H
            replace H : ((spec_Rotate.f (rd x13_2 4) 25).bind fun t141 => (if 5 < (x13_2.length : Int) then (if 6 < (x13_2.length : Int) then (if 0 ≤ x14_2 then (if x14_2 < (l1.length : Int) then (if x14_2 < (x7_1.length : Int) then ((spec_Rotate.f (rd x13_2 0) 2).bind fun t146 => ((spec_Rotate.f (rd x13_2 0) 13).bind fun t147 => ((spec_Rotate.f (rd x13_2 0) 22).bind fun t148 => (if 1 < (x13_2.length : Int) then (if 2 < (x13_2.length : Int) then (if 3 < (x13_2.length : Int) then (spec_l1Block.l1 k2 l0 l1 x7_1 (([((((((((((rd x13_2 7) + (Go.bits .xor .u32 (Go.bits .xor .u32 t139 t140) t141)) % 4294967296) + (Go.bits .xor .u32 (Go.bits .and .u32 (rd x13_2 4) (rd x13_2 5)) (Go.bits .and .u32 (Go.bits .xor .u32 4294967295 (rd x13_2 4)) (rd x13_2 6)))) % 4294967296) + (rd l1 x14_2)) % 4294967296) + (rd x7_1 x14_2)) % 4294967296) + (((Go.bits .xor .u32 (Go.bits .xor .u32 t146 t147) t148) + (Go.bits .xor .u32 (Go.bits .xor .u32 (Go.bits .and .u32 (rd x13_2 0) (rd x13_2 1)) (Go.bits .and .u32 (rd x13_2 0) (rd x13_2 2))) (Go.bits .and .u32 (rd x13_2 1) (rd x13_2 2)))) % 4294967296)) % 4294967296, rd x13_2 0, rd x13_2 1, rd x13_2 2, ((rd x13_2 3) + (((((((((rd x13_2 7) + (Go.bits .xor .u32 (Go.bits .xor .u32 t139 t140) t141)) % 4294967296) + (Go.bits .xor .u32 (Go.bits .and .u32 (rd x13_2 4) (rd x13_2 5)) (Go.bits .and .u32 (Go.bits .xor .u32 4294967295 (rd x13_2 4)) (rd x13_2 6)))) % 4294967296) + (rd l1 x14_2)) % 4294967296) + (rd x7_1 x14_2)) % 4294967296)) % 4294967296, rd x13_2 4, rd x13_2 5, rd x13_2 6] : List Int)) (wrap64 (x14_2 + 1))) else (none)) else (none)) else (none))))) else (none)) else (none)) else (none)) else (none)) else (none))) = some r := H
            have A57 := Aside0.mk A570
            clear A570
            replace H := Option.bind_eq_some_iff.mp H
            obtain ⟨t141, A580, H⟩ := H
            replace H : (if 5 < (x13_2.length : Int) then (if 6 < (x13_2.length : Int) then (if 0 ≤ x14_2 then (if x14_2 < (l1.length : Int) then (if x14_2 < (x7_1.length : Int) then ((spec_Rotate.f (rd x13_2 0) 2).bind fun t146 => ((spec_Rotate.f (rd x13_2 0) 13).bind fun t147 => ((spec_Rotate.f (rd x13_2 0) 22).bind fun t148 => (if 1 < (x13_2.length : Int) then (if 2 < (x13_2.length : Int) then (if 3 < (x13_2.length : Int) then (spec_l1Block.l1 k2 l0 l1 x7_1 (([((((((((((rd x13_2 7) + (Go.bits .xor .u32 (Go.bits .xor .u32 t139 t140) t141)) % 4294967296) + (Go.bits .xor .u32 (Go.bits .and .u32 (rd x13_2 4) (rd x13_2 5)) (Go.bits .and .u32 (Go.bits .xor .u32 4294967295 (rd x13_2 4)) (rd x13_2 6)))) % 4294967296) + (rd l1 x14_2)) % 4294967296) + (rd x7_1 x14_2)) % 4294967296) + (((Go.bits .xor .u32 (Go.bits .xor .u32 t146 t147) t148) + (Go.bits .xor .u32 (Go.bits .xor .u32 (Go.bits .and .u32 (rd x13_2 0) (rd x13_2 1)) (Go.bits .and .u32 (rd x13_2 0) (rd x13_2 2))) (Go.bits .and .u32 (rd x13_2 1) (rd x13_2 2)))) % 4294967296)) % 4294967296, rd x13_2 0, rd x13_2 1, rd x13_2 2, ((rd x13_2 3) + (((((((((rd x13_2 7) + (Go.bits .xor .u32 (Go.bits .xor .u32 t139 t140) t141)) % 4294967296) + (Go.bits .xor .u32 (Go.bits .and .u32 (rd x13_2 4) (rd x13_2 5)) (Go.bits .and .u32 (Go.bits .xor .u32 4294967295 (rd x13_2 4)) (rd x13_2 6)))) % 4294967296) + (rd l1 x14_2)) % 4294967296) + (rd x7_1 x14_2)) % 4294967296)) % 4294967296, rd x13_2 4, rd x13_2 5, rd x13_2 6] : List Int)) (wrap64 (x14_2 + 1))) else (none)) else (none)) else (none))))) else (none)) else (none)) else (none)) else (none)) else (none)) = some r := H
            have A58 := Aside0.mk A580
            clear A580
            by_cases c59 : 5 < (x13_2.length : Int)
            ·
             rw [if_pos c59] at H
             have c59b0 : decide (5 < (x13_2.length : Int)) = true := decide_eq_true c59
             have c59b1 : decide (5 < x13_2.length) = true := decide_eq_true (by omega)
             clear c59
             by_cases c60 : 6 < (x13_2.length : Int)
             ·
              rw [if_pos c60] at H
              have c60b0 : decide (6 < (x13_2.length : Int)) = true := decide_eq_true c60
              have c60b1 : decide (6 < x13_2.length) = true := decide_eq_true (by omega)
              clear c60
              by_cases c61 : 0 ≤ x14_2
              ·
               rw [if_pos c61] at H
               have c61b0 : decide (0 ≤ x14_2) = true := decide_eq_true c61
               clear c61
               by_cases c62 : x14_2 < (l1.length : Int)
               ·
                rw [if_pos c62] at H
                have c62b0 : decide (x14_2 < (l1.length : Int)) = true := decide_eq_true c62
                clear c62
                by_cases c63 : x14_2 < (x7_1.length : Int)
                ·
                 rw [if_pos c63] at H
                 have c63b0 : decide (x14_2 < (x7_1.length : Int)) = true := decide_eq_true c63
                 clear c63
                 replace H := Option.bind_eq_some_iff.mp H
                 obtain ⟨t146, A640, H⟩ := H
                 replace H : ((spec_Rotate.f (rd x13_2 0) 13).bind fun t147 => ((spec_Rotate.f (rd x13_2 0) 22).bind fun t148 => (if 1 < (x13_2.length : Int) then (if 2 < (x13_2.length : Int) then (if 3 < (x13_2.length : Int) then (spec_l1Block.l1 k2 l0 l1 x7_1 (([((((((((((rd x13_2 7) + (Go.bits .xor .u32 (Go.bits .xor .u32 t139 t140) t141)) % 4294967296) + (Go.bits .xor .u32 (Go.bits .and .u32 (rd x13_2 4) (rd x13_2 5)) (Go.bits .and .u32 (Go.bits .xor .u32 4294967295 (rd x13_2 4)) (rd x13_2 6)))) % 4294967296) + (rd l1 x14_2)) % 4294967296) + (rd x7_1 x14_2)) % 4294967296) + (((Go.bits .xor .u32 (Go.bits .xor .u32 t146 t147) t148) + (Go.bits .xor .u32 (Go.bits .xor .u32 (Go.bits .and .u32 (rd x13_2 0) (rd x13_2 1)) (Go.bits .and .u32 (rd x13_2 0) (rd x13_2 2))) (Go.bits .and .u32 (rd x13_2 1) (rd x13_2 2)))) % 4294967296)) % 4294967296, rd x13_2 0, rd x13_2 1, rd x13_2 2, ((rd x13_2 3) + (((((((((rd x13_2 7) + (Go.bits .xor .u32 (Go.bits .xor .u32 t139 t140) t141)) % 4294967296) + (Go.bits .xor .u32 (Go.bits .and .u32 (rd x13_2 4) (rd x13_2 5)) (Go.bits .and .u32 (Go.bits .xor .u32 4294967295 (rd x13_2 4)) (rd x13_2 6)))) % 4294967296) + (rd l1 x14_2)) % 4294967296) + (rd x7_1 x14_2)) % 4294967296)) % 4294967296, rd x13_2 4, rd x13_2 5, rd x13_2 6] : List Int)) (wrap64 (x14_2 + 1))) else (none)) else (none)) else (none)))) = some r := H
                 have A64 := Aside0.mk A640
                 clear A640
                 replace H := Option.bind_eq_some_iff.mp H
                 obtain ⟨t147, A650, H⟩ := H
                 replace H : ((spec_Rotate.f (rd x13_2 0) 22).bind fun t148 => (if 1 < (x13_2.length : Int) then (if 2 < (x13_2.length : Int) then (if 3 < (x13_2.length : Int) then (spec_l1Block.l1 k2 l0 l1 x7_1 (([((((((((((rd x13_2 7) + (Go.bits .xor .u32 (Go.bits .xor .u32 t139 t140) t141)) % 4294967296) + (Go.bits .xor .u32 (Go.bits .and .u32 (rd x13_2 4) (rd x13_2 5)) (Go.bits .and .u32 (Go.bits .xor .u32 4294967295 (rd x13_2 4)) (rd x13_2 6)))) % 4294967296) + (rd l1 x14_2)) % 4294967296) + (rd x7_1 x14_2)) % 4294967296) + (((Go.bits .xor .u32 (Go.bits .xor .u32 t146 t147) t148) + (Go.bits .xor .u32 (Go.bits .xor .u32 (Go.bits .and .u32 (rd x13_2 0) (rd x13_2 1)) (Go.bits .and .u32 (rd x13_2 0) (rd x13_2 2))) (Go.bits .and .u32 (rd x13_2 1) (rd x13_2 2)))) % 4294967296)) % 4294967296, rd x13_2 0, rd x13_2 1, rd x13_2 2, ((rd x13_2 3) + (((((((((rd x13_2 7) + (Go.bits .xor .u32 (Go.bits .xor .u32 t139 t140) t141)) % 4294967296) + (Go.bits .xor .u32 (Go.bits .and .u32 (rd x13_2 4) (rd x13_2 5)) (Go.bits .and .u32 (Go.bits .xor .u32 4294967295 (rd x13_2 4)) (rd x13_2 6)))) % 4294967296) + (rd l1 x14_2)) % 4294967296) + (rd x7_1 x14_2)) % 4294967296)) % 4294967296, rd x13_2 4, rd x13_2 5, rd x13_2 6] : List Int)) (wrap64 (x14_2 + 1))) else (none)) else (none)) else (none))) = some r := H
                 have A65 := Aside0.mk A650
                 clear A650
                 replace H := Option.bind_eq_some_iff.mp H
                 obtain ⟨t148, A660, H⟩ := H
                 replace H : (if 1 < (x13_2.length : Int) then (if 2 < (x13_2.length : Int) then (if 3 < (x13_2.length : Int) then (spec_l1Block.l1 k2 l0 l1 x7_1 (([((((((((((rd x13_2 7) + (Go.bits .xor .u32 (Go.bits .xor .u32 t139 t140) t141)) % 4294967296) + (Go.bits .xor .u32 (Go.bits .and .u32 (rd x13_2 4) (rd x13_2 5)) (Go.bits .and .u32 (Go.bits .xor .u32 4294967295 (rd x13_2 4)) (rd x13_2 6)))) % 4294967296) + (rd l1 x14_2)) % 4294967296) + (rd x7_1 x14_2)) % 4294967296) + (((Go.bits .xor .u32 (Go.bits .xor .u32 t146 t147) t148) + (Go.bits .xor .u32 (Go.bits .xor .u32 (Go.bits .and .u32 (rd x13_2 0) (rd x13_2 1)) (Go.bits .and .u32 (rd x13_2 0) (rd x13_2 2))) (Go.bits .and .u32 (rd x13_2 1) (rd x13_2 2)))) % 4294967296)) % 4294967296, rd x13_2 0, rd x13_2 1, rd x13_2 2, ((rd x13_2 3) + (((((((((rd x13_2 7) + (Go.bits .xor .u32 (Go.bits .xor .u32 t139 t140) t141)) % 4294967296) + (Go.bits .xor .u32 (Go.bits .and .u32 (rd x13_2 4) (rd x13_2 5)) (Go.bits .and .u32 (Go.bits .xor .u32 4294967295 (rd x13_2 4)) (rd x13_2 6)))) % 4294967296) + (rd l1 x14_2)) % 4294967296) + (rd x7_1 x14_2)) % 4294967296)) % 4294967296, rd x13_2 4, rd x13_2 5, rd x13_2 6] : List Int)) (wrap64 (x14_2 + 1))) else (none)) else (none)) else (none)) = some r := H
                 have A66 := Aside0.mk A660
                 clear A660
                 by_cases c67 : 1 < (x13_2.length : Int)
                 ·
                  rw [if_pos c67] at H
                  have c67b0 : decide (1 < (x13_2.length : Int)) = true := decide_eq_true c67
                  have c67b1 : decide (1 < x13_2.length) = true := decide_eq_true (by omega)
                  clear c67
                  by_cases c68 : 2 < (x13_2.length : Int)
                  ·
                   rw [if_pos c68] at H
                   have c68b0 : decide (2 < (x13_2.length : Int)) = true := decide_eq_true c68
                   have c68b1 : decide (2 < x13_2.length) = true := decide_eq_true (by omega)
                   clear c68
                   by_cases c69 : 3 < (x13_2.length : Int)
                   ·
                    rw [if_pos c69] at H
                    have c69b0 : decide (3 < (x13_2.length : Int)) = true := decide_eq_true c69
                    have c69b1 : decide (3 < x13_2.length) = true := decide_eq_true (by omega)
                    clear c69
                    obtain ⟨y158, hy158⟩ : ∃ y_ : List Int, y_ = (([((((((((((rd x13_2 7) + (Go.bits .xor .u32 (Go.bits .xor .u32 t139 t140) t141)) % 4294967296) + (Go.bits .xor .u32 (Go.bits .and .u32 (rd x13_2 4) (rd x13_2 5)) (Go.bits .and .u32 (Go.bits .xor .u32 4294967295 (rd x13_2 4)) (rd x13_2 6)))) % 4294967296) + (rd l1 x14_2)) % 4294967296) + (rd x7_1 x14_2)) % 4294967296) + (((Go.bits .xor .u32 (Go.bits .xor .u32 t146 t147) t148) + (Go.bits .xor .u32 (Go.bits .xor .u32 (Go.bits .and .u32 (rd x13_2 0) (rd x13_2 1)) (Go.bits .and .u32 (rd x13_2 0) (rd x13_2 2))) (Go.bits .and .u32 (rd x13_2 1) (rd x13_2 2)))) % 4294967296)) % 4294967296, rd x13_2 0, rd x13_2 1, rd x13_2 2, ((rd x13_2 3) + (((((((((rd x13_2 7) + (Go.bits .xor .u32 (Go.bits .xor .u32 t139 t140) t141)) % 4294967296) + (Go.bits .xor .u32 (Go.bits .and .u32 (rd x13_2 4) (rd x13_2 5)) (Go.bits .and .u32 (Go.bits .xor .u32 4294967295 (rd x13_2 4)) (rd x13_2 6)))) % 4294967296) + (rd l1 x14_2)) % 4294967296) + (rd x7_1 x14_2)) % 4294967296)) % 4294967296, rd x13_2 4, rd x13_2 5, rd x13_2 6] : List Int)) := ⟨_, rfl⟩
                    replace H : (spec_l1Block.l1 k2 l0 l1 x7_1 y158 (wrap64 (x14_2 + 1))) = some r := by first | (rw [hy158]; with_reducible exact H) | (have H2_ := (Option.bind_some _ _).symm.trans H; rw [hy158]; with_reducible exact H2_) | (have H2_ := (Option.bind_some _ _).symm.trans H; with_reducible exact H2_) | with_reducible exact H | (rw [hy158]; exact H) | exact H
                    have Ny158 := Aside0.mk hy158
                    clear hy158
                    have H' := Aside0.mk H
                    clear H
                    obtain ⟨Ao70, co70, eo70⟩ := Kd.R_slice HO_13.out
                    subst eo70
                    have p136 : 0 ≤ (0 : Int) := (by omega)
                    have q136 : 0 < (x13_2.length : Int) := of_decide_eq_true zq7
                    obtain ⟨ad136, e136, hx136_0⟩ := Kd.at_int (Kd.R_reads' HO_13.out).2.2 0 p136 q136
                    cases e136
                    have qi136 : (0 < x13_2.length) = True := eq_true (by omega)
                    (try rw [show ((0 : Int)).toNat = 0 from rfl] at hx136_0)
                    (try rw [Addr.add_zero'] at hx136_0)
                    replace p136 := eq_true p136
                    replace q136 := eq_true q136
                    have p137 : 0 ≤ (4 : Int) := (by omega)
                    have q137 : 4 < (x13_2.length : Int) := of_decide_eq_true zq7
                    obtain ⟨ad137, e137, hx137_0⟩ := Kd.at_int (Kd.R_reads' HO_13.out).2.2 4 p137 q137
                    obtain rfl : ad136 = ad137 := (by injection e137)
                    (try simp only [show (4 : Int).toNat = 4 from rfl, Nat.reduceMul, Nat.reduceEqDiff, Go.Addr.add, ↓reduceIte] at hx137_0)
                    have qi137 : (4 < x13_2.length) = True := eq_true (by omega)
                    (try rw [show ((4 : Int)).toNat = 4 from rfl] at hx137_0)
                    replace p137 := eq_true p137
                    replace q137 := eq_true q137
                    try go_wp2
                    have n0_ := Aside0.mk (Kd.R_drew HO_7.out)
                    have n1_ := Aside0.mk (Kd.R_drew HO_13.out)
                    have n2_ := Aside0.mk (below_drew1 HB.out)
                    clear HO_7
                    clear HO_13
                    clear HB
                    have HO_7 := n0_
                    have HO_13 := n1_
                    have HB := n2_
                    clear n0_ n1_ n2_
                    have p138 : 0 ≤ (7 : Int) := (by omega)
                    have q138 : 7 < (x13_2.length : Int) := of_decide_eq_true zq7
                    obtain ⟨ad138, e138, hx138_0⟩ := Kd.at_int (Kd.R_reads' HO_13.out).2.2 7 p138 q138
                    obtain rfl : ad136 = ad138 := (by injection e138)
                    (try simp only [show (7 : Int).toNat = 7 from rfl, Nat.reduceMul, Nat.reduceEqDiff, Go.Addr.add, ↓reduceIte] at hx138_0)
                    have qi138 : (7 < x13_2.length) = True := eq_true (by omega)
                    (try rw [show ((7 : Int)).toNat = 7 from rfl] at hx138_0)
                    replace p138 := eq_true p138
                    replace q138 := eq_true q138
                    have p142 : 0 ≤ (5 : Int) := (by omega)
                    have q142 : 5 < (x13_2.length : Int) := of_decide_eq_true zq7
                    obtain ⟨ad142, e142, hx142_0⟩ := Kd.at_int (Kd.R_reads' HO_13.out).2.2 5 p142 q142
                    obtain rfl : ad136 = ad142 := (by injection e142)
                    (try simp only [show (5 : Int).toNat = 5 from rfl, Nat.reduceMul, Nat.reduceEqDiff, Go.Addr.add, ↓reduceIte] at hx142_0)
                    have qi142 : (5 < x13_2.length) = True := eq_true (by omega)
                    (try rw [show ((5 : Int)).toNat = 5 from rfl] at hx142_0)
                    replace p142 := eq_true p142
                    replace q142 := eq_true q142
                    have p143 : 0 ≤ (6 : Int) := (by omega)
                    have q143 : 6 < (x13_2.length : Int) := of_decide_eq_true zq7
                    obtain ⟨ad143, e143, hx143_0⟩ := Kd.at_int (Kd.R_reads' HO_13.out).2.2 6 p143 q143
                    obtain rfl : ad136 = ad143 := (by injection e143)
                    (try simp only [show (6 : Int).toNat = 6 from rfl, Nat.reduceMul, Nat.reduceEqDiff, Go.Addr.add, ↓reduceIte] at hx143_0)
                    have qi143 : (6 < x13_2.length) = True := eq_true (by omega)
                    (try rw [show ((6 : Int)).toNat = 6 from rfl] at hx143_0)
                    replace p143 := eq_true p143
                    replace q143 := eq_true q143
                    have p144 : 0 ≤ (x14_2 : Int) := of_decide_eq_true zq7
                    have q144 : x14_2 < (l1.length : Int) := of_decide_eq_true zq7
                    obtain ⟨ad144, e144, hx144_0⟩ := Kd.at_int HR1.out x14_2 p144 q144
                    have hw144_0 := hx144_0
                    cases e144
                    replace hx144_0 := (HB.out.cell (World.block_lt_of_cell? w _ hx144_0)).trans hx144_0
                    replace p144 := eq_true p144
                    replace q144 := eq_true q144
                    obtain ⟨Ao72, co72, eo72⟩ := Kd.R_slice HO_7.out
                    (first | subst eo72 | (injection eo72 with f1_ f2_ f3_; have f4_ := f1_.symm; have f5_ := f3_.symm; clear f1_ f2_ f3_; subst f4_; subst f5_))
                    have p145 : 0 ≤ (x14_2 : Int) := of_decide_eq_true zq7
                    have q145 : x14_2 < (x7_1.length : Int) := of_decide_eq_true zq7
                    obtain ⟨ad145, e145, hx145_0⟩ := Kd.at_int (Kd.R_reads' HO_7.out).2.2 x14_2 p145 q145
                    cases e145
                    replace p145 := eq_true p145
                    replace q145 := eq_true q145
                    refine start_ (n := 36) (S := fun w' => w'.cell? ⟨ad136.block, ad136.off + 7, none⟩ = some (.int .u32 (rd x13_2 7)) ∧ w'.cell? ⟨ad136.block, ad136.off + 5, none⟩ = some (.int .u32 (rd x13_2 5)) ∧ w'.cell? ⟨ad136.block, ad136.off + 6, none⟩ = some (.int .u32 (rd x13_2 6)) ∧ w'.cell? (ad144.add (x14_2).toNat) = some (.int .u32 (rd l1 x14_2)) ∧ w'.cell? (ad145.add (x14_2).toNat) = some (.int .u32 (rd x7_1 x14_2))) (ds := []) (bA 36 0) (by kernel_rfl) rfl rfl ⟨hx138_0, hx142_0, hx143_0, ((HB.out.cell (World.block_lt_of_cell? w _ hw144_0)).trans hw144_0), hx145_0⟩ (fun hHeld => ?_); refine with_tabW spec_l1Block.tab18 spec_l1Block.bits18 (fun HT_ HW_ => ?_)
                    generalize wr.drew = w71 at HO_7 HO_13 HB hx138_0 hx142_0 hx143_0 hx144_0 hx145_0 hHeld ⊢
                    refine pu_ (i := 0) (N := some 121) (bA 36 1) rfl rfl HT_ (by kernel_rfl) (Or.inl ⟨by rfl, zq162⟩) zq163 ?_
                    refine pu_ (i := 1) (N := some 122) (bA 36 3) rfl rfl HT_ (by kernel_rfl) (Or.inl ⟨by rfl, zq162⟩) zq163 ?_
                    refine pu_ (i := 3) (N := some 124) (bA 36 11) rfl rfl HT_ (by kernel_rfl) (Or.inl ⟨by rfl, zq162⟩) zq163 ?_
                    refine pu_ (i := 5) (N := some 126) (bA 36 43) rfl rfl HT_ (by kernel_rfl) (Or.inl ⟨by rfl, zq162⟩) zq163 ?_
                    refine pu_ (i := 8) (N := some 129) (bA 36 299) rfl rfl HT_ (by kernel_rfl) (Or.inl ⟨by rfl, zq162⟩) zq163 ?_
                    refine pu_ (i := 12) (N := some 133) (bA 36 4395) rfl rfl HT_ (by kernel_rfl) (Or.inl ⟨by rfl, zq162⟩) zq163 ?_
                    refine pu_ (i := 13) (N := some 134) (bA 36 12587) rfl rfl HT_ (by kernel_rfl) (Or.inl ⟨by rfl, zq162⟩) zq163 ?_
                    refine pu_ (i := 14) (N := some 135) (bA 36 28971) rfl rfl HT_ (by kernel_rfl) (Or.inl ⟨by rfl, zq162⟩) zq163 ?_
                    refine pu_ (i := 17) (N := some 138) (bA 36 160043) rfl rfl HT_ (by kernel_rfl) (Or.inl ⟨by rfl, zq162⟩) zq163 ?_
                    refine pu_ (i := 18) (N := some 139) (bA 36 422187) rfl rfl HT_ (by kernel_rfl) (Or.inl ⟨by rfl, zq162⟩) zq163 ?_
                    refine pu_ (i := 19) (N := some 140) (bA 36 946475) rfl rfl HT_ (by kernel_rfl) (Or.inl ⟨by rfl, zq162⟩) zq163 ?_
                    refine pu_ (i := 20) (N := some 141) (bA 36 1995051) rfl rfl HT_ (by kernel_rfl) (Or.inl ⟨by rfl, zq162⟩) zq163 ?_
                    refine pu_ (i := 25) (N := some 146) (bA 36 35549483) rfl rfl HT_ (by kernel_rfl) (Or.inl ⟨by rfl, zq162⟩) zq163 ?_
                    refine pu_ (i := 26) (N := some 147) (bA 36 102658347) rfl rfl HT_ (by kernel_rfl) (Or.inl ⟨by rfl, zq162⟩) zq163 ?_
                    refine pu_ (i := 27) (N := some 148) (bA 36 236876075) rfl rfl HT_ (by kernel_rfl) (Or.inl ⟨by rfl, zq162⟩) zq163 ?_
                    refine pu_ (i := 30) (N := some 151) (bA 36 1310617899) rfl rfl HT_ (by kernel_rfl) (Or.inl ⟨by rfl, zq162⟩) zq163 ?_
                    refine pu_ (i := 31) (N := some 152) (bA 36 3458101547) rfl rfl HT_ (by kernel_rfl) (Or.inl ⟨by rfl, zq162⟩) zq163 ?_
                    refine pu_ (i := 32) (N := some 153) (bA 36 7753068843) rfl rfl HT_ (by kernel_rfl) (Or.inl ⟨by rfl, zq162⟩) zq163 ?_
                    refine tk_ (i := 2) (N := some 123) (bA 36 7753068847) rfl rfl HT_ HW_ (by kernel_rfl) (Or.inl ⟨by rfl, zq171⟩) hHeld zq163 ?_
                    refine tk_ (i := 15) (N := some 136) (bA 36 7753101615) rfl rfl HT_ HW_ (by kernel_rfl) (Or.inl ⟨by rfl, zq171⟩) hHeld zq163 ?_
                    refine pu_ (i := 16) (N := some 137) (bA 36 7753167151) rfl rfl HT_ (by kernel_rfl) (Or.inl ⟨by rfl, zq162⟩) zq163 ?_
                    refine tk_ (i := 21) (N := some 142) (bA 36 7755264303) rfl rfl HT_ HW_ (by kernel_rfl) (Or.inl ⟨by rfl, zq171⟩) hHeld zq163 ?_
                    refine pu_ (i := 22) (N := some 143) (bA 36 7759458607) rfl rfl HT_ (by kernel_rfl) (Or.inl ⟨by rfl, zq162⟩) zq163 ?_
                    refine pu_ (i := 23) (N := some 144) (bA 36 7767847215) rfl rfl HT_ (by kernel_rfl) (Or.inl ⟨by rfl, zq162⟩) zq163 ?_
                    refine tk_ (i := 28) (N := some 149) (bA 36 8036282671) rfl rfl HT_ HW_ (by kernel_rfl) (Or.inl ⟨by rfl, zq171⟩) hHeld zq163 ?_
                    refine tk_ (i := 33) (N := some 154) (bA 36 16626217263) rfl rfl HT_ HW_ (by kernel_rfl) (Or.inl ⟨by rfl, zq171⟩) hHeld zq163 ?_
                    refine one_ (i := 4) (N := some 125) (bA 36 16626217279) rfl rfl (one_of HT_.out (by kernel_rfl)) (by decide) (fun K hK => ?_)
                    refine goes_ Try.func111 (by kernel_rfl) rfl #[.int .u32 (rd x13_2 4), .int .i64 6] (by rfl) rfl rfl zq8 ?_
                    with_reducible refine (spec_Rotate.calls (rd x13_2 4) 6 t139 _ A56.out).mono ?_
                    rintro e w' ⟨rfl, ⟨nd, rfl⟩⟩
                    refine ⟨_, rfl, ?_⟩
                    refine hK.out _ _ ⟨hHeld.1, hHeld.2.1, hHeld.2.2.1, ((HB.out.cell (World.block_lt_of_cell? w _ hw144_0)).trans hw144_0), hHeld.2.2.2.2⟩ (fun hHeld => ?_)
                    clear hK K
                    refine norm_ (a' := ?_) ?_ ?_
                    rotate_left
                    ·
                     show Act.put _ (some 125) _ = _
                     simp only [Act.put, List.setIfInBounds_toArray, List.set_cons_zero, List.set_cons_succ, i64_w, i32_w]
                     rfl
                    refine one_ (i := 6) (N := some 127) (bA 36 16626217343) rfl rfl (one_of HT_.out (by kernel_rfl)) (by decide) (fun K hK => ?_)
                    refine goes_ Try.func111 (by kernel_rfl) rfl #[.int .u32 (rd x13_2 4), .int .i64 11] (by rfl) rfl rfl zq8 ?_
                    with_reducible refine (spec_Rotate.calls (rd x13_2 4) 11 t140 _ A57.out).mono ?_
                    rintro e w' ⟨rfl, ⟨nd, rfl⟩⟩
                    refine ⟨_, rfl, ?_⟩
                    refine hK.out _ _ ⟨hHeld.1, hHeld.2.1, hHeld.2.2.1, ((HB.out.cell (World.block_lt_of_cell? w _ hw144_0)).trans hw144_0), hHeld.2.2.2.2⟩ (fun hHeld => ?_)
                    clear hK K
                    refine norm_ (a' := ?_) ?_ ?_
                    rotate_left
                    ·
                     show Act.put _ (some 127) _ = _
                     simp only [Act.put, List.setIfInBounds_toArray, List.set_cons_zero, List.set_cons_succ, i64_w, i32_w]
                     rfl
                    refine pu_ (i := 7) (N := some 128) (bA 36 16626217471) rfl rfl HT_ (by kernel_rfl) (Or.inl ⟨by rfl, zq162⟩) zq163 ?_
                    refine one_ (i := 9) (N := some 130) (bA 36 16626217983) rfl rfl (one_of HT_.out (by kernel_rfl)) (by decide) (fun K hK => ?_)
                    refine goes_ Try.func111 (by kernel_rfl) rfl #[.int .u32 (rd x13_2 4), .int .i64 25] (by rfl) rfl rfl zq8 ?_
                    with_reducible refine (spec_Rotate.calls (rd x13_2 4) 25 t141 _ A58.out).mono ?_
                    rintro e w' ⟨rfl, ⟨nd, rfl⟩⟩
                    refine ⟨_, rfl, ?_⟩
                    refine hK.out _ _ ⟨hHeld.1, hHeld.2.1, hHeld.2.2.1, ((HB.out.cell (World.block_lt_of_cell? w _ hw144_0)).trans hw144_0), hHeld.2.2.2.2⟩ (fun hHeld => ?_)
                    clear hK K
                    refine norm_ (a' := ?_) ?_ ?_
                    rotate_left
                    ·
                     show Act.put _ (some 130) _ = _
                     simp only [Act.put, List.setIfInBounds_toArray, List.set_cons_zero, List.set_cons_succ, i64_w, i32_w]
                     rfl
                    refine pu_ (i := 10) (N := some 131) (bA 36 16626219007) rfl rfl HT_ (by kernel_rfl) (Or.inl ⟨by rfl, zq162⟩) zq163 ?_
                    refine pu_ (i := 11) (N := some 132) (bA 36 16626221055) rfl rfl HT_ (by kernel_rfl) (Or.inl ⟨by rfl, zq162⟩) zq163 ?_
                    refine pu_ (i := 24) (N := some 145) (bA 36 16642998271) rfl rfl HT_ (by kernel_rfl) (Or.inl ⟨by rfl, zq162⟩) zq163 ?_
                    refine pu_ (i := 29) (N := some 150) (bA 36 17179869183) rfl rfl HT_ (by kernel_rfl) (Or.inl ⟨by rfl, zq162⟩) zq163 ?_
                    refine pu_ (i := 34) (N := some 155) (bA 36 34359738367) rfl rfl HT_ (by kernel_rfl) (Or.inl ⟨by rfl, zq162⟩) zq163 ?_
                    refine pu_ (i := 35) (N := some 17) (bA 36 68719476735) rfl rfl HT_ (by kernel_rfl) (Or.inl ⟨by rfl, zq162⟩) zq163 ?_
                    refine done_ (done_of HT_.out (by kernel_rfl)) ?_
                    try go_wp2
                    repeat (rw [drewN_self w71]; generalize hq_ : World.drewN w71 _ = w71; have n0_ : Aside0 (Kd.R (Kd.int .u32) 93 w71 w.heap.size (fun k_ => some k_ ≠ (.slice (some ad145) x7_1.length co72 : Value).ownBlock) (.slice (some ad136) x13_2.length co70) x13_2) := ⟨by rw [← hq_]; exact zq58⟩; have n1_ : Aside0 (Kd.R (Kd.int .u32) 93 w71 w.heap.size (fun k_ => some k_ ≠ (.slice (some ad136) x13_2.length co70 : Value).ownBlock) (.slice (some ad145) x7_1.length co72) x7_1) := ⟨zq134⟩; have n2_ : Aside0 (Below w.heap.size w w71) := ⟨zq135⟩; clear HO_13 HO_7 HB hq_; have HO_13 := n0_; have HO_7 := n1_; have HB := n2_; clear n0_ n1_ n2_)
                    have n0_ := Aside0.mk (Kd.R_drew HO_7.out)
                    have n1_ := Aside0.mk (Kd.R_drew HO_13.out)
                    have n2_ := Aside0.mk (below_drew1 HB.out)
                    clear HO_7
                    clear HO_13
                    clear HB
                    have HO_7 := n0_
                    have HO_13 := n1_
                    have HB := n2_
                    clear n0_ n1_ n2_
                    have p149 : 0 ≤ (1 : Int) := (by omega)
                    have q149 : 1 < (x13_2.length : Int) := of_decide_eq_true zq7
                    obtain ⟨ad149, e149, hx149_0⟩ := Kd.at_int (Kd.R_reads' HO_13.out).2.2 1 p149 q149
                    obtain rfl : ad136 = ad149 := (by injection e149)
                    (try simp only [show (1 : Int).toNat = 1 from rfl, Nat.reduceMul, Nat.reduceEqDiff, Go.Addr.add, ↓reduceIte] at hx149_0)
                    have qi149 : (1 < x13_2.length) = True := eq_true (by omega)
                    (try rw [show ((1 : Int)).toNat = 1 from rfl] at hx149_0)
                    replace p149 := eq_true p149
                    replace q149 := eq_true q149
                    have p150 : 0 ≤ (2 : Int) := (by omega)
                    have q150 : 2 < (x13_2.length : Int) := of_decide_eq_true zq7
                    obtain ⟨ad150, e150, hx150_0⟩ := Kd.at_int (Kd.R_reads' HO_13.out).2.2 2 p150 q150
                    obtain rfl : ad136 = ad150 := (by injection e150)
                    (try simp only [show (2 : Int).toNat = 2 from rfl, Nat.reduceMul, Nat.reduceEqDiff, Go.Addr.add, ↓reduceIte] at hx150_0)
                    have qi150 : (2 < x13_2.length) = True := eq_true (by omega)
                    (try rw [show ((2 : Int)).toNat = 2 from rfl] at hx150_0)
                    replace p150 := eq_true p150
                    replace q150 := eq_true q150
                    have p151 : 0 ≤ (1 : Int) := (by omega)
                    have q151 : 1 < (x13_2.length : Int) := of_decide_eq_true zq7
                    obtain ⟨ad151, e151, hx151_0⟩ := Kd.at_int (Kd.R_reads' HO_13.out).2.2 1 p151 q151
                    obtain rfl : ad136 = ad151 := (by injection e151)
                    (try simp only [show (1 : Int).toNat = 1 from rfl, Nat.reduceMul, Nat.reduceEqDiff, Go.Addr.add, ↓reduceIte] at hx151_0)
                    have qi151 : (1 < x13_2.length) = True := eq_true (by omega)
                    (try rw [show ((1 : Int)).toNat = 1 from rfl] at hx151_0)
                    replace p151 := eq_true p151
                    replace q151 := eq_true q151
                    have p152 : 0 ≤ (2 : Int) := (by omega)
                    have q152 : 2 < (x13_2.length : Int) := of_decide_eq_true zq7
                    obtain ⟨ad152, e152, hx152_0⟩ := Kd.at_int (Kd.R_reads' HO_13.out).2.2 2 p152 q152
                    obtain rfl : ad136 = ad152 := (by injection e152)
                    (try simp only [show (2 : Int).toNat = 2 from rfl, Nat.reduceMul, Nat.reduceEqDiff, Go.Addr.add, ↓reduceIte] at hx152_0)
                    have qi152 : (2 < x13_2.length) = True := eq_true (by omega)
                    (try rw [show ((2 : Int)).toNat = 2 from rfl] at hx152_0)
                    replace p152 := eq_true p152
                    replace q152 := eq_true q152
                    refine start_ (n := 29) (S := fun w' => w'.cell? ⟨ad136.block, ad136.off + 1, none⟩ = some (.int .u32 (rd x13_2 1)) ∧ w'.cell? ⟨ad136.block, ad136.off + 2, none⟩ = some (.int .u32 (rd x13_2 2)) ∧ w'.cell? ⟨ad136.block, ad136.off + 1, none⟩ = some (.int .u32 (rd x13_2 1)) ∧ w'.cell? ⟨ad136.block, ad136.off + 2, none⟩ = some (.int .u32 (rd x13_2 2))) (ds := []) (bA 29 0) (by kernel_rfl) rfl rfl ⟨hx149_0, hx150_0, hx151_0, hx152_0⟩ (fun hHeld => ?_); refine with_tabW spec_l1Block.tab19 spec_l1Block.bits19 (fun HT_ HW_ => ?_)
                    generalize w71.drew = w73 at HO_7 HO_13 HB hx149_0 hx150_0 hx151_0 hx152_0 hHeld ⊢
                    refine pu_ (i := 0) (N := some 156) (bA 29 1) rfl rfl HT_ (by kernel_rfl) (Or.inl ⟨by rfl, zq162⟩) zq163 ?_
                    refine pu_ (i := 2) (N := some 158) (bA 29 5) rfl rfl HT_ (by kernel_rfl) (Or.inl ⟨by rfl, zq162⟩) zq163 ?_
                    refine pu_ (i := 5) (N := some 161) (bA 29 37) rfl rfl HT_ (by kernel_rfl) (Or.inl ⟨by rfl, zq162⟩) zq163 ?_
                    refine pu_ (i := 8) (N := some 164) (bA 29 293) rfl rfl HT_ (by kernel_rfl) (Or.inl ⟨by rfl, zq162⟩) zq163 ?_
                    refine pu_ (i := 9) (N := some 165) (bA 29 805) rfl rfl HT_ (by kernel_rfl) (Or.inl ⟨by rfl, zq162⟩) zq163 ?_
                    refine pu_ (i := 10) (N := some 166) (bA 29 1829) rfl rfl HT_ (by kernel_rfl) (Or.inl ⟨by rfl, zq162⟩) zq163 ?_
                    refine pu_ (i := 13) (N := some 169) (bA 29 10021) rfl rfl HT_ (by kernel_rfl) (Or.inl ⟨by rfl, zq162⟩) zq163 ?_
                    refine pu_ (i := 14) (N := some 170) (bA 29 26405) rfl rfl HT_ (by kernel_rfl) (Or.inl ⟨by rfl, zq162⟩) zq163 ?_
                    refine pu_ (i := 15) (N := some 171) (bA 29 59173) rfl rfl HT_ (by kernel_rfl) (Or.inl ⟨by rfl, zq162⟩) zq163 ?_
                    refine pu_ (i := 19) (N := some 175) (bA 29 583461) rfl rfl HT_ (by kernel_rfl) (Or.inl ⟨by rfl, zq162⟩) zq163 ?_
                    refine pu_ (i := 20) (N := some 176) (bA 29 1632037) rfl rfl HT_ (by kernel_rfl) (Or.inl ⟨by rfl, zq162⟩) zq163 ?_
                    refine pu_ (i := 22) (N := some 178) (bA 29 5826341) rfl rfl HT_ (by kernel_rfl) (Or.inl ⟨by rfl, zq162⟩) zq163 ?_
                    refine pu_ (i := 23) (N := some 179) (bA 29 14214949) rfl rfl HT_ (by kernel_rfl) (Or.inl ⟨by rfl, zq162⟩) zq163 ?_
                    refine tk_ (i := 11) (N := some 167) (bA 29 14216997) rfl rfl HT_ HW_ (by kernel_rfl) (Or.inl ⟨by rfl, zq164⟩) hHeld zq163 ?_
                    refine pu_ (i := 12) (N := some 168) (bA 29 14221093) rfl rfl HT_ (by kernel_rfl) (Or.inl ⟨by rfl, zq162⟩) zq163 ?_
                    refine tk_ (i := 16) (N := some 172) (bA 29 14286629) rfl rfl HT_ HW_ (by kernel_rfl) (Or.inl ⟨by rfl, zq164⟩) hHeld zq163 ?_
                    refine pu_ (i := 17) (N := some 173) (bA 29 14417701) rfl rfl HT_ (by kernel_rfl) (Or.inl ⟨by rfl, zq162⟩) zq163 ?_
                    refine pu_ (i := 18) (N := some 174) (bA 29 14679845) rfl rfl HT_ (by kernel_rfl) (Or.inl ⟨by rfl, zq162⟩) zq163 ?_
                    refine tk_ (i := 21) (N := some 177) (bA 29 16776997) rfl rfl HT_ HW_ (by kernel_rfl) (Or.inl ⟨by rfl, zq164⟩) hHeld zq163 ?_
                    refine tk_ (i := 24) (N := some 180) (bA 29 33554213) rfl rfl HT_ HW_ (by kernel_rfl) (Or.inl ⟨by rfl, zq164⟩) hHeld zq163 ?_
                    refine pu_ (i := 25) (N := some 181) (bA 29 67108645) rfl rfl HT_ (by kernel_rfl) (Or.inl ⟨by rfl, zq162⟩) zq163 ?_
                    refine pu_ (i := 26) (N := some 182) (bA 29 134217509) rfl rfl HT_ (by kernel_rfl) (Or.inl ⟨by rfl, zq162⟩) zq163 ?_
                    refine one_ (i := 1) (N := some 157) (bA 29 134217511) rfl rfl (one_of HT_.out (by kernel_rfl)) (by decide) (fun K hK => ?_)
                    refine goes_ Try.func111 (by kernel_rfl) rfl #[.int .u32 (rd x13_2 0), .int .i64 2] (by rfl) rfl rfl zq8 ?_
                    with_reducible refine (spec_Rotate.calls (rd x13_2 0) 2 t146 _ A64.out).mono ?_
                    rintro e w' ⟨rfl, ⟨nd, rfl⟩⟩
                    refine ⟨_, rfl, ?_⟩
                    refine hK.out _ _ ⟨hHeld.1, hHeld.2.1, hHeld.2.2.1, hHeld.2.2.2⟩ (fun hHeld => ?_)
                    clear hK K
                    refine norm_ (a' := ?_) ?_ ?_
                    rotate_left
                    ·
                     show Act.put _ (some 157) _ = _
                     simp only [Act.put, List.setIfInBounds_toArray, List.set_cons_zero, List.set_cons_succ, i64_w, i32_w]
                     rfl
                    refine one_ (i := 3) (N := some 159) (bA 29 134217519) rfl rfl (one_of HT_.out (by kernel_rfl)) (by decide) (fun K hK => ?_)
                    refine goes_ Try.func111 (by kernel_rfl) rfl #[.int .u32 (rd x13_2 0), .int .i64 13] (by rfl) rfl rfl zq8 ?_
                    with_reducible refine (spec_Rotate.calls (rd x13_2 0) 13 t147 _ A65.out).mono ?_
                    rintro e w' ⟨rfl, ⟨nd, rfl⟩⟩
                    refine ⟨_, rfl, ?_⟩
                    refine hK.out _ _ ⟨hHeld.1, hHeld.2.1, hHeld.2.2.1, hHeld.2.2.2⟩ (fun hHeld => ?_)
                    clear hK K
                    refine norm_ (a' := ?_) ?_ ?_
                    rotate_left
                    ·
                     show Act.put _ (some 159) _ = _
                     simp only [Act.put, List.setIfInBounds_toArray, List.set_cons_zero, List.set_cons_succ, i64_w, i32_w]
                     rfl
                    refine pu_ (i := 4) (N := some 160) (bA 29 134217535) rfl rfl HT_ (by kernel_rfl) (Or.inl ⟨by rfl, zq162⟩) zq163 ?_
                    refine one_ (i := 6) (N := some 162) (bA 29 134217599) rfl rfl (one_of HT_.out (by kernel_rfl)) (by decide) (fun K hK => ?_)
                    refine goes_ Try.func111 (by kernel_rfl) rfl #[.int .u32 (rd x13_2 0), .int .i64 22] (by rfl) rfl rfl zq8 ?_
                    with_reducible refine (spec_Rotate.calls (rd x13_2 0) 22 t148 _ A66.out).mono ?_
                    rintro e w' ⟨rfl, ⟨nd, rfl⟩⟩
                    refine ⟨_, rfl, ?_⟩
                    refine hK.out _ _ ⟨hHeld.1, hHeld.2.1, hHeld.2.2.1, hHeld.2.2.2⟩ (fun hHeld => ?_)
                    clear hK K
                    refine norm_ (a' := ?_) ?_ ?_
                    rotate_left
                    ·
                     show Act.put _ (some 162) _ = _
                     simp only [Act.put, List.setIfInBounds_toArray, List.set_cons_zero, List.set_cons_succ, i64_w, i32_w]
                     rfl
                    refine pu_ (i := 7) (N := some 163) (bA 29 134217727) rfl rfl HT_ (by kernel_rfl) (Or.inl ⟨by rfl, zq162⟩) zq163 ?_
                    refine pu_ (i := 27) (N := some 183) (bA 29 268435455) rfl rfl HT_ (by kernel_rfl) (Or.inl ⟨by rfl, zq162⟩) zq163 ?_
                    refine pu_ (i := 28) (N := some 18) (bA 29 536870911) rfl rfl HT_ (by kernel_rfl) (Or.inl ⟨by rfl, zq162⟩) zq163 ?_
                    refine done_ (done_of HT_.out (by kernel_rfl)) ?_
                    try go_wp2
                    repeat (rw [drewN_self w73]; generalize hq_ : World.drewN w73 _ = w73; have n0_ : Aside0 (Kd.R (Kd.int .u32) 93 w73 w.heap.size (fun k_ => some k_ ≠ (.slice (some ad145) x7_1.length co72 : Value).ownBlock) (.slice (some ad136) x13_2.length co70) x13_2) := ⟨by rw [← hq_]; exact zq58⟩; have n1_ : Aside0 (Kd.R (Kd.int .u32) 93 w73 w.heap.size (fun k_ => some k_ ≠ (.slice (some ad136) x13_2.length co70 : Value).ownBlock) (.slice (some ad145) x7_1.length co72) x7_1) := ⟨zq134⟩; have n2_ : Aside0 (Below w.heap.size w w73) := ⟨zq135⟩; clear HO_13 HO_7 HB hq_; have HO_13 := n0_; have HO_7 := n1_; have HB := n2_; clear n0_ n1_ n2_)
                    have n0_ := Aside0.mk (Kd.R_drew HO_7.out)
                    have n1_ := Aside0.mk (Kd.R_drew HO_13.out)
                    have n2_ := Aside0.mk (below_drew1 HB.out)
                    clear HO_7
                    clear HO_13
                    clear HB
                    have HO_7 := n0_
                    have HO_13 := n1_
                    have HB := n2_
                    clear n0_ n1_ n2_
                    have p153 : 0 ≤ (1 : Int) := (by omega)
                    have q153 : 1 < (x13_2.length : Int) := of_decide_eq_true zq7
                    obtain ⟨ad153, e153, hx153_0⟩ := Kd.at_int (Kd.R_reads' HO_13.out).2.2 1 p153 q153
                    obtain rfl : ad136 = ad153 := (by injection e153)
                    (try simp only [show (1 : Int).toNat = 1 from rfl, Nat.reduceMul, Nat.reduceEqDiff, Go.Addr.add, ↓reduceIte] at hx153_0)
                    have qi153 : (1 < x13_2.length) = True := eq_true (by omega)
                    (try rw [show ((1 : Int)).toNat = 1 from rfl] at hx153_0)
                    replace p153 := eq_true p153
                    replace q153 := eq_true q153
                    have p154 : 0 ≤ (2 : Int) := (by omega)
                    have q154 : 2 < (x13_2.length : Int) := of_decide_eq_true zq7
                    obtain ⟨ad154, e154, hx154_0⟩ := Kd.at_int (Kd.R_reads' HO_13.out).2.2 2 p154 q154
                    obtain rfl : ad136 = ad154 := (by injection e154)
                    (try simp only [show (2 : Int).toNat = 2 from rfl, Nat.reduceMul, Nat.reduceEqDiff, Go.Addr.add, ↓reduceIte] at hx154_0)
                    have qi154 : (2 < x13_2.length) = True := eq_true (by omega)
                    (try rw [show ((2 : Int)).toNat = 2 from rfl] at hx154_0)
                    replace p154 := eq_true p154
                    replace q154 := eq_true q154
                    have p155 : 0 ≤ (3 : Int) := (by omega)
                    have q155 : 3 < (x13_2.length : Int) := of_decide_eq_true zq7
                    obtain ⟨ad155, e155, hx155_0⟩ := Kd.at_int (Kd.R_reads' HO_13.out).2.2 3 p155 q155
                    obtain rfl : ad136 = ad155 := (by injection e155)
                    (try simp only [show (3 : Int).toNat = 3 from rfl, Nat.reduceMul, Nat.reduceEqDiff, Go.Addr.add, ↓reduceIte] at hx155_0)
                    have qi155 : (3 < x13_2.length) = True := eq_true (by omega)
                    (try rw [show ((3 : Int)).toNat = 3 from rfl] at hx155_0)
                    replace p155 := eq_true p155
                    replace q155 := eq_true q155
                    have p156 : 0 ≤ (5 : Int) := (by omega)
                    have q156 : 5 < (x13_2.length : Int) := of_decide_eq_true zq7
                    obtain ⟨ad156, e156, hx156_0⟩ := Kd.at_int (Kd.R_reads' HO_13.out).2.2 5 p156 q156
                    obtain rfl : ad136 = ad156 := (by injection e156)
                    (try simp only [show (5 : Int).toNat = 5 from rfl, Nat.reduceMul, Nat.reduceEqDiff, Go.Addr.add, ↓reduceIte] at hx156_0)
                    have qi156 : (5 < x13_2.length) = True := eq_true (by omega)
                    (try rw [show ((5 : Int)).toNat = 5 from rfl] at hx156_0)
                    replace p156 := eq_true p156
                    replace q156 := eq_true q156
                    have p157 : 0 ≤ (6 : Int) := (by omega)
                    have q157 : 6 < (x13_2.length : Int) := of_decide_eq_true zq7
                    obtain ⟨ad157, e157, hx157_0⟩ := Kd.at_int (Kd.R_reads' HO_13.out).2.2 6 p157 q157
                    obtain rfl : ad136 = ad157 := (by injection e157)
                    (try simp only [show (6 : Int).toNat = 6 from rfl, Nat.reduceMul, Nat.reduceEqDiff, Go.Addr.add, ↓reduceIte] at hx157_0)
                    have qi157 : (6 < x13_2.length) = True := eq_true (by omega)
                    (try rw [show ((6 : Int)).toNat = 6 from rfl] at hx157_0)
                    replace p157 := eq_true p157
                    replace q157 := eq_true q157
                    refine start_ (n := 24) (S := fun w' => w'.cell? ⟨ad136.block, ad136.off + 1, none⟩ = some (.int .u32 (rd x13_2 1)) ∧ w'.cell? ⟨ad136.block, ad136.off + 2, none⟩ = some (.int .u32 (rd x13_2 2)) ∧ w'.cell? ⟨ad136.block, ad136.off + 3, none⟩ = some (.int .u32 (rd x13_2 3)) ∧ w'.cell? ⟨ad136.block, ad136.off + 5, none⟩ = some (.int .u32 (rd x13_2 5)) ∧ w'.cell? ⟨ad136.block, ad136.off + 6, none⟩ = some (.int .u32 (rd x13_2 6))) (ds := []) (bA 24 0) (by kernel_rfl) rfl rfl ⟨hx153_0, hx154_0, hx155_0, hx156_0, hx157_0⟩ (fun hHeld => ?_); refine with_tabW spec_l1Block.tab20 spec_l1Block.bits20 (fun HT_ HW_ => ?_)
                    generalize w73.drew = w74 at HO_7 HO_13 HB hx153_0 hx154_0 hx155_0 hx156_0 hx157_0 hHeld ⊢
                    refine pu_ (i := 0) (N := some 184) (bA 24 1) rfl rfl HT_ (by kernel_rfl) (Or.inl ⟨by rfl, zq162⟩) zq163 ?_
                    refine pu_ (i := 1) (N := some 185) (bA 24 3) rfl rfl HT_ (by kernel_rfl) (Or.inl ⟨by rfl, zq162⟩) zq163 ?_
                    refine pu_ (i := 2) (N := some 186) (bA 24 7) rfl rfl HT_ (by kernel_rfl) (Or.inl ⟨by rfl, zq162⟩) zq163 ?_
                    refine pu_ (i := 3) (N := some 187) (bA 24 15) rfl rfl HT_ (by kernel_rfl) (Or.inl ⟨by rfl, zq162⟩) zq163 ?_
                    refine pu_ (i := 4) (N := some 188) (bA 24 31) rfl rfl HT_ (by kernel_rfl) (Or.inl ⟨by rfl, zq162⟩) zq163 ?_
                    refine pu_ (i := 5) (N := some 189) (bA 24 63) rfl rfl HT_ (by kernel_rfl) (Or.inl ⟨by rfl, zq162⟩) zq163 ?_
                    refine pu_ (i := 7) (N := some 191) (bA 24 191) rfl rfl HT_ (by kernel_rfl) (Or.inl ⟨by rfl, zq162⟩) zq163 ?_
                    refine pu_ (i := 8) (N := some 192) (bA 24 447) rfl rfl HT_ (by kernel_rfl) (Or.inl ⟨by rfl, zq162⟩) zq163 ?_
                    refine pu_ (i := 10) (N := some 194) (bA 24 1471) rfl rfl HT_ (by kernel_rfl) (Or.inl ⟨by rfl, zq162⟩) zq163 ?_
                    refine pu_ (i := 11) (N := some 195) (bA 24 3519) rfl rfl HT_ (by kernel_rfl) (Or.inl ⟨by rfl, zq162⟩) zq163 ?_
                    refine pu_ (i := 13) (N := some 197) (bA 24 11711) rfl rfl HT_ (by kernel_rfl) (Or.inl ⟨by rfl, zq162⟩) zq163 ?_
                    refine pu_ (i := 15) (N := some 199) (bA 24 44479) rfl rfl HT_ (by kernel_rfl) (Or.inl ⟨by rfl, zq162⟩) zq163 ?_
                    refine pu_ (i := 16) (N := some 200) (bA 24 110015) rfl rfl HT_ (by kernel_rfl) (Or.inl ⟨by rfl, zq162⟩) zq163 ?_
                    refine pu_ (i := 17) (N := some 201) (bA 24 241087) rfl rfl HT_ (by kernel_rfl) (Or.inl ⟨by rfl, zq162⟩) zq163 ?_
                    refine pu_ (i := 19) (N := some 203) (bA 24 765375) rfl rfl HT_ (by kernel_rfl) (Or.inl ⟨by rfl, zq162⟩) zq163 ?_
                    refine pu_ (i := 20) (N := some 204) (bA 24 1813951) rfl rfl HT_ (by kernel_rfl) (Or.inl ⟨by rfl, zq162⟩) zq163 ?_
                    refine tk_ (i := 6) (N := some 190) (bA 24 1814015) rfl rfl HT_ HW_ (by kernel_rfl) (Or.inl ⟨by rfl, zq171⟩) hHeld zq163 ?_
                    refine tk_ (i := 9) (N := some 193) (bA 24 1814527) rfl rfl HT_ HW_ (by kernel_rfl) (Or.inl ⟨by rfl, zq171⟩) hHeld zq163 ?_
                    refine tk_ (i := 12) (N := some 196) (bA 24 1818623) rfl rfl HT_ HW_ (by kernel_rfl) (Or.inl ⟨by rfl, zq171⟩) hHeld zq163 ?_
                    refine pu_ (i := 14) (N := some 198) (bA 24 1835007) rfl rfl HT_ (by kernel_rfl) (Or.inl ⟨by rfl, zq162⟩) zq163 ?_
                    refine tk_ (i := 18) (N := some 202) (bA 24 2097151) rfl rfl HT_ HW_ (by kernel_rfl) (Or.inl ⟨by rfl, zq171⟩) hHeld zq163 ?_
                    refine tk_ (i := 21) (N := some 205) (bA 24 4194303) rfl rfl HT_ HW_ (by kernel_rfl) (Or.inl ⟨by rfl, zq171⟩) hHeld zq163 ?_
                    refine one_ (i := 22) (N := some 206) (bA 24 8388607) rfl rfl (one_of HT_.out (by kernel_rfl)) (by decide) (fun K hK => ?_)
                    refine Kd.R_lit_step (Kd.int .u32) _ 93 ?hg (N := 206) ?hd (xs := ([((((((((((rd x13_2 7) + (Go.bits .xor .u32 (Go.bits .xor .u32 t139 t140) t141)) % 4294967296) + (Go.bits .xor .u32 (Go.bits .and .u32 (rd x13_2 4) (rd x13_2 5)) (Go.bits .and .u32 (Go.bits .xor .u32 4294967295 (rd x13_2 4)) (rd x13_2 6)))) % 4294967296) + (rd l1 x14_2)) % 4294967296) + (rd x7_1 x14_2)) % 4294967296) + (((Go.bits .xor .u32 (Go.bits .xor .u32 t146 t147) t148) + (Go.bits .xor .u32 (Go.bits .xor .u32 (Go.bits .and .u32 (rd x13_2 0) (rd x13_2 1)) (Go.bits .and .u32 (rd x13_2 0) (rd x13_2 2))) (Go.bits .and .u32 (rd x13_2 1) (rd x13_2 2)))) % 4294967296)) % 4294967296, rd x13_2 0, rd x13_2 1, rd x13_2 2, ((rd x13_2 3) + (((((((((rd x13_2 7) + (Go.bits .xor .u32 (Go.bits .xor .u32 t139 t140) t141)) % 4294967296) + (Go.bits .xor .u32 (Go.bits .and .u32 (rd x13_2 4) (rd x13_2 5)) (Go.bits .and .u32 (Go.bits .xor .u32 4294967295 (rd x13_2 4)) (rd x13_2 6)))) % 4294967296) + (rd l1 x14_2)) % 4294967296) + (rd x7_1 x14_2)) % 4294967296)) % 4294967296, rd x13_2 4, rd x13_2 5, rd x13_2 6] : List Int)) (inner := [.int .u32 (((((((((((rd x13_2 7) + (Go.bits .xor .u32 (Go.bits .xor .u32 t139 t140) t141)) % 4294967296) + (Go.bits .xor .u32 (Go.bits .and .u32 (rd x13_2 4) (rd x13_2 5)) (Go.bits .and .u32 (Go.bits .xor .u32 4294967295 (rd x13_2 4)) (rd x13_2 6)))) % 4294967296) + (rd l1 x14_2)) % 4294967296) + (rd x7_1 x14_2)) % 4294967296) + (((Go.bits .xor .u32 (Go.bits .xor .u32 t146 t147) t148) + (Go.bits .xor .u32 (Go.bits .xor .u32 (Go.bits .and .u32 (rd x13_2 0) (rd x13_2 1)) (Go.bits .and .u32 (rd x13_2 0) (rd x13_2 2))) (Go.bits .and .u32 (rd x13_2 1) (rd x13_2 2)))) % 4294967296)) % 4294967296), .int .u32 (rd x13_2 0), .int .u32 (rd x13_2 1), .int .u32 (rd x13_2 2), .int .u32 (((rd x13_2 3) + (((((((((rd x13_2 7) + (Go.bits .xor .u32 (Go.bits .xor .u32 t139 t140) t141)) % 4294967296) + (Go.bits .xor .u32 (Go.bits .and .u32 (rd x13_2 4) (rd x13_2 5)) (Go.bits .and .u32 (Go.bits .xor .u32 4294967295 (rd x13_2 4)) (rd x13_2 6)))) % 4294967296) + (rd l1 x14_2)) % 4294967296) + (rd x7_1 x14_2)) % 4294967296)) % 4294967296), .int .u32 (rd x13_2 4), .int .u32 (rd x13_2 5), .int .u32 (rd x13_2 6)]) (ok := fun _ => True) (okp := fun _ => True) ?hr ?hp (fun _ hk => hk) trivial (Below.refl _ _) (Nat.le_refl _) (by simp) ?_; (case hd => rfl); (case hg => rfl); (case hr => exact zq17); (case hp => exact (Reps.one (show Kd.M (Kd.int .u32) _ _ _ (((((((((((rd x13_2 7) + (Go.bits .xor .u32 (Go.bits .xor .u32 t139 t140) t141)) % 4294967296) + (Go.bits .xor .u32 (Go.bits .and .u32 (rd x13_2 4) (rd x13_2 5)) (Go.bits .and .u32 (Go.bits .xor .u32 4294967295 (rd x13_2 4)) (rd x13_2 6)))) % 4294967296) + (rd l1 x14_2)) % 4294967296) + (rd x7_1 x14_2)) % 4294967296) + (((Go.bits .xor .u32 (Go.bits .xor .u32 t146 t147) t148) + (Go.bits .xor .u32 (Go.bits .xor .u32 (Go.bits .and .u32 (rd x13_2 0) (rd x13_2 1)) (Go.bits .and .u32 (rd x13_2 0) (rd x13_2 2))) (Go.bits .and .u32 (rd x13_2 1) (rd x13_2 2)))) % 4294967296)) % 4294967296) [.int .u32 (((((((((((rd x13_2 7) + (Go.bits .xor .u32 (Go.bits .xor .u32 t139 t140) t141)) % 4294967296) + (Go.bits .xor .u32 (Go.bits .and .u32 (rd x13_2 4) (rd x13_2 5)) (Go.bits .and .u32 (Go.bits .xor .u32 4294967295 (rd x13_2 4)) (rd x13_2 6)))) % 4294967296) + (rd l1 x14_2)) % 4294967296) + (rd x7_1 x14_2)) % 4294967296) + (((Go.bits .xor .u32 (Go.bits .xor .u32 t146 t147) t148) + (Go.bits .xor .u32 (Go.bits .xor .u32 (Go.bits .and .u32 (rd x13_2 0) (rd x13_2 1)) (Go.bits .and .u32 (rd x13_2 0) (rd x13_2 2))) (Go.bits .and .u32 (rd x13_2 1) (rd x13_2 2)))) % 4294967296)) % 4294967296)] from rfl) (Reps.one (show Kd.M (Kd.int .u32) _ _ _ (rd x13_2 0) [.int .u32 (rd x13_2 0)] from rfl) (Reps.one (show Kd.M (Kd.int .u32) _ _ _ (rd x13_2 1) [.int .u32 (rd x13_2 1)] from rfl) (Reps.one (show Kd.M (Kd.int .u32) _ _ _ (rd x13_2 2) [.int .u32 (rd x13_2 2)] from rfl) (Reps.one (show Kd.M (Kd.int .u32) _ _ _ (((rd x13_2 3) + (((((((((rd x13_2 7) + (Go.bits .xor .u32 (Go.bits .xor .u32 t139 t140) t141)) % 4294967296) + (Go.bits .xor .u32 (Go.bits .and .u32 (rd x13_2 4) (rd x13_2 5)) (Go.bits .and .u32 (Go.bits .xor .u32 4294967295 (rd x13_2 4)) (rd x13_2 6)))) % 4294967296) + (rd l1 x14_2)) % 4294967296) + (rd x7_1 x14_2)) % 4294967296)) % 4294967296) [.int .u32 (((rd x13_2 3) + (((((((((rd x13_2 7) + (Go.bits .xor .u32 (Go.bits .xor .u32 t139 t140) t141)) % 4294967296) + (Go.bits .xor .u32 (Go.bits .and .u32 (rd x13_2 4) (rd x13_2 5)) (Go.bits .and .u32 (Go.bits .xor .u32 4294967295 (rd x13_2 4)) (rd x13_2 6)))) % 4294967296) + (rd l1 x14_2)) % 4294967296) + (rd x7_1 x14_2)) % 4294967296)) % 4294967296)] from rfl) (Reps.one (show Kd.M (Kd.int .u32) _ _ _ (rd x13_2 4) [.int .u32 (rd x13_2 4)] from rfl) (Reps.one (show Kd.M (Kd.int .u32) _ _ _ (rd x13_2 5) [.int .u32 (rd x13_2 5)] from rfl) (Reps.one (show Kd.M (Kd.int .u32) _ _ _ (rd x13_2 6) [.int .u32 (rd x13_2 6)] from rfl) (Reps.none _ _))))))))))
                    intro v159 w75 ho76 hb hg_ hnew_
                    have HS0_ := (hb.cell (World.block_lt_of_cell? _ _ (hHeld.1))).trans (hHeld.1)
                    have HS1_ := (hb.cell (World.block_lt_of_cell? _ _ (hHeld.2.1))).trans (hHeld.2.1)
                    have HS2_ := (hb.cell (World.block_lt_of_cell? _ _ (hHeld.2.2.1))).trans (hHeld.2.2.1)
                    have HS3_ := (hb.cell (World.block_lt_of_cell? _ _ (hHeld.2.2.2.1))).trans (hHeld.2.2.2.1)
                    have HS4_ := (hb.cell (World.block_lt_of_cell? _ _ (hHeld.2.2.2.2))).trans (hHeld.2.2.2.2)
                    clear hg_ hnew_
                    (first | rw [← Ny158.out] at ho76 | (simp only [Int.reduceToNat] at ho76; rw [← Ny158.out] at ho76))
                    have n0_ := Aside0.mk (Kd.R_elder' zq54 (Kd.R_base ho76) hb)
                    have n1_ := Aside0.mk (Kd.R_elder' zq58 (Kd.R_base ho76) hb)
                    have n2_ := Aside0.mk (Kd.R_lower (Kd.R_new' (Kd.R_new' ho76 (Kd.R_lt zq54)) (Kd.R_lt zq58)) (below_size zq3))
                    have n3_ := Aside0.mk (below_step zq3 hb)
                    clear HO_7
                    clear HO_13
                    clear HB
                    have HO_7 := n0_
                    have HO_13 := n1_
                    have HO160 := n2_
                    have HB := n3_
                    clear n0_ n1_ n2_ n3_
                    clear hb ho76
                    refine hK.out _ _ ⟨HS0_, HS1_, HS2_, HS3_, HS4_⟩ (fun hHeld => ?_)
                    clear hK K
                    refine norm_ (a' := ?_) ?_ ?_
                    rotate_left
                    ·
                     show Act.put _ (some 206) _ = _
                     simp only [Act.put, List.setIfInBounds_toArray, List.set_cons_zero, List.set_cons_succ, i64_w, i32_w]
                     rfl
                    refine pu_ (i := 23) (N := some 13) (bA 24 16777215) rfl rfl HT_ (by kernel_rfl) (Or.inl ⟨by rfl, zq162⟩) zq163 ?_
                    refine done_ (done_of HT_.out (by kernel_rfl)) ?_
                    try go_wp2
                    go_roundg k2
                    case measure => have := HK1.out; have := HK2.out; omega
                    case rel => exact ⟨(y158), (wrap64 (x14_2 + 1)), zq6, H', ⟨zq59⟩, ⟨zq57⟩, ⟨by (with_reducible repeat (first | apply Kd.R_alloc | apply Kd.R_drewN | apply Kd.R_drew)); first | exact Kd.R_mono HO160.out (fun _ hk => hk.1.2) | (have h_ := Kd.R_mono HO160.out (fun _ hk => hk.1.2); simp only [Int.emod_add_emod, Int.add_emod_emod] at h_ ⊢; exact h_)⟩, ⟨zq3⟩⟩
                   ·
                    rw [if_neg c69] at H
                    exact absurd H (by simp)
                  ·
                   rw [if_neg c68] at H
                   exact absurd H (by simp)
                 ·
                  rw [if_neg c67] at H
                  exact absurd H (by simp)
                ·
                 rw [if_neg c63] at H
                 exact absurd H (by simp)
               ·
                rw [if_neg c62] at H
                exact absurd H (by simp)
              ·
               rw [if_neg c61] at H
               exact absurd H (by simp)
             ·
              rw [if_neg c60] at H
              exact absurd H (by simp)
            ·
             rw [if_neg c59] at H
             exact absurd H (by simp)
           ·
            rw [if_neg c55] at H
            exact absurd H (by simp)
          ·
           rw [if_neg c54] at H
           exact absurd H (by simp)
         ·
          rw [if_neg c53] at H
          exact absurd H (by simp)
        ·
         rw [if_neg c52] at H
         have c52b0 : decide (x14_2 < 64) = false := decide_eq_false c52
         clear c52
         obtain ⟨y161, hy161⟩ : ∃ y_ : List Int, y_ = (([] : List Int)) := ⟨_, rfl⟩
         replace H : (spec_l1Block.l2 k2 l0 x13_2 y161 0) = some r := by first | (rw [hy161]; with_reducible exact H) | (have H2_ := (Option.bind_some _ _).symm.trans H; rw [hy161]; with_reducible exact H2_) | (have H2_ := (Option.bind_some _ _).symm.trans H; with_reducible exact H2_) | with_reducible exact H | (rw [hy161]; exact H) | exact H
         have Ny161 := Aside0.mk hy161
         clear hy161
         have H' := Aside0.mk H
         clear H
         go_wp2_with (first | ((with_reducible refine gate_dst (N := 207) rfl ?_); refine Kd.R_lit (Kd.int .u32) _ 93 ?hg (N := 207) ?hd (xs := ([] : List Int)) (inner := []) (ok := fun _ => True) (okp := fun _ => True) ?hr ?hp (fun _ hk => hk) trivial (Below.refl _ _) (Nat.le_refl _) (by simp) ?_; (case hd => rfl); (case hg => rfl); (case hr => exact zq17); (case hp => exact zq56); intro v162 w77 ho78 hb hg_ hnew_; clear hg_ hnew_; (first | rw [← Ny161.out] at ho78 | (simp only [Int.reduceToNat] at ho78; rw [← Ny161.out] at ho78)); have n0_ := Aside0.mk (Kd.R_elder' zq54 (Kd.R_base ho78) hb); have n1_ := Aside0.mk (Kd.R_elder' zq58 (Kd.R_base ho78) hb); have n2_ := Aside0.mk (Kd.R_lower (Kd.R_new' (Kd.R_new' ho78 (Kd.R_lt zq54)) (Kd.R_lt zq58)) (below_size zq3)); have n3_ := Aside0.mk (below_step zq3 hb); clear HO_7; clear HO_13; clear HB; have HO_7 := n0_; have HO_13 := n1_; have HO163 := n2_; have HB := n3_; clear n0_ n1_ n2_ n3_; clear hb ho78))
         go_loopg [19, 20] k2 (fun kq v19 v20 w' => ∃ (x19_3 : List Int) (x20_3 : Int), v20 = .int .i64 x20_3 ∧ Aside0 (spec_l1Block.l2 kq l0 x13_2 x19_3 x20_3 = some r) ∧ Aside0 (kq ≤ k2) ∧ Aside0 (Kd.R (Kd.int .u32) 93 w' w.heap.size (fun k_ => some k_ ≠ (v19 : Value).ownBlock) u13 x13_2) ∧ Aside0 (Kd.R (Kd.int .u32) 93 w' w.heap.size (fun k_ => some k_ ≠ (u13 : Value).ownBlock) v19 x19_3) ∧ Aside0 (Below w.heap.size w w'))
         case atStart => exact ⟨(y161), (0), zq6, H', ⟨Nat.le_refl _⟩, ⟨zq60⟩, ⟨by (with_reducible repeat (first | apply Kd.R_alloc | apply Kd.R_drewN | apply Kd.R_drew)); first | exact Kd.R_mono HO163.out (fun _ hk => hk.2) | (have h_ := Kd.R_mono HO163.out (fun _ hk => hk.2); simp only [Int.emod_add_emod, Int.add_emod_emod] at h_ ⊢; exact h_)⟩, ⟨zq3⟩⟩
         case round =>
          clear H'
          try clear c1
          try clear p1
          try clear q1
          try clear hx1
          try clear qi1
          try clear p2
          try clear c5
          try clear c6
          try clear p6
          try clear c11
          try clear p14
          try clear q14
          try clear hx14
          try clear qi14
          try clear p15
          try clear q15
          try clear hx15
          try clear qi15
          try clear c52
          try clear c52b0
          try clear c53
          try clear c54
          try clear c55
          try clear c59
          try clear c60
          try clear c61
          try clear c62
          try clear c63
          try clear p64
          try clear c67
          try clear c68
          try clear c69
          try clear hx149_0
          try clear hx150_0
          try clear hx151_0
          try clear hx152_0
          try clear hx153_0
          try clear hx154_0
          try clear hx155_0
          try clear hx156_0
          try clear hx157_0
          try clear p149
          try clear p150
          try clear p151
          try clear p152
          try clear p153
          try clear p154
          try clear p155
          try clear p156
          try clear p157
          try clear q149
          try clear q150
          try clear q151
          try clear q152
          try clear q153
          try clear q154
          try clear q155
          try clear q156
          try clear q157
          obtain ⟨x19_3, x20_3, rfl, HA, HK3, HO_13, HO_19, HB⟩ := hrel
          cases gk with
          | zero => exact absurd HA.out (by simp [spec_l1Block.l2])
          | succ k3 =>
           have H := HA.out
           clear HA
           simp only [spec_l1Block.l2] at H
           by_cases c79 : x20_3 < 8
           ·
            rw [if_pos c79] at H
            have c79b0 : decide (x20_3 < 8) = true := decide_eq_true c79
            clear c79
            by_cases c80 : 0 ≤ x20_3
            ·
             rw [if_pos c80] at H
             have c80b0 : decide (0 ≤ x20_3) = true := decide_eq_true c80
             clear c80
             by_cases c81 : x20_3 < (l0.length : Int)
             ·
              rw [if_pos c81] at H
              have c81b0 : decide (x20_3 < (l0.length : Int)) = true := decide_eq_true c81
              clear c81
              by_cases c82 : x20_3 < (x13_2.length : Int)
              ·
               rw [if_pos c82] at H
               have c82b0 : decide (x20_3 < (x13_2.length : Int)) = true := decide_eq_true c82
               clear c82
               by_cases c83 : x19_3.length < 35184372088832
               ·
                rw [if_pos c83] at H
                have LMc83 := Aside0.mk c83
                clear c83
                obtain ⟨y166, hy166⟩ : ∃ y_ : List Int, y_ = (x19_3 ++ [((rd l0 x20_3) + (rd x13_2 x20_3)) % 4294967296]) := ⟨_, rfl⟩
                replace H : (spec_l1Block.l2 k3 l0 x13_2 y166 (wrap64 (x20_3 + 1))) = some r := by first | (rw [hy166]; with_reducible exact H) | (have H2_ := (Option.bind_some _ _).symm.trans H; rw [hy166]; with_reducible exact H2_) | (have H2_ := (Option.bind_some _ _).symm.trans H; with_reducible exact H2_) | with_reducible exact H | (rw [hy166]; exact H) | exact H
                have Ny166 := Aside0.mk hy166
                clear hy166
                have H' := Aside0.mk H
                clear H
                try go_wp2
                have n0_ := Aside0.mk (Kd.R_drew HO_13.out)
                have n1_ := Aside0.mk (Kd.R_drew HO_19.out)
                have n2_ := Aside0.mk (below_drew1 HB.out)
                clear HO_13
                clear HO_19
                clear HB
                have HO_13 := n0_
                have HO_19 := n1_
                have HB := n2_
                clear n0_ n1_ n2_
                have p164 : 0 ≤ (x20_3 : Int) := of_decide_eq_true zq7
                have q164 : x20_3 < (l0.length : Int) := of_decide_eq_true zq7
                obtain ⟨ad164, e164, hx164_0⟩ := Kd.at_int HR0.out x20_3 p164 q164
                have hw164_0 := hx164_0
                cases e164
                replace hx164_0 := (HB.out.cell (World.block_lt_of_cell? w _ hx164_0)).trans hx164_0
                replace p164 := eq_true p164
                replace q164 := eq_true q164
                obtain ⟨Ao85, co85, eo85⟩ := Kd.R_slice HO_13.out
                (first | subst eo85 | (injection eo85 with f1_ f2_ f3_; have f4_ := f1_.symm; have f5_ := f3_.symm; clear f1_ f2_ f3_; subst f4_; subst f5_))
                have p165 : 0 ≤ (x20_3 : Int) := of_decide_eq_true zq7
                have q165 : x20_3 < (x13_2.length : Int) := of_decide_eq_true zq7
                obtain ⟨ad165, e165, hx165_0⟩ := Kd.at_int (Kd.R_reads' HO_13.out).2.2 x20_3 p165 q165
                cases e165
                replace p165 := eq_true p165
                replace q165 := eq_true q165
                refine start_ (n := 13) (S := fun w' => w'.cell? (ad164.add (x20_3).toNat) = some (.int .u32 (rd l0 x20_3)) ∧ w'.cell? (ad165.add (x20_3).toNat) = some (.int .u32 (rd x13_2 x20_3))) (ds := [10, 11]) (bA 13 0) (by kernel_rfl) rfl rfl ⟨((HB.out.cell (World.block_lt_of_cell? w _ hw164_0)).trans hw164_0), hx165_0⟩ (fun hHeld => ?_); refine with_tabW spec_l1Block.tab25 spec_l1Block.bits25 (fun HT_ HW_ => ?_)
                generalize wr.drew = w84 at HO_13 HO_19 HB hx164_0 hx165_0 hHeld ⊢
                refine pu_ (i := 0) (N := some 212) (bA 13 1) rfl rfl HT_ (by kernel_rfl) (Or.inl ⟨by rfl, zq162⟩) zq163 ?_
                refine pu_ (i := 1) (N := some 213) (bA 13 3) rfl rfl HT_ (by kernel_rfl) (Or.inl ⟨by rfl, zq162⟩) zq163 ?_
                refine pu_ (i := 2) (N := some 214) (bA 13 7) rfl rfl HT_ (by kernel_rfl) (Or.inl ⟨by rfl, zq162⟩) zq163 ?_
                refine pu_ (i := 3) (N := some 215) (bA 13 15) rfl rfl HT_ (by kernel_rfl) (Or.inl ⟨by rfl, zq162⟩) zq163 ?_
                refine pu_ (i := 5) (N := some 217) (bA 13 47) rfl rfl HT_ (by kernel_rfl) (Or.inl ⟨by rfl, zq162⟩) zq163 ?_
                refine pu_ (i := 6) (N := some 218) (bA 13 111) rfl rfl HT_ (by kernel_rfl) (Or.inl ⟨by rfl, zq162⟩) zq163 ?_
                refine pu_ (i := 7) (N := some 219) (bA 13 239) rfl rfl HT_ (by kernel_rfl) (Or.inl ⟨by rfl, zq162⟩) zq163 ?_
                refine tk_ (i := 4) (N := some 216) (bA 13 255) rfl rfl HT_ HW_ (by kernel_rfl) (Or.inl ⟨by rfl, zq170⟩) hHeld zq163 ?_
                refine tk_ (i := 8) (N := some 220) (bA 13 511) rfl rfl HT_ HW_ (by kernel_rfl) (Or.inl ⟨by rfl, zq170⟩) hHeld zq163 ?_
                refine pu_ (i := 9) (N := some 221) (bA 13 1023) rfl rfl HT_ (by kernel_rfl) (Or.inl ⟨by rfl, zq162⟩) zq163 ?_
                refine last_ (i := 10) (N := some 222) (bA 13 2047) rfl rfl (one_of HT_.out (by kernel_rfl)) (by decide) (fun K hK => ?_)
                refine value_ (w1 := ?_) (v := ?_) (by rfl) rfl ?_ ?_
                rotate_left 2
                ·
                 go_simp
                 constructor
                 ·
                  rfl
                 ·
                  rfl
                refine hK.out _ _ ?_
                clear hK K
                refine norm_ (a' := ?_) ?_ ?_
                rotate_left
                ·
                 show Act.put _ (some 222) _ = _
                 simp only [Act.put, List.setIfInBounds_toArray, List.set_cons_zero, List.set_cons_succ, i64_w, i32_w]
                 rfl
                refine last_ (i := 11) (N := some 223) (bA 13 4095) rfl rfl (one_of HT_.out (by kernel_rfl)) (by decide) (fun K hK => ?_)
                refine Kd.R_append_step (Kd.int .u32) (w0 := w) w.heap.size (by rfl) (.tmp 212) (.tmp 222) 90 93 (.int .u32 0) 4 rfl Try.underlying90 info93 rfl (by decide) (by omega) u19 x19_3 (((rd l0 x20_3) + (rd x13_2 x20_3)) % 4294967296) [.int .u32 (((rd l0 x20_3) + (rd x13_2 x20_3)) % 4294967296)] (fun k_ => some k_ ≠ (.slice (some ad165) x13_2.length co85 : Value).ownBlock) (fun _ => False) rfl rfl ?aP (fun _ hk => hk.elim) ?aF ?aO ?aB ?aS ?aL ?_
                (case aP => exact rfl)
                (case aB => exact zq3)
                (case aF => exact (fun k_ hk => Kd.fresh' (Kd.R_lt zq58) k_ hk))
                (case aO => exact (by (with_reducible repeat (first | apply Kd.R_alloc | apply Kd.R_drewN | apply Kd.R_drew)); first | exact HO_19.out | (have h_ := HO_19.out; simp only [Int.emod_add_emod, Int.add_emod_emod] at h_ ⊢; exact h_)))
                (case aS => exact zq136)
                (case aL => have := LMc83.out; omega)
                intro v167 w86 ho hb hg hat
                rw [← Ny166.out] at ho
                have n0_ := Aside0.mk (Kd.R_after (ok := (fun _ => True)) (by (with_reducible repeat (first | apply Kd.R_alloc | apply Kd.R_drewN | apply Kd.R_drew)); first | exact Kd.R_mono HO_13.out (fun _ hk => ⟨trivial, hk⟩) | (have h_ := Kd.R_mono HO_13.out (fun _ hk => ⟨trivial, hk⟩); simp only [Int.emod_add_emod, Int.add_emod_emod] at h_ ⊢; exact h_)) hg hat)
                have n1_ := Aside0.mk (hb)
                have n2_ := Aside0.mk (ho)
                clear HO_13
                clear HB
                clear HO_19
                have HO_13 := n0_
                have HB := n1_
                have HO168 := n2_
                clear n0_ n1_ n2_
                clear ho hb hg hat
                refine hK.out _ _ ?_
                clear hK K
                refine norm_ (a' := ?_) ?_ ?_
                rotate_left
                ·
                 show Act.put _ (some 223) _ = _
                 simp only [Act.put, List.setIfInBounds_toArray, List.set_cons_zero, List.set_cons_succ, i64_w, i32_w]
                 rfl
                refine pu_ (i := 12) (N := some 19) (bA 13 8191) rfl rfl HT_ (by kernel_rfl) (Or.inl ⟨by rfl, zq162⟩) zq163 ?_
                refine done_ (done_of HT_.out (by kernel_rfl)) ?_
                try go_wp2
                go_roundg k3
                case measure => have := HK1.out; have := HK2.out; have := HK3.out; omega
                case rel => exact ⟨(y166), (wrap64 (x20_3 + 1)), zq6, H', ⟨by have := HK1.out; have := HK2.out; have := HK3.out; omega⟩, ⟨zq60⟩, ⟨by (with_reducible repeat (first | apply Kd.R_alloc | apply Kd.R_drewN | apply Kd.R_drew)); first | exact HO168.out | (have h_ := HO168.out; simp only [Int.emod_add_emod, Int.add_emod_emod] at h_ ⊢; exact h_)⟩, ⟨zq3⟩⟩
               ·
                rw [if_neg c83] at H
                exact absurd H (by simp)
              ·
               rw [if_neg c82] at H
               exact absurd H (by simp)
             ·
              rw [if_neg c81] at H
              exact absurd H (by simp)
            ·
             rw [if_neg c80] at H
             exact absurd H (by simp)
           ·
            rw [if_neg c79] at H
            have c79b0 : decide (x20_3 < 8) = false := decide_eq_false c79
            clear c79
            obtain rfl := Option.some.inj H
            go_wp2
            go_ret
            exact ⟨_, zq4, by (with_reducible repeat (first | apply Kd.R_alloc | apply Kd.R_drewN | apply Kd.R_drew)); first | exact Kd.R_mono HO_19.out (fun _ hk => trivial) | (have h_ := Kd.R_mono HO_19.out (fun _ hk => trivial); simp only [Int.emod_add_emod, Int.add_emod_emod] at h_ ⊢; exact h_), zq3⟩
     ·
      rw [if_neg c48] at H
      exact absurd H (by simp)
 exact zq161

end Go.Proofs.Ytacaeebjanglgaa.QFnExactStoreOk
