/- Written by wip/myprint.py of this repo (the kit's print, with additions of this session). -/
import Derived.Test.YtacaeebjanglgaaQFnExactDropBlobx0
import Derived.Test.YtacaeebjanglgaaQFnExactDropBlobx9
import Derived.Test.YtacaeebjanglgaaQFnExactDropBlobx12
set_option maxRecDepth 100000
namespace Go.Proofs.Ytacaeebjanglgaa.QFnExactDropBlob
open Go.RowKit Go.Proofs.YtacaeebjanglgaaW.PrintWords Go.Proofs.YtacaeebjanglgaaW.PrintLast Go.Proofs.YtacaeebjanglgaaW.PrintMore
attribute [local go_sem] max2_int min2_int max_two min_two max_three min_three max_four min_four   -- for this text's walks alone
set_option linter.unusedVariables false
set_option linter.unusedSimpArgs false

attribute [local go_sem high] binOp_leqS binOp_gtrS
/-! ### impl_isStore: function 55 -/
mutual
def impl_isStore.j0 : Nat → Bool → Int → List (S66) → List (S68) → Int → Option (Bool)
 | 0, _, _, _, _, _ => none
 | k + 1, x35, x359000, x359001, x359002, x359003 => if x35 = true then (some false) else (impl_isStore.l0 k x359002 (x359002.length : Int) 0 x359000 x359001 x359002 x359003)
def impl_isStore.l0 : Nat → List (S68) → Int → Int → Int → List (S66) → List (S68) → Int → Option (Bool)
 | 0, _, _, _, _, _, _, _ => none
 | k + 1, x37, x38, x39, x359000, x359001, x359002, x359003 => if x39 < x38 then (if 0 ≤ x39 then (if x39 < (x37.length : Int) then ((impl_in.f ((rd_T68 x37 x39).f0) 1 (wrap64 (x359003 - 1))).bind fun t364 => (if t364 = true then (if x39 > 0 then (if 0 ≤ (wrap64 (x39 - 1)) then (if (wrap64 (x39 - 1)) < (x359002.length : Int) then (if ((rd_T68 x359002 (wrap64 (x39 - 1))).f0) ≥ ((rd_T68 x37 x39).f0) then (some false) else (impl_isStore.l0 k x37 x38 (wrap64 (x39 + 1)) x359000 x359001 x359002 x359003)) else (none)) else (none)) else (impl_isStore.l0 k x37 x38 (wrap64 (x39 + 1)) x359000 x359001 x359002 x359003)) else (some false))) else (none)) else (none)) else (impl_isStore.l1 k x359001 (x359001.length : Int) 0 x359000 x359001 x359002 x359003)
def impl_isStore.l1 : Nat → List (S66) → Int → Int → Int → List (S66) → List (S68) → Int → Option (Bool)
 | 0, _, _, _, _, _, _, _ => none
 | k + 1, x69, x70, x71, x359000, x359001, x359002, x359003 => if x71 < x70 then (if 0 ≤ x71 then (if x71 < (x69.length : Int) then (if x71 > 0 then (if 0 ≤ (wrap64 (x71 - 1)) then (if (wrap64 (x71 - 1)) < (x359001.length : Int) then (if ((Op.bytesLess (((rd_T66 x359001 (wrap64 (x71 - 1))).f0).toList) (((rd_T66 x69 x71).f0).toList)) = true) then ((impl_digestOf.f k ((rd_T66 x69 x71).f1)).bind fun t369 => (if ((rd_T66 x69 x71).f0).toList = t369.toList then (impl_isStore.l1 k x69 x70 (wrap64 (x71 + 1)) x359000 x359001 x359002 x359003) else (some false))) else (some false)) else (none)) else (none)) else ((impl_digestOf.f k ((rd_T66 x69 x71).f1)).bind fun t370 => (if ((rd_T66 x69 x71).f0).toList = t370.toList then (impl_isStore.l1 k x69 x70 (wrap64 (x71 + 1)) x359000 x359001 x359002 x359003) else (some false)))) else (none)) else (none)) else (some true)
end
def impl_isStore.f (k : Nat) (a0_0 : Int) (l0_1 : List (S66)) (l0_2 : List (S68)) (a0_3 : Int) : Option (Bool) := (impl_in.f a0_0 0 200000).bind fun t359 => (if t359 = true then (if (l0_1.length : Int) > 60 then (impl_isStore.j0 k true a0_0 l0_1 l0_2 a0_3) else (if (l0_2.length : Int) > 10 then (impl_isStore.j0 k true a0_0 l0_1 l0_2 a0_3) else ((impl_in.f a0_3 1 1000000000000).bind fun t360 => (if t360 = true then ((impl_used.f k a0_0 l0_1 l0_2 a0_3).bind fun t361 => (impl_isStore.j0 k (decide (t361 > a0_0)) a0_0 l0_1 l0_2 a0_3)) else (impl_isStore.j0 k true a0_0 l0_1 l0_2 a0_3))))) else (impl_isStore.j0 k true a0_0 l0_1 l0_2 a0_3))
theorem impl_isStore.mono_l : ∀ k, (∀ y0 y1 y2 y3 y4, LeO (impl_isStore.j0 k y0 y1 y2 y3 y4) (impl_isStore.j0 (k + 1) y0 y1 y2 y3 y4)) ∧ (∀ y0 y1 y2 y3 y4 y5 y6, LeO (impl_isStore.l0 k y0 y1 y2 y3 y4 y5 y6) (impl_isStore.l0 (k + 1) y0 y1 y2 y3 y4 y5 y6)) ∧ (∀ y0 y1 y2 y3 y4 y5 y6, LeO (impl_isStore.l1 k y0 y1 y2 y3 y4 y5 y6) (impl_isStore.l1 (k + 1) y0 y1 y2 y3 y4 y5 y6))
 | 0 => ⟨fun _ _ _ _ _ r h => by simp [impl_isStore.j0] at h, fun _ _ _ _ _ _ _ r h => by simp [impl_isStore.l0] at h, fun _ _ _ _ _ _ _ r h => by simp [impl_isStore.l1] at h⟩
 | k + 1 => by
  obtain ⟨ih0, ih1, ih2⟩ := impl_isStore.mono_l k
  refine ⟨?_, ?_, ?_⟩
  ·
   intro y0 y1 y2 y3 y4
   unfold impl_isStore.j0
   repeat' first
   | (with_reducible exact ih0 _ _ _ _ _)
   | (with_reducible exact ih1 _ _ _ _ _ _ _)
   | (with_reducible exact ih2 _ _ _ _ _ _ _)
   | (with_reducible exact impl_digestOf.mono _ _)
   | (with_reducible exact impl_used.mono _ _ _ _ _)
   | (with_reducible exact LeO.refl _)
   | (with_reducible exact LeO.none _)
   | (with_reducible refine LeO.ite ?_ ?_)
   | (with_reducible refine LeO.bind ?_ (fun _ => ?_))
   | exact LeO.none _
   | refine LeO.ite ?_ ?_
   | refine LeO.bind ?_ (fun _ => ?_)
  ·
   intro y0 y1 y2 y3 y4 y5 y6
   unfold impl_isStore.l0
   repeat' first
   | (with_reducible exact ih0 _ _ _ _ _)
   | (with_reducible exact ih1 _ _ _ _ _ _ _)
   | (with_reducible exact ih2 _ _ _ _ _ _ _)
   | (with_reducible exact impl_digestOf.mono _ _)
   | (with_reducible exact impl_used.mono _ _ _ _ _)
   | (with_reducible exact LeO.refl _)
   | (with_reducible exact LeO.none _)
   | (with_reducible refine LeO.ite ?_ ?_)
   | (with_reducible refine LeO.bind ?_ (fun _ => ?_))
   | exact LeO.none _
   | refine LeO.ite ?_ ?_
   | refine LeO.bind ?_ (fun _ => ?_)
  intro y0 y1 y2 y3 y4 y5 y6
  unfold impl_isStore.l1
  repeat' first
  | (with_reducible exact ih0 _ _ _ _ _)
  | (with_reducible exact ih1 _ _ _ _ _ _ _)
  | (with_reducible exact ih2 _ _ _ _ _ _ _)
  | (with_reducible exact impl_digestOf.mono _ _)
  | (with_reducible exact impl_used.mono _ _ _ _ _)
  | (with_reducible exact LeO.refl _)
  | (with_reducible exact LeO.none _)
  | (with_reducible refine LeO.ite ?_ ?_)
  | (with_reducible refine LeO.bind ?_ (fun _ => ?_))
  | exact LeO.none _
  | refine LeO.ite ?_ ?_
  | refine LeO.bind ?_ (fun _ => ?_)
theorem impl_isStore.mono : ∀ a0 a1 a2 a3 k, LeO (impl_isStore.f k a0 a1 a2 a3) (impl_isStore.f (k + 1) a0 a1 a2 a3) := by
 intro a0 a1 a2 a3 k
 obtain ⟨ih0, ih1, ih2⟩ := impl_isStore.mono_l k
 unfold impl_isStore.f
 repeat' first
   | (with_reducible exact ih0 _ _ _ _ _)
   | (with_reducible exact ih1 _ _ _ _ _ _ _)
   | (with_reducible exact ih2 _ _ _ _ _ _ _)
   | (with_reducible exact impl_digestOf.mono _ _)
   | (with_reducible exact impl_used.mono _ _ _ _ _)
   | (with_reducible exact LeO.refl _)
   | (with_reducible exact LeO.none _)
   | (with_reducible refine LeO.ite ?_ ?_)
   | (with_reducible refine LeO.bind ?_ (fun _ => ?_))
   | exact LeO.none _
   | refine LeO.ite ?_ ?_
   | refine LeO.bind ?_ (fun _ => ?_)
def impl_isStore.T1 : Bool × List (List Nat × List Nat) := (true, [([], []), ([0], [0]), ([1], [1]), ([2], [2]), ([3, 2], [3]), ([4], [4]), ([5, 4], [4, 5]), ([6, 4], [4, 6]), ([7, 4], [4, 7]), ([4, 8], [4, 8]), ([9, 4], [9]), ([10], [10]), ([11, 10], [10, 11]), ([12, 10], [10, 12]), ([13, 10], [10, 13]), ([10, 14], [10, 14]), ([15, 10], [15]), ([16], [16]), ([17, 16], [16, 17]), ([18, 16, 16], [16, 18]), ([19, 16], [16, 19]), ([16, 20], [16, 20]), ([21, 19], [21]), ([22], [22]), ([23, 22, 22], [22, 23]), ([22], [22]), ([25, 22], [22, 25]), ([24, 26, 22], [22, 24, 26]), ([22, 27], [22, 27])])
def impl_isStore.B1 : List Nat := [0, 1, 3, 7, 15, 31, 63, 127, 255, 511, 1023, 2047, 4095, 8191, 16383, 32767, 65535, 131071, 262143, 524287, 1048575, 2097151, 4194303, 8388607, 16777215, 8388607, 41943039, 134217727, 268435455]
theorem impl_isStore.tab1 : rtab .any (opsOf Try.f55 1) = impl_isStore.T1 := by kernel_rfl
theorem impl_isStore.bits1 : waitsOk impl_isStore.T1.2 impl_isStore.B1 = true := by kernel_rfl
def impl_isStore.T6 : Bool × List (List Nat × List Nat) := (true, [([], []), ([0], [0]), ([], []), ([2], [2]), ([3], [3]), ([1, 4], [1, 4]), ([5], [5]), ([6, 5], [6]), ([7], [7]), ([8, 7], [7, 8]), ([9, 7, 7], [7, 9]), ([10], [10]), ([11, 10], [10, 11]), ([10], [10]), ([13, 10], [10, 13]), ([12, 14, 10], [10, 12, 14]), ([15, 10], [10, 15]), ([16, 10], [10, 16]), ([10], [10]), ([18, 10], [10, 18]), ([17, 19, 10], [10, 17, 19]), ([10, 20, 7], [7, 10, 20]), ([7, 21], [7, 21])])
def impl_isStore.B6 : List Nat := [0, 1, 0, 4, 12, 31, 63, 127, 255, 511, 1023, 2047, 4095, 2047, 10239, 32767, 65535, 131071, 2047, 264191, 1048575, 2097151, 4194303]
theorem impl_isStore.tab6 : rtab .any (opsOf Try.f55 6) = impl_isStore.T6 := by kernel_rfl
theorem impl_isStore.bits6 : waitsOk impl_isStore.T6.2 impl_isStore.B6 = true := by kernel_rfl
def impl_isStore.T12 : Bool × List (List Nat × List Nat) := (true, [([], []), ([0], [0]), ([1], [1]), ([2], [2]), ([3, 2], [2, 3]), ([2], [2]), ([5, 2], [2, 5]), ([4, 6, 2], [2, 4, 6]), ([7, 2], [2, 7]), ([8, 2], [2, 8]), ([2], [2]), ([10, 2], [2, 10]), ([9, 11, 2], [2, 9, 11]), ([2, 12], [2, 12]), ([13, 2], [13]), ([14], [14]), ([15, 14], [14, 15]), ([14], [14]), ([17, 14], [14, 17]), ([18, 14, 14], [14, 18]), ([16, 19, 14], [14, 16, 19]), ([14, 20], [14, 20])])
def impl_isStore.B12 : List Nat := [0, 1, 3, 7, 15, 7, 39, 127, 255, 511, 7, 1031, 4095, 8191, 16383, 32767, 65535, 32767, 163839, 425983, 1048575, 2097151]
theorem impl_isStore.tab12 : rtab .any (opsOf Try.f55 12) = impl_isStore.T12 := by kernel_rfl
theorem impl_isStore.bits12 : waitsOk impl_isStore.T12.2 impl_isStore.B12 = true := by kernel_rfl
set_option maxHeartbeats 8000000 in
set_option maxRecDepth 100000 in
theorem impl_isStore.calls (k : Nat) (a0_0 : Int) (A0_1 : Option Addr) (c0_1 : Nat) (l0_1 : List (S66)) (A0_2 : Option Addr) (c0_2 : Nat) (l0_2 : List (S68)) (a0_3 : Int) (r : Bool) (w : World) (hr0_1 : Kd.C k66 w A0_1 l0_1.length l0_1) (hc0_1 : l0_1.length ≤ c0_1) (hr0_2 : Kd.C k68 w A0_2 l0_2.length l0_2) (hc0_2 : l0_2.length ≤ c0_2) (h : impl_isStore.f k a0_0 l0_1 l0_2 a0_3 = some r) :
  Calls Try.prog 55 #[.agg #[.int .i64 a0_0, .slice A0_1 l0_1.length c0_1, .slice A0_2 l0_2.length c0_2, .int .i64 a0_3]] w fun e w' => e = .returned (.bool r) ∧ Below w.heap.size w w' := by
 have hu31 := Try.underlying31
 have hu68 := Try.underlying68
 have hu66 := Try.underlying66
 have HR0_1 := Aside0.mk hr0_1
 have HC0_1 := Aside0.mk hc0_1
 clear hr0_1 hc0_1
 have HR0_2 := Aside0.mk hr0_2
 have HC0_2 := Aside0.mk hc0_2
 clear hr0_2 hc0_2
 have HB := Aside0.mk (Below.refl w.heap.size w)
 have H : ((impl_in.f a0_0 0 200000).bind fun t359 => (if t359 = true then (if (l0_1.length : Int) > 60 then (impl_isStore.j0 k true a0_0 l0_1 l0_2 a0_3) else (if (l0_2.length : Int) > 10 then (impl_isStore.j0 k true a0_0 l0_1 l0_2 a0_3) else ((impl_in.f a0_3 1 1000000000000).bind fun t360 => (if t360 = true then ((impl_used.f k a0_0 l0_1 l0_2 a0_3).bind fun t361 => (impl_isStore.j0 k (decide (t361 > a0_0)) a0_0 l0_1 l0_2 a0_3)) else (impl_isStore.j0 k true a0_0 l0_1 l0_2 a0_3))))) else (impl_isStore.j0 k true a0_0 l0_1 l0_2 a0_3))) = some r := h
 clear h
 have HC2 := Aside0.mk H
 clear H
 go_enter Try.func55, Try.ntmps55
 go_upto_region 1 with (first | ((with_reducible refine gate_dst (N := 1) rfl ?_); (try (refine gate_guard (by rfl) ?_; dsimp only)); refine box_event ?hg (N := 1) ?hd (cs := #[.int .i64 a0_0, .slice A0_1 l0_1.length c0_1, .slice A0_2 l0_2.length c0_2, .int .i64 a0_3]) (t := 31) ?hr ?_; (case hd => rfl); (case hg => rfl); (case hr => exact zq2); intro gb358 hg w3 hbox hb; have BK358 := Aside0.mk hbox; have GW358 := Aside0.mk (zq254 : w.heap.size ≤ gb358); have GE358 := Aside0.mk (zq254 : w.heap.size ≤ gb358); replace HB := sB zq3 hb; clear hb hbox hg))
 (try simp only [Act.put, List.setIfInBounds_toArray, List.set_cons_zero, List.set_cons_succ])
 go_cut [35] (fun v35 wc => ∃ (kq : Nat) (x35_1 : Bool), v35 = .bool x35_1 ∧ Aside0 (impl_isStore.j0 kq x35_1 a0_0 l0_1 l0_2 a0_3 = some r) ∧ Aside0 (kq ≤ k) ∧ Aside0 (wc.heap[gb358]? = some (.cells #[.int .i64 a0_0, (.slice A0_1 l0_1.length c0_1), (.slice A0_2 l0_2.length c0_2), .int .i64 a0_3] 31 (0, 0))) ∧ Aside0 (Below w.heap.size w wc))
 case first =>
  have H := HC2.out
  clear HC2
  replace H := Option.bind_eq_some_iff.mp H
  obtain ⟨t359, A40, H⟩ := H
  try dsimp only at H
  have A4 := Aside0.mk A40
  clear A40
  by_cases c5 : t359 = true
  ·
   subst c5
   have H1 : (if (l0_1.length : Int) > 60 then (impl_isStore.j0 k true a0_0 l0_1 l0_2 a0_3) else (if (l0_2.length : Int) > 10 then (impl_isStore.j0 k true a0_0 l0_1 l0_2 a0_3) else ((impl_in.f a0_3 1 1000000000000).bind fun t360 => (if t360 = true then ((impl_used.f k a0_0 l0_1 l0_2 a0_3).bind fun t361 => (impl_isStore.j0 k (decide (t361 > a0_0)) a0_0 l0_1 l0_2 a0_3)) else (impl_isStore.j0 k true a0_0 l0_1 l0_2 a0_3))))) = some r := by rw [if_pos rfl] at H; exact H
   clear H
   have H := H1
   clear H1
   by_cases c6 : (l0_1.length : Int) > 60
   ·
    rw [if_pos c6] at H
    have c6b0 : decide (60 < (l0_1.length : Int)) = true := decide_eq_true c6
    have c6b1 : decide (60 < l0_1.length) = true := decide_eq_true (by omega)
    clear c6
    (first | rw [c6b0] | (simp only [i64_w, i32_w]; rw [c6b0]) | skip)
    have H' := Aside0.mk H
    clear H
    try go_wp2
    replace BK358 := Aside0.mk (blk_drew BK358.out)
    replace HB := Aside0.mk (below_drew1 HB.out)
    refine start_ (n := 29) (S := fun w' => w'.cell? ⟨gb358, 0, none⟩ = some (.int .i64 a0_0) ∧ w'.cell? ⟨gb358, 1, none⟩ = some (.slice A0_1 l0_1.length c0_1) ∧ w'.cell? ⟨gb358, 2, none⟩ = some (.slice A0_2 l0_2.length c0_2) ∧ w'.cell? ⟨gb358, 3, none⟩ = some (.int .i64 a0_3)) (ds := []) (bA 29 0) (by kernel_rfl) rfl rfl ⟨(blk_cell BK358.out 0).trans rfl, (blk_cell BK358.out 1).trans rfl, (blk_cell BK358.out 2).trans rfl, (blk_cell BK358.out 3).trans rfl⟩ (fun hHeld => ?_); refine with_tabW impl_isStore.tab1 impl_isStore.bits1 (fun HT_ HW_ => ?_)
    generalize w3.drew = w7 at BK358 HB hHeld ⊢
    refine pV 0 7 29 1 ?_
    refine tV 1 8 29 3 rfl zq321 ?_
    refine one_ (i := 2) (N := some 9) (bA 29 7) rfl rfl (one_of HT_.out (by kernel_rfl)) (by decide) (fun K hK => ?_)
    refine goes_ Try.func90 (by kernel_rfl) rfl #[.int .i64 a0_0, .int .i64 0, .int .i64 200000] (by rfl) rfl rfl zq8 ?_
    with_reducible refine (impl_in.calls a0_0 0 200000 true _ A4.out).mono ?_
    rintro e w' ⟨rfl, ⟨nd, rfl⟩⟩
    refine ⟨_, rfl, ?_⟩
    refine hK.out _ _ ⟨(blk_cell BK358.out 0).trans rfl, (blk_cell BK358.out 1).trans rfl, (blk_cell BK358.out 2).trans rfl, (blk_cell BK358.out 3).trans rfl⟩ (fun hHeld => ?_)
    clear hK K
    refine norm_ (a' := ?_) ?_ ?_
    rotate_left
    exact zq322
    refine pV 3 10 29 15 ?_
    refine pV 4 11 29 31 ?_
    refine pV 5 12 29 63 ?_
    refine tV 6 13 29 127 rfl zq321 ?_
    refine pV 7 14 29 255 ?_
    refine pV 8 15 29 511 ?_
    refine pV 9 16 29 1023 ?_
    refine pV 10 17 29 2047 ?_
    refine pU 11 18 29 4095 ?_
    refine pU 12 19 29 8191 ?_
    refine pU 13 20 29 16383 ?_
    refine pU 14 21 29 32767 ?_
    refine pV 15 22 29 65535 ?_
    refine pV 16 23 29 131071 ?_
    refine pU 17 24 29 262143 ?_
    refine pU 18 25 29 524287 ?_
    refine pU 19 26 29 1048575 ?_
    refine pU 20 27 29 2097151 ?_
    refine pV 21 28 29 4194303 ?_
    refine pV 22 29 29 8388607 ?_
    refine pU 23 30 29 16777215 ?_
    refine pU 24 31 29 33554431 ?_
    refine pU 25 32 29 67108863 ?_
    refine pU 26 33 29 134217727 ?_
    refine pU 27 34 29 268435455 ?_
    refine pV 28 35 29 536870911 ?_
    refine done_ (done_of HT_.out (by kernel_rfl)) ?_
    try go_wp2
    go_meet
    case rel => exact ⟨_, (true), zq6, H', ⟨zq51⟩, ⟨zq52⟩, ⟨zq53⟩⟩
   rw [if_neg c6] at H
   have c6b0 : decide (60 < (l0_1.length : Int)) = false := decide_eq_false c6
   have c6b1 : decide (60 < l0_1.length) = false := decide_eq_false (by omega)
   clear c6
   (first | rw [c6b0] | (simp only [i64_w, i32_w]; rw [c6b0]) | skip)
   by_cases c8 : (l0_2.length : Int) > 10
   ·
    rw [if_pos c8] at H
    have c8b0 : decide (10 < (l0_2.length : Int)) = true := decide_eq_true c8
    have c8b1 : decide (10 < l0_2.length) = true := decide_eq_true (by omega)
    clear c8
    have H' := Aside0.mk H
    clear H
    try go_wp2
    replace BK358 := Aside0.mk (blk_drew BK358.out)
    replace HB := Aside0.mk (below_drew1 HB.out)
    refine start_ (n := 29) (S := fun w' => w'.cell? ⟨gb358, 0, none⟩ = some (.int .i64 a0_0) ∧ w'.cell? ⟨gb358, 1, none⟩ = some (.slice A0_1 l0_1.length c0_1) ∧ w'.cell? ⟨gb358, 2, none⟩ = some (.slice A0_2 l0_2.length c0_2) ∧ w'.cell? ⟨gb358, 3, none⟩ = some (.int .i64 a0_3)) (ds := []) (bA 29 0) (by kernel_rfl) rfl rfl ⟨(blk_cell BK358.out 0).trans rfl, (blk_cell BK358.out 1).trans rfl, (blk_cell BK358.out 2).trans rfl, (blk_cell BK358.out 3).trans rfl⟩ (fun hHeld => ?_); refine with_tabW impl_isStore.tab1 impl_isStore.bits1 (fun HT_ HW_ => ?_)
    generalize w3.drew = w9 at BK358 HB hHeld ⊢
    refine pV 0 7 29 1 ?_
    refine tV 1 8 29 3 rfl zq321 ?_
    refine one_ (i := 2) (N := some 9) (bA 29 7) rfl rfl (one_of HT_.out (by kernel_rfl)) (by decide) (fun K hK => ?_)
    refine goes_ Try.func90 (by kernel_rfl) rfl #[.int .i64 a0_0, .int .i64 0, .int .i64 200000] (by rfl) rfl rfl zq8 ?_
    with_reducible refine (impl_in.calls a0_0 0 200000 true _ A4.out).mono ?_
    rintro e w' ⟨rfl, ⟨nd, rfl⟩⟩
    refine ⟨_, rfl, ?_⟩
    refine hK.out _ _ ⟨(blk_cell BK358.out 0).trans rfl, (blk_cell BK358.out 1).trans rfl, (blk_cell BK358.out 2).trans rfl, (blk_cell BK358.out 3).trans rfl⟩ (fun hHeld => ?_)
    clear hK K
    refine norm_ (a' := ?_) ?_ ?_
    rotate_left
    exact zq322
    refine pV 3 10 29 15 ?_
    refine pV 4 11 29 31 ?_
    refine pV 5 12 29 63 ?_
    refine tV 6 13 29 127 rfl zq321 ?_
    refine pV 7 14 29 255 ?_
    refine pV 8 15 29 511 ?_
    refine pV 9 16 29 1023 ?_
    refine pV 10 17 29 2047 ?_
    refine pV 11 18 29 4095 ?_
    refine tV 12 19 29 8191 rfl zq321 ?_
    refine pV 13 20 29 16383 ?_
    refine pV 14 21 29 32767 ?_
    refine pV 15 22 29 65535 ?_
    refine pV 16 23 29 131071 ?_
    refine pU 17 24 29 262143 ?_
    refine pU 18 25 29 524287 ?_
    refine pU 19 26 29 1048575 ?_
    refine pU 20 27 29 2097151 ?_
    refine pV 21 28 29 4194303 ?_
    refine pV 22 29 29 8388607 ?_
    refine pU 23 30 29 16777215 ?_
    refine pU 24 31 29 33554431 ?_
    refine pU 25 32 29 67108863 ?_
    refine pU 26 33 29 134217727 ?_
    refine pU 27 34 29 268435455 ?_
    refine pV 28 35 29 536870911 ?_
    refine done_ (done_of HT_.out (by kernel_rfl)) ?_
    try go_wp2
    go_meet
    case rel => exact ⟨_, (true), zq6, H', ⟨zq51⟩, ⟨zq52⟩, ⟨zq53⟩⟩
   rw [if_neg c8] at H
   have c8b0 : decide (10 < (l0_2.length : Int)) = false := decide_eq_false c8
   have c8b1 : decide (10 < l0_2.length) = false := decide_eq_false (by omega)
   clear c8
   replace H := Option.bind_eq_some_iff.mp H
   obtain ⟨t360, A100, H⟩ := H
   try dsimp only at H
   have A10 := Aside0.mk A100
   clear A100
   by_cases c11 : t360 = true
   ·
    subst c11
    have H1 : ((impl_used.f k a0_0 l0_1 l0_2 a0_3).bind fun t361 => (impl_isStore.j0 k (decide (t361 > a0_0)) a0_0 l0_1 l0_2 a0_3)) = some r := by rw [if_pos rfl] at H; exact H
    clear H
    have H := H1
    clear H1
    replace H := Option.bind_eq_some_iff.mp H
    obtain ⟨t361, A120, H⟩ := H
    try dsimp only at H
    have A12 := Aside0.mk A120
    clear A120
    have H' := Aside0.mk H
    clear H
    try go_wp2
    replace BK358 := Aside0.mk (blk_drew BK358.out)
    replace HB := Aside0.mk (below_drew1 HB.out)
    refine start_ (n := 29) (S := fun w' => w'.cell? ⟨gb358, 0, none⟩ = some (.int .i64 a0_0) ∧ w'.cell? ⟨gb358, 1, none⟩ = some (.slice A0_1 l0_1.length c0_1) ∧ w'.cell? ⟨gb358, 2, none⟩ = some (.slice A0_2 l0_2.length c0_2) ∧ w'.cell? ⟨gb358, 3, none⟩ = some (.int .i64 a0_3)) (ds := []) (bA 29 0) (by kernel_rfl) rfl rfl ⟨(blk_cell BK358.out 0).trans rfl, (blk_cell BK358.out 1).trans rfl, (blk_cell BK358.out 2).trans rfl, (blk_cell BK358.out 3).trans rfl⟩ (fun hHeld => ?_); refine with_tabW impl_isStore.tab1 impl_isStore.bits1 (fun HT_ HW_ => ?_)
    generalize w3.drew = w13 at BK358 HB hHeld ⊢
    refine pV 0 7 29 1 ?_
    refine tV 1 8 29 3 rfl zq321 ?_
    refine one_ (i := 2) (N := some 9) (bA 29 7) rfl rfl (one_of HT_.out (by kernel_rfl)) (by decide) (fun K hK => ?_)
    refine goes_ Try.func90 (by kernel_rfl) rfl #[.int .i64 a0_0, .int .i64 0, .int .i64 200000] (by rfl) rfl rfl zq8 ?_
    with_reducible refine (impl_in.calls a0_0 0 200000 true _ A4.out).mono ?_
    rintro e w' ⟨rfl, ⟨nd, rfl⟩⟩
    refine ⟨_, rfl, ?_⟩
    refine hK.out _ _ ⟨(blk_cell BK358.out 0).trans rfl, (blk_cell BK358.out 1).trans rfl, (blk_cell BK358.out 2).trans rfl, (blk_cell BK358.out 3).trans rfl⟩ (fun hHeld => ?_)
    clear hK K
    refine norm_ (a' := ?_) ?_ ?_
    rotate_left
    exact zq322
    refine pV 3 10 29 15 ?_
    refine pV 4 11 29 31 ?_
    refine pV 5 12 29 63 ?_
    refine tV 6 13 29 127 rfl zq321 ?_
    refine pV 7 14 29 255 ?_
    refine pV 8 15 29 511 ?_
    refine pV 9 16 29 1023 ?_
    refine pV 10 17 29 2047 ?_
    refine pV 11 18 29 4095 ?_
    refine tV 12 19 29 8191 rfl zq321 ?_
    refine pV 13 20 29 16383 ?_
    refine pV 14 21 29 32767 ?_
    refine pV 15 22 29 65535 ?_
    refine pV 16 23 29 131071 ?_
    refine pV 17 24 29 262143 ?_
    refine tV 18 25 29 524287 rfl zq321 ?_
    refine one_ (i := 19) (N := some 26) (bA 29 1048575) rfl rfl (one_of HT_.out (by kernel_rfl)) (by decide) (fun K hK => ?_)
    refine goes_ Try.func90 (by kernel_rfl) rfl #[.int .i64 a0_3, .int .i64 1, .int .i64 1000000000000] (by rfl) rfl rfl zq8 ?_
    with_reducible refine (impl_in.calls a0_3 1 1000000000000 true _ A10.out).mono ?_
    rintro e w' ⟨rfl, ⟨nd, rfl⟩⟩
    refine ⟨_, rfl, ?_⟩
    refine hK.out _ _ ⟨(blk_cell BK358.out 0).trans rfl, (blk_cell BK358.out 1).trans rfl, (blk_cell BK358.out 2).trans rfl, (blk_cell BK358.out 3).trans rfl⟩ (fun hHeld => ?_)
    clear hK K
    refine norm_ (a' := ?_) ?_ ?_
    rotate_left
    exact zq323
    refine pV 20 27 29 2097151 ?_
    refine pV 21 28 29 4194303 ?_
    refine pV 22 29 29 8388607 ?_
    refine pV 25 32 29 41943039 ?_
    refine tV 23 30 29 50331647 rfl zq321 ?_
    refine tV 26 33 29 117440511 rfl zq321 ?_
    refine one_ (i := 24) (N := some 31) (bA 29 134217727) rfl rfl (one_of HT_.out (by kernel_rfl)) (by decide) (fun K hK => ?_)
    refine goes_ Try.func58 (by kernel_rfl) rfl #[.agg #[.int .i64 a0_0, .slice A0_1 l0_1.length c0_1, .slice A0_2 l0_2.length c0_2, .int .i64 a0_3]] (by rfl) rfl rfl zq8 ?_
    with_reducible refine (impl_used.calls k a0_0 _ _ l0_1 _ _ l0_2 a0_3 t361 _ ?side1 ?side2 ?side3 ?side4 A12.out).mono ?_
    (case side1 => repeat (first | exact (Kd.C_below HR0_1.out zq53) | (with_reducible refine Kd.C_alloc ?_ _) | (with_reducible refine Kd.C_drewN ?_ _) | (with_reducible refine Kd.C_drew ?_)))
    (case side2 => exact zq12)
    (case side3 => repeat (first | exact (Kd.C_below HR0_2.out zq53) | (with_reducible refine Kd.C_alloc ?_ _) | (with_reducible refine Kd.C_drewN ?_ _) | (with_reducible refine Kd.C_drew ?_)))
    (case side4 => exact zq16)
    rintro e w14 ⟨rfl, hb⟩
    refine ⟨_, rfl, ?_⟩
    replace BK358 := bF BK358 zq52 hb
    replace HB := sB zq53 hb
    (try clear hb)
    (try clear hb2)
    (try clear hk)
    (try clear hi)
    refine hK.out _ _ ⟨(blk_cell BK358.out 0).trans rfl, (blk_cell BK358.out 1).trans rfl, (blk_cell BK358.out 2).trans rfl, (blk_cell BK358.out 3).trans rfl⟩ (fun hHeld => ?_)
    clear hK K
    refine norm_ (a' := ?_) ?_ ?_
    rotate_left
    ·
     show Act.put _ (some 31) _ = _
     simp only [Act.put, List.setIfInBounds_toArray, List.set_cons_zero, List.set_cons_succ, i64_w, i32_w]
     rfl
    refine pV 27 34 29 268435455 ?_
    refine pV 28 35 29 536870911 ?_
    refine done_ (done_of HT_.out (by kernel_rfl)) ?_
    try go_wp2
    go_meet
    case rel => exact ⟨_, (decide (t361 > a0_0)), zq6, H', ⟨zq51⟩, ⟨zq52⟩, ⟨zq53⟩⟩
   replace c11 := Bool.eq_false_iff.mpr c11
   subst c11
   have H1 : (impl_isStore.j0 k true a0_0 l0_1 l0_2 a0_3) = some r := by rw [if_neg (show ¬ (false = true) by decide)] at H; exact H
   clear H
   have H := H1
   clear H1
   have H' := Aside0.mk H
   clear H
   try go_wp2
   replace BK358 := Aside0.mk (blk_drew BK358.out)
   replace HB := Aside0.mk (below_drew1 HB.out)
   refine start_ (n := 29) (S := fun w' => w'.cell? ⟨gb358, 0, none⟩ = some (.int .i64 a0_0) ∧ w'.cell? ⟨gb358, 1, none⟩ = some (.slice A0_1 l0_1.length c0_1) ∧ w'.cell? ⟨gb358, 2, none⟩ = some (.slice A0_2 l0_2.length c0_2) ∧ w'.cell? ⟨gb358, 3, none⟩ = some (.int .i64 a0_3)) (ds := []) (bA 29 0) (by kernel_rfl) rfl rfl ⟨(blk_cell BK358.out 0).trans rfl, (blk_cell BK358.out 1).trans rfl, (blk_cell BK358.out 2).trans rfl, (blk_cell BK358.out 3).trans rfl⟩ (fun hHeld => ?_); refine with_tabW impl_isStore.tab1 impl_isStore.bits1 (fun HT_ HW_ => ?_)
   generalize w3.drew = w15 at BK358 HB hHeld ⊢
   refine pV 0 7 29 1 ?_
   refine tV 1 8 29 3 rfl zq321 ?_
   refine one_ (i := 2) (N := some 9) (bA 29 7) rfl rfl (one_of HT_.out (by kernel_rfl)) (by decide) (fun K hK => ?_)
   refine goes_ Try.func90 (by kernel_rfl) rfl #[.int .i64 a0_0, .int .i64 0, .int .i64 200000] (by rfl) rfl rfl zq8 ?_
   with_reducible refine (impl_in.calls a0_0 0 200000 true _ A4.out).mono ?_
   rintro e w' ⟨rfl, ⟨nd, rfl⟩⟩
   refine ⟨_, rfl, ?_⟩
   refine hK.out _ _ ⟨(blk_cell BK358.out 0).trans rfl, (blk_cell BK358.out 1).trans rfl, (blk_cell BK358.out 2).trans rfl, (blk_cell BK358.out 3).trans rfl⟩ (fun hHeld => ?_)
   clear hK K
   refine norm_ (a' := ?_) ?_ ?_
   rotate_left
   exact zq322
   refine pV 3 10 29 15 ?_
   refine pV 4 11 29 31 ?_
   refine pV 5 12 29 63 ?_
   refine tV 6 13 29 127 rfl zq321 ?_
   refine pV 7 14 29 255 ?_
   refine pV 8 15 29 511 ?_
   refine pV 9 16 29 1023 ?_
   refine pV 10 17 29 2047 ?_
   refine pV 11 18 29 4095 ?_
   refine tV 12 19 29 8191 rfl zq321 ?_
   refine pV 13 20 29 16383 ?_
   refine pV 14 21 29 32767 ?_
   refine pV 15 22 29 65535 ?_
   refine pV 16 23 29 131071 ?_
   refine pV 17 24 29 262143 ?_
   refine tV 18 25 29 524287 rfl zq321 ?_
   refine one_ (i := 19) (N := some 26) (bA 29 1048575) rfl rfl (one_of HT_.out (by kernel_rfl)) (by decide) (fun K hK => ?_)
   refine goes_ Try.func90 (by kernel_rfl) rfl #[.int .i64 a0_3, .int .i64 1, .int .i64 1000000000000] (by rfl) rfl rfl zq8 ?_
   with_reducible refine (impl_in.calls a0_3 1 1000000000000 false _ A10.out).mono ?_
   rintro e w' ⟨rfl, ⟨nd, rfl⟩⟩
   refine ⟨_, rfl, ?_⟩
   refine hK.out _ _ ⟨(blk_cell BK358.out 0).trans rfl, (blk_cell BK358.out 1).trans rfl, (blk_cell BK358.out 2).trans rfl, (blk_cell BK358.out 3).trans rfl⟩ (fun hHeld => ?_)
   clear hK K
   refine norm_ (a' := ?_) ?_ ?_
   rotate_left
   exact zq323
   refine pV 20 27 29 2097151 ?_
   refine pV 21 28 29 4194303 ?_
   refine pV 22 29 29 8388607 ?_
   refine pU 23 30 29 16777215 ?_
   refine pU 24 31 29 33554431 ?_
   refine pU 25 32 29 67108863 ?_
   refine pU 26 33 29 134217727 ?_
   refine pU 27 34 29 268435455 ?_
   refine pV 28 35 29 536870911 ?_
   refine done_ (done_of HT_.out (by kernel_rfl)) ?_
   try go_wp2
   go_meet
   case rel => exact ⟨_, (true), zq6, H', ⟨zq51⟩, ⟨zq52⟩, ⟨zq53⟩⟩
  replace c5 := Bool.eq_false_iff.mpr c5
  subst c5
  have H1 : (impl_isStore.j0 k true a0_0 l0_1 l0_2 a0_3) = some r := by rw [if_neg (show ¬ (false = true) by decide)] at H; exact H
  clear H
  have H := H1
  clear H1
  have H' := Aside0.mk H
  clear H
  try go_wp2
  replace BK358 := Aside0.mk (blk_drew BK358.out)
  replace HB := Aside0.mk (below_drew1 HB.out)
  refine start_ (n := 29) (S := fun w' => w'.cell? ⟨gb358, 0, none⟩ = some (.int .i64 a0_0) ∧ w'.cell? ⟨gb358, 1, none⟩ = some (.slice A0_1 l0_1.length c0_1) ∧ w'.cell? ⟨gb358, 2, none⟩ = some (.slice A0_2 l0_2.length c0_2) ∧ w'.cell? ⟨gb358, 3, none⟩ = some (.int .i64 a0_3)) (ds := []) (bA 29 0) (by kernel_rfl) rfl rfl ⟨(blk_cell BK358.out 0).trans rfl, (blk_cell BK358.out 1).trans rfl, (blk_cell BK358.out 2).trans rfl, (blk_cell BK358.out 3).trans rfl⟩ (fun hHeld => ?_); refine with_tabW impl_isStore.tab1 impl_isStore.bits1 (fun HT_ HW_ => ?_)
  generalize w3.drew = w16 at BK358 HB hHeld ⊢
  refine pV 0 7 29 1 ?_
  refine tV 1 8 29 3 rfl zq321 ?_
  refine one_ (i := 2) (N := some 9) (bA 29 7) rfl rfl (one_of HT_.out (by kernel_rfl)) (by decide) (fun K hK => ?_)
  refine goes_ Try.func90 (by kernel_rfl) rfl #[.int .i64 a0_0, .int .i64 0, .int .i64 200000] (by rfl) rfl rfl zq8 ?_
  with_reducible refine (impl_in.calls a0_0 0 200000 false _ A4.out).mono ?_
  rintro e w' ⟨rfl, ⟨nd, rfl⟩⟩
  refine ⟨_, rfl, ?_⟩
  refine hK.out _ _ ⟨(blk_cell BK358.out 0).trans rfl, (blk_cell BK358.out 1).trans rfl, (blk_cell BK358.out 2).trans rfl, (blk_cell BK358.out 3).trans rfl⟩ (fun hHeld => ?_)
  clear hK K
  refine norm_ (a' := ?_) ?_ ?_
  rotate_left
  exact zq322
  refine pV 3 10 29 15 ?_
  refine pV 4 11 29 31 ?_
  refine pU 5 12 29 63 ?_
  refine pU 6 13 29 127 ?_
  refine pU 7 14 29 255 ?_
  refine pU 8 15 29 511 ?_
  refine pV 9 16 29 1023 ?_
  refine pV 10 17 29 2047 ?_
  refine pU 11 18 29 4095 ?_
  refine pU 12 19 29 8191 ?_
  refine pU 13 20 29 16383 ?_
  refine pU 14 21 29 32767 ?_
  refine pV 15 22 29 65535 ?_
  refine pV 16 23 29 131071 ?_
  refine pU 17 24 29 262143 ?_
  refine pU 18 25 29 524287 ?_
  refine pU 19 26 29 1048575 ?_
  refine pU 20 27 29 2097151 ?_
  refine pV 21 28 29 4194303 ?_
  refine pV 22 29 29 8388607 ?_
  refine pU 23 30 29 16777215 ?_
  refine pU 24 31 29 33554431 ?_
  refine pU 25 32 29 67108863 ?_
  refine pU 26 33 29 134217727 ?_
  refine pU 27 34 29 268435455 ?_
  refine pV 28 35 29 536870911 ?_
  refine done_ (done_of HT_.out (by kernel_rfl)) ?_
  try go_wp2
  go_meet
  case rel => exact ⟨_, (true), zq6, H', ⟨zq51⟩, ⟨zq52⟩, ⟨zq53⟩⟩
 case rest =>
  clear HC2
  try clear c1
  try clear p2
  try clear c5
  try clear c9
  try clear c11
  obtain ⟨kq, x35_1, rfl, HA, HJ1, BK358, HB⟩ := hcut
  cases kq with
  | zero => exact absurd HA.out (by simp [impl_isStore.j0])
  | succ kj1 =>
   have H := HA.out
   clear HA
   simp only [impl_isStore.j0] at H
   by_cases c17 : x35_1 = true
   ·
    subst c17
    have H1 : (some false) = some r := by rw [if_pos rfl] at H; exact H
    clear H
    have H := H1
    clear H1
    obtain rfl := Option.some.inj H
    go_wp2
    go_ret
    exact ⟨zq4, zq53⟩
   replace c17 := Bool.eq_false_iff.mpr c17
   subst c17
   have H1 : (impl_isStore.l0 kj1 l0_2 (l0_2.length : Int) 0 a0_0 l0_1 l0_2 a0_3) = some r := by rw [if_neg (show ¬ (false = true) by decide)] at H; exact H
   clear H
   have H := H1
   clear H1
   have H' := Aside0.mk H
   clear H
   obtain ⟨hcz18_0, hcz18_1, hcz18_2, hcz18_3, hfz18_0, hfz18_1, hfz18_2, hfz18_3⟩ := c4 (w := wc) BK358
   go_wp2
   go_loopg [39] kj1 (fun kq v39 w' => ∃ (x39_2 : Int), v39 = .int .i64 x39_2 ∧ Aside0 (impl_isStore.l0 kq l0_2 (l0_2.length : Int) x39_2 a0_0 l0_1 l0_2 a0_3 = some r) ∧ Aside0 (kq ≤ kj1) ∧ Aside0 (w'.heap[gb358]? = some (.cells #[.int .i64 a0_0, (.slice A0_1 l0_1.length c0_1), (.slice A0_2 l0_2.length c0_2), .int .i64 a0_3] 31 (0, 0))) ∧ Aside0 (Below w.heap.size w w'))
   case atStart => exact ⟨(0), zq6, H', ⟨Nat.le_refl _⟩, ⟨zq52⟩, ⟨zq53⟩⟩
   case round =>
    clear H'
    try clear c1
    try clear p2
    try clear c5
    try clear c9
    try clear c11
    try clear c17
    try clear hcz18_0
    try clear hcz18_1
    try clear hcz18_2
    try clear hcz18_3
    try clear hfz18_0
    try clear hfz18_1
    try clear hfz18_2
    try clear hfz18_3
    try clear p2
    obtain ⟨x39_2, rfl, HA, HK2, BK358, HB⟩ := hrel
    cases gk with
    | zero => exact absurd HA.out (by simp [impl_isStore.l0])
    | succ k2 =>
     have H := HA.out
     clear HA
     simp only [impl_isStore.l0] at H
     by_cases c19 : x39_2 < (l0_2.length : Int)
     ·
      rw [if_pos c19] at H
      have c19b0 := decide_eq_true c19
      clear c19
      by_cases c20 : 0 ≤ x39_2
      ·
       rw [if_pos c20] at H
       have c20b0 := decide_eq_true c20
       clear c20
       by_cases c21 : x39_2 < (l0_2.length : Int)
       ·
        rw [if_pos c21] at H
        have c21b0 := decide_eq_true c21
        clear c21
        replace H := Option.bind_eq_some_iff.mp H
        obtain ⟨t364, A220, H⟩ := H
        try dsimp only at H
        have A22 := Aside0.mk A220
        clear A220
        by_cases c23 : t364 = true
        ·
         subst c23
         have H1 : (if x39_2 > 0 then (if 0 ≤ (wrap64 (x39_2 - 1)) then (if (wrap64 (x39_2 - 1)) < (l0_2.length : Int) then (if ((rd_T68 l0_2 (wrap64 (x39_2 - 1))).f0) ≥ ((rd_T68 l0_2 x39_2).f0) then (some false) else (impl_isStore.l0 k2 l0_2 (l0_2.length : Int) (wrap64 (x39_2 + 1)) a0_0 l0_1 l0_2 a0_3)) else (none)) else (none)) else (impl_isStore.l0 k2 l0_2 (l0_2.length : Int) (wrap64 (x39_2 + 1)) a0_0 l0_1 l0_2 a0_3)) = some r := by rw [if_pos rfl] at H; exact H
         clear H
         have H := H1
         clear H1
         by_cases c24 : x39_2 > 0
         ·
          rw [if_pos c24] at H
          have c24b0 : decide (0 < x39_2) = true := decide_eq_true c24
          clear c24
          obtain ⟨ji25, hji25⟩ : ∃ j_ : Int, (wrap64 (x39_2 - 1)) = j_ := ⟨_, rfl⟩
          replace H : (if 0 ≤ (ji25) then (if (ji25) < (l0_2.length : Int) then (if ((rd_T68 l0_2 (ji25)).f0) ≥ ((rd_T68 l0_2 x39_2).f0) then (some false) else (impl_isStore.l0 k2 l0_2 (l0_2.length : Int) (wrap64 (x39_2 + 1)) a0_0 l0_1 l0_2 a0_3)) else (none)) else (none)) = some r := by first | (rw [hji25] at H; exact H) | (simp only [hji25] at H ⊢; exact H)
          (try rw [hji25] at A22)
          have hji25w : (IntKind.i64.wrap (x39_2 - 1)) = ji25 := (i64_w _).trans hji25
          by_cases c26 : 0 ≤ (ji25)
          ·
           rw [if_pos c26] at H
           have c26b0 := decide_eq_true c26
           clear c26
           by_cases c27 : (ji25) < (l0_2.length : Int)
           ·
            rw [if_pos c27] at H
            have c27b0 := decide_eq_true c27
            clear c27
            by_cases c28 : ((rd_T68 l0_2 (ji25)).f0) ≥ ((rd_T68 l0_2 x39_2).f0)
            ·
             rw [if_pos c28] at H
             have c28b0 : decide (((rd_T68 l0_2 x39_2).f0) ≤ ((rd_T68 l0_2 (ji25)).f0)) = true := decide_eq_true c28
             clear c28
             obtain rfl := Option.some.inj H
             have p362 : 0 ≤ (x39_2 : Int) := of_decide_eq_true zq7
             have q362 : x39_2 < (l0_2.length : Int) := of_decide_eq_true zq7
             obtain ⟨ad362, e362, hx362_0, hx362_1⟩ := at_T68 HR0_2.out x39_2 p362 q362
             cases e362
             replace hx362_0 := (HB.out.cell (World.block_lt_of_cell? w _ hx362_0)).trans hx362_0
             replace hx362_1 := (HB.out.cell (World.block_lt_of_cell? w _ hx362_1)).trans hx362_1
             replace p362 := eq_true p362
             replace q362 := eq_true q362
             try go_wp2_with (first | ((with_reducible refine gate_dst (N := 4) rfl ?_); (try (refine gate_guard (by rfl) ?_; dsimp only)); refine box_event ?hg (N := 4) ?hd (cs := #[.int .i64 0, .string (⟨#[]⟩ : ByteArray)]) (t := 68) ?hr ?_; (case hd => rfl); (case hg => rfl); (case hr => exact zq2); intro gb363 hg w29 hbox hb; have BK363 := Aside0.mk hbox; have GW363 := Aside0.mk (zq266 : w.heap.size ≤ gb363); have GE363 := Aside0.mk (zq266 : w.heap.size ≤ gb363); replace HB := sB zq53 hb; have NB358_363 := Aside0.mk (zq267 : gb358 ≠ gb363); have NB363_358 := Aside0.mk (zq268 : gb363 ≠ gb358); replace BK358 := bF BK358 zq52 hb; clear hb hbox hg; have hnb30 := NB363_358.out; have hnc30 := NB358_363.out; obtain ⟨hcz31_0, hcz31_1, hfz31_0, hfz31_1⟩ := c2 (w := w29) BK363))
             have n0_ : Aside0 (((w29.setCell ⟨gb363, 0, none⟩ (.int .i64 ((rd_T68 l0_2 x39_2).f0))).setCell ⟨gb363, 1, none⟩ (.string ((rd_T68 l0_2 x39_2).f1))).heap[gb358]? = some (.cells #[.int .i64 a0_0, .slice A0_1 l0_1.length c0_1, .slice (some ad362) l0_2.length c0_2, .int .i64 a0_3] 31 (0, 0))) := ⟨zq54⟩
             have n1_ : Aside0 (((w29.setCell ⟨gb363, 0, none⟩ (.int .i64 ((rd_T68 l0_2 x39_2).f0))).setCell ⟨gb363, 1, none⟩ (.string ((rd_T68 l0_2 x39_2).f1))).heap[gb363]? = some (.cells #[.int .i64 ((rd_T68 l0_2 x39_2).f0), .string ((rd_T68 l0_2 x39_2).f1)] 68 (0, 0))) := ⟨zq55⟩
             have n2_ : Aside0 (Below w.heap.size w ((w29.setCell ⟨gb363, 0, none⟩ (.int .i64 ((rd_T68 l0_2 x39_2).f0))).setCell ⟨gb363, 1, none⟩ (.string ((rd_T68 l0_2 x39_2).f1)))) := ⟨zq56⟩
             (try clear BK358)
             (try clear BK363)
             (try clear HB)
             generalize ((w29.setCell ⟨gb363, 0, none⟩ (.int .i64 ((rd_T68 l0_2 x39_2).f0))).setCell ⟨gb363, 1, none⟩ (.string ((rd_T68 l0_2 x39_2).f1))) = w32 at n0_ n1_ n2_ ⊢
             have BK358 := n0_
             have BK363 := n1_
             have HB := n2_
             clear n0_ n1_ n2_
             replace BK358 := Aside0.mk (blk_drew BK358.out)
             replace BK363 := Aside0.mk (blk_drew BK363.out)
             replace HB := Aside0.mk (below_drew1 HB.out)
             have p365 : 0 ≤ ((ji25) : Int) := of_decide_eq_true zq7
             have q365 : (ji25) < (l0_2.length : Int) := of_decide_eq_true zq7
             obtain ⟨ad365, e365, hx365_0, hx365_1⟩ := at_T68 HR0_2.out (ji25) p365 q365
             have hw365_1 := hx365_1
             have hw365_0 := hx365_0
             obtain rfl : ad362 = ad365 := (by injection e365)
             replace hx365_0 := (HB.out.cell (World.block_lt_of_cell? w _ hx365_0)).trans hx365_0
             replace hx365_1 := (HB.out.cell (World.block_lt_of_cell? w _ hx365_1)).trans hx365_1
             replace p365 := eq_true p365
             replace q365 := eq_true q365
             refine start_ (n := 23) (S := fun w' => w'.cell? ⟨gb363, 0, none⟩ = some (.int .i64 ((rd_T68 l0_2 x39_2).f0)) ∧ w'.cell? ⟨gb363, 1, none⟩ = some (.string ((rd_T68 l0_2 x39_2).f1)) ∧ w'.cell? ⟨gb358, 0, none⟩ = some (.int .i64 a0_0) ∧ w'.cell? ⟨gb358, 1, none⟩ = some (.slice A0_1 l0_1.length c0_1) ∧ w'.cell? ⟨gb358, 2, none⟩ = some (.slice (some ad362) l0_2.length c0_2) ∧ w'.cell? ⟨gb358, 3, none⟩ = some (.int .i64 a0_3) ∧ w'.cell? (ad362.add (((ji25)).toNat * 2)) = some (.int .i64 ((rd_T68 l0_2 (ji25)).f0)) ∧ w'.cell? ⟨(ad362.add (((ji25)).toNat * 2)).block, (ad362.add (((ji25)).toNat * 2)).off + 1, none⟩ = some (.string ((rd_T68 l0_2 (ji25)).f1))) (ds := []) (bA 23 0) (by kernel_rfl) rfl rfl ⟨(blk_cell BK363.out 0).trans rfl, (blk_cell BK363.out 1).trans rfl, (blk_cell BK358.out 0).trans rfl, (blk_cell BK358.out 1).trans rfl, (blk_cell BK358.out 2).trans rfl, (blk_cell BK358.out 3).trans rfl, ((HB.out.cell (World.block_lt_of_cell? w _ hw365_0)).trans hw365_0), ((HB.out.cell (World.block_lt_of_cell? w _ hw365_1)).trans hw365_1)⟩ (fun hHeld => ?_); refine with_tabW impl_isStore.tab6 impl_isStore.bits6 (fun HT_ HW_ => ?_)
             generalize w32.drew = w33 at BK358 BK363 HB hx365_0 hx365_1 hHeld ⊢
             refine pV 0 44 23 1 ?_
             refine pV 2 46 23 5 ?_
             refine tV 1 45 23 7 rfl zq324 ?_
             refine tV 3 47 23 15 rfl zq324 ?_
             refine pV 4 48 23 31 ?_
             refine one_ (i := 5) (N := some 49) (bA 23 63) rfl rfl (one_of HT_.out (by kernel_rfl)) (by decide) (fun K hK => ?_)
             refine goes_ Try.func90 (by kernel_rfl) rfl #[.int .i64 ((rd_T68 l0_2 x39_2).f0), .int .i64 1, .int .i64 (wrap64 (a0_3 - 1))] (by rfl) rfl rfl zq8 ?_
             with_reducible refine (impl_in.calls ((rd_T68 l0_2 x39_2).f0) 1 (wrap64 (a0_3 - 1)) true _ A22.out).mono ?_
             rintro e w' ⟨rfl, ⟨nd, rfl⟩⟩
             refine ⟨_, rfl, ?_⟩
             refine hK.out _ _ ⟨(blk_cell BK363.out 0).trans rfl, (blk_cell BK363.out 1).trans rfl, (blk_cell BK358.out 0).trans rfl, (blk_cell BK358.out 1).trans rfl, (blk_cell BK358.out 2).trans rfl, (blk_cell BK358.out 3).trans rfl, ((HB.out.cell (World.block_lt_of_cell? w _ hw365_0)).trans hw365_0), ((HB.out.cell (World.block_lt_of_cell? w _ hw365_1)).trans hw365_1)⟩ (fun hHeld => ?_)
             clear hK K
             refine norm_ (a' := ?_) ?_ ?_
             rotate_left
             exact zq325
             refine pV 6 50 23 127 ?_
             refine pV 7 51 23 255 ?_
             refine pV 8 52 23 511 ?_
             refine pV 9 53 23 1023 ?_
             refine pV 10 54 23 2047 ?_
             refine pV 11 55 23 4095 ?_
             refine pV 13 57 23 12287 ?_
             refine pV 14 58 23 28671 ?_
             refine pV 18 62 23 290815 ?_
             refine tV 12 56 23 294911 rfl zq324 ?_
             refine pV 15 59 23 327679 ?_
             refine pV 16 60 23 393215 ?_
             refine tV 17 61 23 524287 rfl zq324 ?_
             refine tV 19 63 23 1048575 rfl zq324 ?_
             refine pV 20 64 23 2097151 ?_
             refine pV 21 65 23 4194303 ?_
             refine pV 22 66 23 8388607 ?_
             refine done_ (done_of HT_.out (by kernel_rfl)) ?_
             try go_wp2
             go_ret
             exact ⟨by first | rfl | (simp [errW_none, errW_some] <;> rfl) | (simp only [← hji25]; first | rfl | (simp [errW_none, errW_some] <;> rfl)) | (simp [*, errW_none, errW_some] <;> rfl), zq56⟩
            rw [if_neg c28] at H
            have c28b0 : decide (((rd_T68 l0_2 x39_2).f0) ≤ ((rd_T68 l0_2 (ji25)).f0)) = false := decide_eq_false c28
            clear c28
            have H' := Aside0.mk H
            clear H
            have p362 : 0 ≤ (x39_2 : Int) := of_decide_eq_true zq7
            have q362 : x39_2 < (l0_2.length : Int) := of_decide_eq_true zq7
            obtain ⟨ad362, e362, hx362_0, hx362_1⟩ := at_T68 HR0_2.out x39_2 p362 q362
            cases e362
            replace hx362_0 := (HB.out.cell (World.block_lt_of_cell? w _ hx362_0)).trans hx362_0
            replace hx362_1 := (HB.out.cell (World.block_lt_of_cell? w _ hx362_1)).trans hx362_1
            replace p362 := eq_true p362
            replace q362 := eq_true q362
            try go_wp2_with (first | ((with_reducible refine gate_dst (N := 4) rfl ?_); (try (refine gate_guard (by rfl) ?_; dsimp only)); refine box_event ?hg (N := 4) ?hd (cs := #[.int .i64 0, .string (⟨#[]⟩ : ByteArray)]) (t := 68) ?hr ?_; (case hd => rfl); (case hg => rfl); (case hr => exact zq2); intro gb363 hg w34 hbox hb; have BK363 := Aside0.mk hbox; have GW363 := Aside0.mk (zq266 : w.heap.size ≤ gb363); have GE363 := Aside0.mk (zq266 : w.heap.size ≤ gb363); replace HB := sB zq53 hb; have NB358_363 := Aside0.mk (zq267 : gb358 ≠ gb363); have NB363_358 := Aside0.mk (zq268 : gb363 ≠ gb358); replace BK358 := bF BK358 zq52 hb; clear hb hbox hg; have hnb35 := NB363_358.out; have hnc35 := NB358_363.out; obtain ⟨hcz36_0, hcz36_1, hfz36_0, hfz36_1⟩ := c2 (w := w34) BK363))
            have n0_ : Aside0 (((w34.setCell ⟨gb363, 0, none⟩ (.int .i64 ((rd_T68 l0_2 x39_2).f0))).setCell ⟨gb363, 1, none⟩ (.string ((rd_T68 l0_2 x39_2).f1))).heap[gb358]? = some (.cells #[.int .i64 a0_0, .slice A0_1 l0_1.length c0_1, .slice (some ad362) l0_2.length c0_2, .int .i64 a0_3] 31 (0, 0))) := ⟨zq54⟩
            have n1_ : Aside0 (((w34.setCell ⟨gb363, 0, none⟩ (.int .i64 ((rd_T68 l0_2 x39_2).f0))).setCell ⟨gb363, 1, none⟩ (.string ((rd_T68 l0_2 x39_2).f1))).heap[gb363]? = some (.cells #[.int .i64 ((rd_T68 l0_2 x39_2).f0), .string ((rd_T68 l0_2 x39_2).f1)] 68 (0, 0))) := ⟨zq55⟩
            have n2_ : Aside0 (Below w.heap.size w ((w34.setCell ⟨gb363, 0, none⟩ (.int .i64 ((rd_T68 l0_2 x39_2).f0))).setCell ⟨gb363, 1, none⟩ (.string ((rd_T68 l0_2 x39_2).f1)))) := ⟨zq56⟩
            (try clear BK358)
            (try clear BK363)
            (try clear HB)
            generalize ((w34.setCell ⟨gb363, 0, none⟩ (.int .i64 ((rd_T68 l0_2 x39_2).f0))).setCell ⟨gb363, 1, none⟩ (.string ((rd_T68 l0_2 x39_2).f1))) = w37 at n0_ n1_ n2_ ⊢
            have BK358 := n0_
            have BK363 := n1_
            have HB := n2_
            clear n0_ n1_ n2_
            replace BK358 := Aside0.mk (blk_drew BK358.out)
            replace BK363 := Aside0.mk (blk_drew BK363.out)
            replace HB := Aside0.mk (below_drew1 HB.out)
            have p365 : 0 ≤ ((ji25) : Int) := of_decide_eq_true zq7
            have q365 : (ji25) < (l0_2.length : Int) := of_decide_eq_true zq7
            obtain ⟨ad365, e365, hx365_0, hx365_1⟩ := at_T68 HR0_2.out (ji25) p365 q365
            have hw365_1 := hx365_1
            have hw365_0 := hx365_0
            obtain rfl : ad362 = ad365 := (by injection e365)
            replace hx365_0 := (HB.out.cell (World.block_lt_of_cell? w _ hx365_0)).trans hx365_0
            replace hx365_1 := (HB.out.cell (World.block_lt_of_cell? w _ hx365_1)).trans hx365_1
            replace p365 := eq_true p365
            replace q365 := eq_true q365
            refine start_ (n := 23) (S := fun w' => w'.cell? ⟨gb363, 0, none⟩ = some (.int .i64 ((rd_T68 l0_2 x39_2).f0)) ∧ w'.cell? ⟨gb363, 1, none⟩ = some (.string ((rd_T68 l0_2 x39_2).f1)) ∧ w'.cell? ⟨gb358, 0, none⟩ = some (.int .i64 a0_0) ∧ w'.cell? ⟨gb358, 1, none⟩ = some (.slice A0_1 l0_1.length c0_1) ∧ w'.cell? ⟨gb358, 2, none⟩ = some (.slice (some ad362) l0_2.length c0_2) ∧ w'.cell? ⟨gb358, 3, none⟩ = some (.int .i64 a0_3) ∧ w'.cell? (ad362.add (((ji25)).toNat * 2)) = some (.int .i64 ((rd_T68 l0_2 (ji25)).f0)) ∧ w'.cell? ⟨(ad362.add (((ji25)).toNat * 2)).block, (ad362.add (((ji25)).toNat * 2)).off + 1, none⟩ = some (.string ((rd_T68 l0_2 (ji25)).f1))) (ds := []) (bA 23 0) (by kernel_rfl) rfl rfl ⟨(blk_cell BK363.out 0).trans rfl, (blk_cell BK363.out 1).trans rfl, (blk_cell BK358.out 0).trans rfl, (blk_cell BK358.out 1).trans rfl, (blk_cell BK358.out 2).trans rfl, (blk_cell BK358.out 3).trans rfl, ((HB.out.cell (World.block_lt_of_cell? w _ hw365_0)).trans hw365_0), ((HB.out.cell (World.block_lt_of_cell? w _ hw365_1)).trans hw365_1)⟩ (fun hHeld => ?_); refine with_tabW impl_isStore.tab6 impl_isStore.bits6 (fun HT_ HW_ => ?_)
            generalize w37.drew = w38 at BK358 BK363 HB hx365_0 hx365_1 hHeld ⊢
            refine pV 0 44 23 1 ?_
            refine pV 2 46 23 5 ?_
            refine tV 1 45 23 7 rfl zq324 ?_
            refine tV 3 47 23 15 rfl zq324 ?_
            refine pV 4 48 23 31 ?_
            refine one_ (i := 5) (N := some 49) (bA 23 63) rfl rfl (one_of HT_.out (by kernel_rfl)) (by decide) (fun K hK => ?_)
            refine goes_ Try.func90 (by kernel_rfl) rfl #[.int .i64 ((rd_T68 l0_2 x39_2).f0), .int .i64 1, .int .i64 (wrap64 (a0_3 - 1))] (by rfl) rfl rfl zq8 ?_
            with_reducible refine (impl_in.calls ((rd_T68 l0_2 x39_2).f0) 1 (wrap64 (a0_3 - 1)) true _ A22.out).mono ?_
            rintro e w' ⟨rfl, ⟨nd, rfl⟩⟩
            refine ⟨_, rfl, ?_⟩
            refine hK.out _ _ ⟨(blk_cell BK363.out 0).trans rfl, (blk_cell BK363.out 1).trans rfl, (blk_cell BK358.out 0).trans rfl, (blk_cell BK358.out 1).trans rfl, (blk_cell BK358.out 2).trans rfl, (blk_cell BK358.out 3).trans rfl, ((HB.out.cell (World.block_lt_of_cell? w _ hw365_0)).trans hw365_0), ((HB.out.cell (World.block_lt_of_cell? w _ hw365_1)).trans hw365_1)⟩ (fun hHeld => ?_)
            clear hK K
            refine norm_ (a' := ?_) ?_ ?_
            rotate_left
            exact zq325
            refine pV 6 50 23 127 ?_
            refine pV 7 51 23 255 ?_
            refine pV 8 52 23 511 ?_
            refine pV 9 53 23 1023 ?_
            refine pV 10 54 23 2047 ?_
            refine pV 11 55 23 4095 ?_
            refine pV 13 57 23 12287 ?_
            refine pV 14 58 23 28671 ?_
            refine pV 18 62 23 290815 ?_
            refine tV 12 56 23 294911 rfl zq324 ?_
            refine pV 15 59 23 327679 ?_
            refine pV 16 60 23 393215 ?_
            refine tV 17 61 23 524287 rfl zq324 ?_
            refine tV 19 63 23 1048575 rfl zq324 ?_
            refine pV 20 64 23 2097151 ?_
            refine pV 21 65 23 4194303 ?_
            refine pV 22 66 23 8388607 ?_
            refine done_ (done_of HT_.out (by kernel_rfl)) ?_
            try go_wp2
            go_roundg k2
            case measure => have := HJ1.out; have := HK2.out; omega
            case rel => exact ⟨(wrap64 (x39_2 + 1)), zq6, H', ⟨zq57⟩, ⟨zq52⟩, ⟨zq56⟩⟩
           rw [if_neg c27] at H
           exact absurd H (by simp)
          rw [if_neg c26] at H
          exact absurd H (by simp)
         rw [if_neg c24] at H
         have c24b0 : decide (0 < x39_2) = false := decide_eq_false c24
         clear c24
         have H' := Aside0.mk H
         clear H
         have p362 : 0 ≤ (x39_2 : Int) := of_decide_eq_true zq7
         have q362 : x39_2 < (l0_2.length : Int) := of_decide_eq_true zq7
         obtain ⟨ad362, e362, hx362_0, hx362_1⟩ := at_T68 HR0_2.out x39_2 p362 q362
         cases e362
         replace hx362_0 := (HB.out.cell (World.block_lt_of_cell? w _ hx362_0)).trans hx362_0
         replace hx362_1 := (HB.out.cell (World.block_lt_of_cell? w _ hx362_1)).trans hx362_1
         replace p362 := eq_true p362
         replace q362 := eq_true q362
         try go_wp2_with (first | ((with_reducible refine gate_dst (N := 4) rfl ?_); (try (refine gate_guard (by rfl) ?_; dsimp only)); refine box_event ?hg (N := 4) ?hd (cs := #[.int .i64 0, .string (⟨#[]⟩ : ByteArray)]) (t := 68) ?hr ?_; (case hd => rfl); (case hg => rfl); (case hr => exact zq2); intro gb363 hg w39 hbox hb; have BK363 := Aside0.mk hbox; have GW363 := Aside0.mk (zq266 : w.heap.size ≤ gb363); have GE363 := Aside0.mk (zq266 : w.heap.size ≤ gb363); replace HB := sB zq53 hb; have NB358_363 := Aside0.mk (zq267 : gb358 ≠ gb363); have NB363_358 := Aside0.mk (zq268 : gb363 ≠ gb358); replace BK358 := bF BK358 zq52 hb; clear hb hbox hg; have hnb40 := NB363_358.out; have hnc40 := NB358_363.out; obtain ⟨hcz41_0, hcz41_1, hfz41_0, hfz41_1⟩ := c2 (w := w39) BK363))
         have n0_ : Aside0 (((w39.setCell ⟨gb363, 0, none⟩ (.int .i64 ((rd_T68 l0_2 x39_2).f0))).setCell ⟨gb363, 1, none⟩ (.string ((rd_T68 l0_2 x39_2).f1))).heap[gb358]? = some (.cells #[.int .i64 a0_0, .slice A0_1 l0_1.length c0_1, .slice (some ad362) l0_2.length c0_2, .int .i64 a0_3] 31 (0, 0))) := ⟨zq54⟩
         have n1_ : Aside0 (((w39.setCell ⟨gb363, 0, none⟩ (.int .i64 ((rd_T68 l0_2 x39_2).f0))).setCell ⟨gb363, 1, none⟩ (.string ((rd_T68 l0_2 x39_2).f1))).heap[gb363]? = some (.cells #[.int .i64 ((rd_T68 l0_2 x39_2).f0), .string ((rd_T68 l0_2 x39_2).f1)] 68 (0, 0))) := ⟨zq55⟩
         have n2_ : Aside0 (Below w.heap.size w ((w39.setCell ⟨gb363, 0, none⟩ (.int .i64 ((rd_T68 l0_2 x39_2).f0))).setCell ⟨gb363, 1, none⟩ (.string ((rd_T68 l0_2 x39_2).f1)))) := ⟨zq56⟩
         (try clear BK358)
         (try clear BK363)
         (try clear HB)
         generalize ((w39.setCell ⟨gb363, 0, none⟩ (.int .i64 ((rd_T68 l0_2 x39_2).f0))).setCell ⟨gb363, 1, none⟩ (.string ((rd_T68 l0_2 x39_2).f1))) = w42 at n0_ n1_ n2_ ⊢
         have BK358 := n0_
         have BK363 := n1_
         have HB := n2_
         clear n0_ n1_ n2_
         replace BK358 := Aside0.mk (blk_drew BK358.out)
         replace BK363 := Aside0.mk (blk_drew BK363.out)
         replace HB := Aside0.mk (below_drew1 HB.out)
         refine start_ (n := 23) (S := fun w' => w'.cell? ⟨gb363, 0, none⟩ = some (.int .i64 ((rd_T68 l0_2 x39_2).f0)) ∧ w'.cell? ⟨gb363, 1, none⟩ = some (.string ((rd_T68 l0_2 x39_2).f1)) ∧ w'.cell? ⟨gb358, 0, none⟩ = some (.int .i64 a0_0) ∧ w'.cell? ⟨gb358, 1, none⟩ = some (.slice A0_1 l0_1.length c0_1) ∧ w'.cell? ⟨gb358, 2, none⟩ = some (.slice (some ad362) l0_2.length c0_2) ∧ w'.cell? ⟨gb358, 3, none⟩ = some (.int .i64 a0_3)) (ds := []) (bA 23 0) (by kernel_rfl) rfl rfl ⟨(blk_cell BK363.out 0).trans rfl, (blk_cell BK363.out 1).trans rfl, (blk_cell BK358.out 0).trans rfl, (blk_cell BK358.out 1).trans rfl, (blk_cell BK358.out 2).trans rfl, (blk_cell BK358.out 3).trans rfl⟩ (fun hHeld => ?_); refine with_tabW impl_isStore.tab6 impl_isStore.bits6 (fun HT_ HW_ => ?_)
         generalize w42.drew = w43 at BK358 BK363 HB hHeld ⊢
         refine pV 0 44 23 1 ?_
         refine pV 2 46 23 5 ?_
         refine tV 1 45 23 7 rfl zq326 ?_
         refine tV 3 47 23 15 rfl zq326 ?_
         refine pV 4 48 23 31 ?_
         refine one_ (i := 5) (N := some 49) (bA 23 63) rfl rfl (one_of HT_.out (by kernel_rfl)) (by decide) (fun K hK => ?_)
         refine goes_ Try.func90 (by kernel_rfl) rfl #[.int .i64 ((rd_T68 l0_2 x39_2).f0), .int .i64 1, .int .i64 (wrap64 (a0_3 - 1))] (by rfl) rfl rfl zq8 ?_
         with_reducible refine (impl_in.calls ((rd_T68 l0_2 x39_2).f0) 1 (wrap64 (a0_3 - 1)) true _ A22.out).mono ?_
         rintro e w' ⟨rfl, ⟨nd, rfl⟩⟩
         refine ⟨_, rfl, ?_⟩
         refine hK.out _ _ ⟨(blk_cell BK363.out 0).trans rfl, (blk_cell BK363.out 1).trans rfl, (blk_cell BK358.out 0).trans rfl, (blk_cell BK358.out 1).trans rfl, (blk_cell BK358.out 2).trans rfl, (blk_cell BK358.out 3).trans rfl⟩ (fun hHeld => ?_)
         clear hK K
         refine norm_ (a' := ?_) ?_ ?_
         rotate_left
         exact zq325
         refine pV 6 50 23 127 ?_
         refine pV 7 51 23 255 ?_
         refine pV 8 52 23 511 ?_
         refine pV 9 53 23 1023 ?_
         refine pV 10 54 23 2047 ?_
         refine pU 11 55 23 4095 ?_
         refine pU 12 56 23 8191 ?_
         refine pU 13 57 23 16383 ?_
         refine pU 14 58 23 32767 ?_
         refine pU 15 59 23 65535 ?_
         refine pU 16 60 23 131071 ?_
         refine pU 17 61 23 262143 ?_
         refine pU 18 62 23 524287 ?_
         refine pU 19 63 23 1048575 ?_
         refine pU 20 64 23 2097151 ?_
         refine pV 21 65 23 4194303 ?_
         refine pV 22 66 23 8388607 ?_
         refine done_ (done_of HT_.out (by kernel_rfl)) ?_
         try go_wp2
         go_roundg k2
         case measure => have := HJ1.out; have := HK2.out; omega
         case rel => exact ⟨(wrap64 (x39_2 + 1)), zq6, H', ⟨zq57⟩, ⟨zq52⟩, ⟨zq56⟩⟩
        replace c23 := Bool.eq_false_iff.mpr c23
        subst c23
        have H1 : (some false) = some r := by rw [if_neg (show ¬ (false = true) by decide)] at H; exact H
        clear H
        have H := H1
        clear H1
        obtain rfl := Option.some.inj H
        have p362 : 0 ≤ (x39_2 : Int) := of_decide_eq_true zq7
        have q362 : x39_2 < (l0_2.length : Int) := of_decide_eq_true zq7
        obtain ⟨ad362, e362, hx362_0, hx362_1⟩ := at_T68 HR0_2.out x39_2 p362 q362
        cases e362
        replace hx362_0 := (HB.out.cell (World.block_lt_of_cell? w _ hx362_0)).trans hx362_0
        replace hx362_1 := (HB.out.cell (World.block_lt_of_cell? w _ hx362_1)).trans hx362_1
        replace p362 := eq_true p362
        replace q362 := eq_true q362
        try go_wp2_with (first | ((with_reducible refine gate_dst (N := 4) rfl ?_); (try (refine gate_guard (by rfl) ?_; dsimp only)); refine box_event ?hg (N := 4) ?hd (cs := #[.int .i64 0, .string (⟨#[]⟩ : ByteArray)]) (t := 68) ?hr ?_; (case hd => rfl); (case hg => rfl); (case hr => exact zq2); intro gb363 hg w44 hbox hb; have BK363 := Aside0.mk hbox; have GW363 := Aside0.mk (zq266 : w.heap.size ≤ gb363); have GE363 := Aside0.mk (zq266 : w.heap.size ≤ gb363); replace HB := sB zq53 hb; have NB358_363 := Aside0.mk (zq267 : gb358 ≠ gb363); have NB363_358 := Aside0.mk (zq268 : gb363 ≠ gb358); replace BK358 := bF BK358 zq52 hb; clear hb hbox hg; have hnb45 := NB363_358.out; have hnc45 := NB358_363.out; obtain ⟨hcz46_0, hcz46_1, hfz46_0, hfz46_1⟩ := c2 (w := w44) BK363))
        have n0_ : Aside0 (((w44.setCell ⟨gb363, 0, none⟩ (.int .i64 ((rd_T68 l0_2 x39_2).f0))).setCell ⟨gb363, 1, none⟩ (.string ((rd_T68 l0_2 x39_2).f1))).heap[gb358]? = some (.cells #[.int .i64 a0_0, .slice A0_1 l0_1.length c0_1, .slice (some ad362) l0_2.length c0_2, .int .i64 a0_3] 31 (0, 0))) := ⟨zq54⟩
        have n1_ : Aside0 (((w44.setCell ⟨gb363, 0, none⟩ (.int .i64 ((rd_T68 l0_2 x39_2).f0))).setCell ⟨gb363, 1, none⟩ (.string ((rd_T68 l0_2 x39_2).f1))).heap[gb363]? = some (.cells #[.int .i64 ((rd_T68 l0_2 x39_2).f0), .string ((rd_T68 l0_2 x39_2).f1)] 68 (0, 0))) := ⟨zq55⟩
        have n2_ : Aside0 (Below w.heap.size w ((w44.setCell ⟨gb363, 0, none⟩ (.int .i64 ((rd_T68 l0_2 x39_2).f0))).setCell ⟨gb363, 1, none⟩ (.string ((rd_T68 l0_2 x39_2).f1)))) := ⟨zq56⟩
        (try clear BK358)
        (try clear BK363)
        (try clear HB)
        generalize ((w44.setCell ⟨gb363, 0, none⟩ (.int .i64 ((rd_T68 l0_2 x39_2).f0))).setCell ⟨gb363, 1, none⟩ (.string ((rd_T68 l0_2 x39_2).f1))) = w47 at n0_ n1_ n2_ ⊢
        have BK358 := n0_
        have BK363 := n1_
        have HB := n2_
        clear n0_ n1_ n2_
        replace BK358 := Aside0.mk (blk_drew BK358.out)
        replace BK363 := Aside0.mk (blk_drew BK363.out)
        replace HB := Aside0.mk (below_drew1 HB.out)
        refine start_ (n := 23) (S := fun w' => w'.cell? ⟨gb363, 0, none⟩ = some (.int .i64 ((rd_T68 l0_2 x39_2).f0)) ∧ w'.cell? ⟨gb363, 1, none⟩ = some (.string ((rd_T68 l0_2 x39_2).f1)) ∧ w'.cell? ⟨gb358, 0, none⟩ = some (.int .i64 a0_0) ∧ w'.cell? ⟨gb358, 1, none⟩ = some (.slice A0_1 l0_1.length c0_1) ∧ w'.cell? ⟨gb358, 2, none⟩ = some (.slice (some ad362) l0_2.length c0_2) ∧ w'.cell? ⟨gb358, 3, none⟩ = some (.int .i64 a0_3)) (ds := []) (bA 23 0) (by kernel_rfl) rfl rfl ⟨(blk_cell BK363.out 0).trans rfl, (blk_cell BK363.out 1).trans rfl, (blk_cell BK358.out 0).trans rfl, (blk_cell BK358.out 1).trans rfl, (blk_cell BK358.out 2).trans rfl, (blk_cell BK358.out 3).trans rfl⟩ (fun hHeld => ?_); refine with_tabW impl_isStore.tab6 impl_isStore.bits6 (fun HT_ HW_ => ?_)
        generalize w47.drew = w48 at BK358 BK363 HB hHeld ⊢
        refine pV 0 44 23 1 ?_
        refine pV 2 46 23 5 ?_
        refine tV 1 45 23 7 rfl zq326 ?_
        refine tV 3 47 23 15 rfl zq326 ?_
        refine pV 4 48 23 31 ?_
        refine one_ (i := 5) (N := some 49) (bA 23 63) rfl rfl (one_of HT_.out (by kernel_rfl)) (by decide) (fun K hK => ?_)
        refine goes_ Try.func90 (by kernel_rfl) rfl #[.int .i64 ((rd_T68 l0_2 x39_2).f0), .int .i64 1, .int .i64 (wrap64 (a0_3 - 1))] (by rfl) rfl rfl zq8 ?_
        with_reducible refine (impl_in.calls ((rd_T68 l0_2 x39_2).f0) 1 (wrap64 (a0_3 - 1)) false _ A22.out).mono ?_
        rintro e w' ⟨rfl, ⟨nd, rfl⟩⟩
        refine ⟨_, rfl, ?_⟩
        refine hK.out _ _ ⟨(blk_cell BK363.out 0).trans rfl, (blk_cell BK363.out 1).trans rfl, (blk_cell BK358.out 0).trans rfl, (blk_cell BK358.out 1).trans rfl, (blk_cell BK358.out 2).trans rfl, (blk_cell BK358.out 3).trans rfl⟩ (fun hHeld => ?_)
        clear hK K
        refine norm_ (a' := ?_) ?_ ?_
        rotate_left
        exact zq325
        refine pV 6 50 23 127 ?_
        refine pV 7 51 23 255 ?_
        refine pU 8 52 23 511 ?_
        refine pU 9 53 23 1023 ?_
        refine pU 10 54 23 2047 ?_
        refine pU 11 55 23 4095 ?_
        refine pU 12 56 23 8191 ?_
        refine pU 13 57 23 16383 ?_
        refine pU 14 58 23 32767 ?_
        refine pU 15 59 23 65535 ?_
        refine pU 16 60 23 131071 ?_
        refine pU 17 61 23 262143 ?_
        refine pU 18 62 23 524287 ?_
        refine pU 19 63 23 1048575 ?_
        refine pU 20 64 23 2097151 ?_
        refine pU 21 65 23 4194303 ?_
        refine pV 22 66 23 8388607 ?_
        refine done_ (done_of HT_.out (by kernel_rfl)) ?_
        try go_wp2
        go_ret
        exact ⟨zq4, zq56⟩
       rw [if_neg c21] at H
       exact absurd H (by simp)
      rw [if_neg c20] at H
      exact absurd H (by simp)
     rw [if_neg c19] at H
     have c19b0 := decide_eq_false c19
     clear c19
     have H' := Aside0.mk H
     clear H
     obtain ⟨hcz49_0, hcz49_1, hcz49_2, hcz49_3, hfz49_0, hfz49_1, hfz49_2, hfz49_3⟩ := c4 (w := wr) BK358
     go_wp2
     go_loopg [71] k2 (fun kq v71 w' => ∃ (x71_3 : Int), v71 = .int .i64 x71_3 ∧ Aside0 (impl_isStore.l1 kq l0_1 (l0_1.length : Int) x71_3 a0_0 l0_1 l0_2 a0_3 = some r) ∧ Aside0 (kq ≤ k2) ∧ Aside0 (w'.heap[gb358]? = some (.cells #[.int .i64 a0_0, (.slice A0_1 l0_1.length c0_1), (.slice A0_2 l0_2.length c0_2), .int .i64 a0_3] 31 (0, 0))) ∧ Aside0 (Below w.heap.size w w'))
     case atStart => exact ⟨(0), zq6, H', ⟨Nat.le_refl _⟩, ⟨zq52⟩, ⟨zq53⟩⟩
     case round =>
      clear H'
      try clear c1
      try clear c2
      try clear p2
      try clear p3
      try clear q3
      try clear hx3
      try clear c4
      try clear p6
      try clear c9
      try clear c19
      try clear c19b0
      try clear c20
      try clear c21
      try clear c23
      try clear c24
      try clear c24b0
      try clear c26
      try clear c27
      try clear p36
      try clear q36
      try clear hx36
      try clear c40
      try clear c45
      try clear hcz41_0
      try clear hcz41_1
      try clear hcz46_0
      try clear hcz46_1
      try clear hcz49_0
      try clear hcz49_1
      try clear hcz49_2
      try clear hcz49_3
      try clear hfz41_0
      try clear hfz41_1
      try clear hfz46_0
      try clear hfz46_1
      try clear hfz49_0
      try clear hfz49_1
      try clear hfz49_2
      try clear hfz49_3
      try clear hx362_0
      try clear hx362_1
      try clear hx365_0
      try clear hx365_1
      try clear p362
      try clear p365
      try clear q362
      try clear q365
      obtain ⟨x71_3, rfl, HA, HK3, BK358, HB⟩ := hrel
      cases gk with
      | zero => exact absurd HA.out (by simp [impl_isStore.l1])
      | succ k3 =>
       have H := HA.out
       clear HA
       simp only [impl_isStore.l1] at H
       by_cases c50 : x71_3 < (l0_1.length : Int)
       ·
        rw [if_pos c50] at H
        have c50b0 := decide_eq_true c50
        clear c50
        by_cases c51 : 0 ≤ x71_3
        ·
         rw [if_pos c51] at H
         have c51b0 := decide_eq_true c51
         clear c51
         by_cases c52 : x71_3 < (l0_1.length : Int)
         ·
          rw [if_pos c52] at H
          have c52b0 := decide_eq_true c52
          clear c52
          by_cases c53 : x71_3 > 0
          ·
           rw [if_pos c53] at H
           have c53b0 : decide (0 < x71_3) = true := decide_eq_true c53
           clear c53
           obtain ⟨ji54, hji54⟩ : ∃ j_ : Int, (wrap64 (x71_3 - 1)) = j_ := ⟨_, rfl⟩
           replace H : (if 0 ≤ (ji54) then (if (ji54) < (l0_1.length : Int) then (if ((Op.bytesLess (((rd_T66 l0_1 (ji54)).f0).toList) (((rd_T66 l0_1 x71_3).f0).toList)) = true) then ((impl_digestOf.f k3 ((rd_T66 l0_1 x71_3).f1)).bind fun t369 => (if ((rd_T66 l0_1 x71_3).f0).toList = t369.toList then (impl_isStore.l1 k3 l0_1 (l0_1.length : Int) (wrap64 (x71_3 + 1)) a0_0 l0_1 l0_2 a0_3) else (some false))) else (some false)) else (none)) else (none)) = some r := by first | (rw [hji54] at H; exact H) | (simp only [hji54] at H ⊢; exact H)
           have hji54w : (IntKind.i64.wrap (x71_3 - 1)) = ji54 := (i64_w _).trans hji54
           by_cases c55 : 0 ≤ (ji54)
           ·
            rw [if_pos c55] at H
            have c55b0 := decide_eq_true c55
            clear c55
            by_cases c56 : (ji54) < (l0_1.length : Int)
            ·
             rw [if_pos c56] at H
             have c56b0 := decide_eq_true c56
             clear c56
             by_cases c57 : ((Op.bytesLess (((rd_T66 l0_1 (ji54)).f0).toList) (((rd_T66 l0_1 x71_3).f0).toList)) = true)
             ·
              rw [if_pos c57] at H
              have c57b0 : (Op.bytesLess (((rd_T66 l0_1 (ji54)).f0).toList) (((rd_T66 l0_1 x71_3).f0).toList)) = true := c57
              clear c57
              replace H := Option.bind_eq_some_iff.mp H
              obtain ⟨t369, A580, H⟩ := H
              try dsimp only at H
              have A58 := Aside0.mk A580
              clear A580
              by_cases c59 : ((rd_T66 l0_1 x71_3).f0).toList = t369.toList
              ·
               rw [if_pos c59] at H
               have c59b0 : (((rd_T66 l0_1 x71_3).f0).toList == t369.toList) = true := beq_iff_eq.mpr c59
               have c59b1 : (((rd_T66 l0_1 x71_3).f0).toList != t369.toList) = false := bne_eq_false_iff_eq.mpr c59
               clear c59
               have H' := Aside0.mk H
               clear H
               have p366 : 0 ≤ (x71_3 : Int) := of_decide_eq_true zq7
               have q366 : x71_3 < (l0_1.length : Int) := of_decide_eq_true zq7
               obtain ⟨ad366, e366, hx366_0, hx366_1⟩ := at_T66 HR0_1.out x71_3 p366 q366
               cases e366
               replace hx366_0 := (HB.out.cell (World.block_lt_of_cell? w _ hx366_0)).trans hx366_0
               replace hx366_1 := (HB.out.cell (World.block_lt_of_cell? w _ hx366_1)).trans hx366_1
               replace p366 := eq_true p366
               replace q366 := eq_true q366
               try go_wp2_with (first | ((with_reducible refine gate_dst (N := 6) rfl ?_); (try (refine gate_guard (by rfl) ?_; dsimp only)); refine box_event ?hg (N := 6) ?hd (cs := #[.string (⟨#[]⟩ : ByteArray), .string (⟨#[]⟩ : ByteArray)]) (t := 66) ?hr ?_; (case hd => rfl); (case hg => rfl); (case hr => exact zq2); intro gb367 hg w60 hbox hb; have BK367 := Aside0.mk hbox; have GW367 := Aside0.mk (zq266 : w.heap.size ≤ gb367); have GE367 := Aside0.mk (zq266 : w.heap.size ≤ gb367); replace HB := sB zq53 hb; have NB358_367 := Aside0.mk (zq269 : gb358 ≠ gb367); have NB367_358 := Aside0.mk (zq270 : gb367 ≠ gb358); replace BK358 := bF BK358 zq52 hb; clear hb hbox hg; have hnb61 := NB367_358.out; have hnc61 := NB358_367.out; obtain ⟨hcz62_0, hcz62_1, hfz62_0, hfz62_1⟩ := c2 (w := w60) BK367))
               have n0_ : Aside0 (((w60.setCell ⟨gb367, 0, none⟩ (.string ((rd_T66 l0_1 x71_3).f0))).setCell ⟨gb367, 1, none⟩ (.string ((rd_T66 l0_1 x71_3).f1))).heap[gb358]? = some (.cells #[.int .i64 a0_0, .slice (some ad366) l0_1.length c0_1, .slice A0_2 l0_2.length c0_2, .int .i64 a0_3] 31 (0, 0))) := ⟨zq58⟩
               have n1_ : Aside0 (((w60.setCell ⟨gb367, 0, none⟩ (.string ((rd_T66 l0_1 x71_3).f0))).setCell ⟨gb367, 1, none⟩ (.string ((rd_T66 l0_1 x71_3).f1))).heap[gb367]? = some (.cells #[.string ((rd_T66 l0_1 x71_3).f0), .string ((rd_T66 l0_1 x71_3).f1)] 66 (0, 0))) := ⟨zq59⟩
               have n2_ : Aside0 (Below w.heap.size w ((w60.setCell ⟨gb367, 0, none⟩ (.string ((rd_T66 l0_1 x71_3).f0))).setCell ⟨gb367, 1, none⟩ (.string ((rd_T66 l0_1 x71_3).f1)))) := ⟨zq60⟩
               (try clear BK358)
               (try clear BK367)
               (try clear HB)
               generalize ((w60.setCell ⟨gb367, 0, none⟩ (.string ((rd_T66 l0_1 x71_3).f0))).setCell ⟨gb367, 1, none⟩ (.string ((rd_T66 l0_1 x71_3).f1))) = w63 at n0_ n1_ n2_ ⊢
               have BK358 := n0_
               have BK367 := n1_
               have HB := n2_
               clear n0_ n1_ n2_
               replace BK358 := Aside0.mk (blk_drew BK358.out)
               replace BK367 := Aside0.mk (blk_drew BK367.out)
               replace HB := Aside0.mk (below_drew1 HB.out)
               have p368 : 0 ≤ ((ji54) : Int) := of_decide_eq_true zq7
               have q368 : (ji54) < (l0_1.length : Int) := of_decide_eq_true zq7
               obtain ⟨ad368, e368, hx368_0, hx368_1⟩ := at_T66 HR0_1.out (ji54) p368 q368
               have hw368_1 := hx368_1
               have hw368_0 := hx368_0
               obtain rfl : ad366 = ad368 := (by injection e368)
               replace hx368_0 := (HB.out.cell (World.block_lt_of_cell? w _ hx368_0)).trans hx368_0
               replace hx368_1 := (HB.out.cell (World.block_lt_of_cell? w _ hx368_1)).trans hx368_1
               replace p368 := eq_true p368
               replace q368 := eq_true q368
               refine start_ (n := 22) (S := fun w' => w'.cell? ⟨gb358, 0, none⟩ = some (.int .i64 a0_0) ∧ w'.cell? ⟨gb358, 1, none⟩ = some (.slice (some ad366) l0_1.length c0_1) ∧ w'.cell? ⟨gb358, 2, none⟩ = some (.slice A0_2 l0_2.length c0_2) ∧ w'.cell? ⟨gb358, 3, none⟩ = some (.int .i64 a0_3) ∧ w'.cell? ⟨gb367, 0, none⟩ = some (.string ((rd_T66 l0_1 x71_3).f0)) ∧ w'.cell? ⟨gb367, 1, none⟩ = some (.string ((rd_T66 l0_1 x71_3).f1)) ∧ w'.cell? (ad366.add (((ji54)).toNat * 2)) = some (.string ((rd_T66 l0_1 (ji54)).f0)) ∧ w'.cell? ⟨(ad366.add (((ji54)).toNat * 2)).block, (ad366.add (((ji54)).toNat * 2)).off + 1, none⟩ = some (.string ((rd_T66 l0_1 (ji54)).f1))) (ds := []) (bA 22 0) (by kernel_rfl) rfl rfl ⟨(blk_cell BK358.out 0).trans rfl, (blk_cell BK358.out 1).trans rfl, (blk_cell BK358.out 2).trans rfl, (blk_cell BK358.out 3).trans rfl, (blk_cell BK367.out 0).trans rfl, (blk_cell BK367.out 1).trans rfl, ((HB.out.cell (World.block_lt_of_cell? w _ hw368_0)).trans hw368_0), ((HB.out.cell (World.block_lt_of_cell? w _ hw368_1)).trans hw368_1)⟩ (fun hHeld => ?_); refine with_tabW impl_isStore.tab12 impl_isStore.bits12 (fun HT_ HW_ => ?_)
               generalize w63.drew = w64 at BK358 BK367 HB hx368_0 hx368_1 hHeld ⊢
               refine pV 0 76 22 1 ?_
               refine pV 1 77 22 3 ?_
               refine pV 2 78 22 7 ?_
               refine pV 3 79 22 15 ?_
               refine pV 5 81 22 47 ?_
               refine pV 6 82 22 111 ?_
               refine pV 10 86 22 1135 ?_
               refine tV 4 80 22 1151 rfl zq324 ?_
               refine pV 7 83 22 1279 ?_
               refine pV 8 84 22 1535 ?_
               refine tV 9 85 22 2047 rfl zq324 ?_
               refine tV 11 87 22 4095 rfl zq324 ?_
               refine pV 12 88 22 8191 ?_
               refine pV 13 89 22 16383 ?_
               refine pV 14 90 22 32767 ?_
               refine pV 15 91 22 65535 ?_
               refine pV 17 93 22 196607 ?_
               refine tV 16 92 22 262143 rfl zq324 ?_
               refine tV 18 94 22 524287 rfl zq324 ?_
               refine one_ (i := 19) (N := some 95) (bA 22 1048575) rfl rfl (one_of HT_.out (by kernel_rfl)) (by decide) (fun K hK => ?_)
               refine goes_ Try.func75 (by kernel_rfl) rfl #[.string ((rd_T66 l0_1 x71_3).f1)] (by rfl) rfl rfl zq8 ?_
               with_reducible refine (impl_digestOf.calls k3 ((rd_T66 l0_1 x71_3).f1) t369 _ A58.out).mono ?_
               rintro e w65 ⟨rfl, hb⟩
               refine ⟨_, rfl, ?_⟩
               replace BK358 := bF BK358 zq52 hb
               replace BK367 := bF BK367 zq61 hb
               replace HB := sB zq60 hb
               (try clear hb)
               (try clear hb2)
               (try clear hk)
               (try clear hi)
               refine hK.out _ _ ⟨(blk_cell BK358.out 0).trans rfl, (blk_cell BK358.out 1).trans rfl, (blk_cell BK358.out 2).trans rfl, (blk_cell BK358.out 3).trans rfl, (blk_cell BK367.out 0).trans rfl, (blk_cell BK367.out 1).trans rfl, ((HB.out.cell (World.block_lt_of_cell? w _ hw368_0)).trans hw368_0), ((HB.out.cell (World.block_lt_of_cell? w _ hw368_1)).trans hw368_1)⟩ (fun hHeld => ?_)
               clear hK K
               refine norm_ (a' := ?_) ?_ ?_
               rotate_left
               exact zq327
               refine pV 20 96 22 2097151 ?_
               refine pV 21 97 22 4194303 ?_
               refine done_ (done_of HT_.out (by kernel_rfl)) ?_
               try go_wp2
               go_roundg k3
               case measure => have := HJ1.out; have := HK2.out; have := HK3.out; omega
               case rel => exact ⟨(wrap64 (x71_3 + 1)), zq6, H', ⟨zq62⟩, ⟨zq52⟩, ⟨zq60⟩⟩
              rw [if_neg c59] at H
              have c59b0 : (((rd_T66 l0_1 x71_3).f0).toList == t369.toList) = false := beq_eq_false_iff_ne.mpr c59
              have c59b1 : (((rd_T66 l0_1 x71_3).f0).toList != t369.toList) = true := bne_iff_ne.mpr c59
              obtain rfl := Option.some.inj H
              have p366 : 0 ≤ (x71_3 : Int) := of_decide_eq_true zq7
              have q366 : x71_3 < (l0_1.length : Int) := of_decide_eq_true zq7
              obtain ⟨ad366, e366, hx366_0, hx366_1⟩ := at_T66 HR0_1.out x71_3 p366 q366
              cases e366
              replace hx366_0 := (HB.out.cell (World.block_lt_of_cell? w _ hx366_0)).trans hx366_0
              replace hx366_1 := (HB.out.cell (World.block_lt_of_cell? w _ hx366_1)).trans hx366_1
              replace p366 := eq_true p366
              replace q366 := eq_true q366
              try go_wp2_with (first | ((with_reducible refine gate_dst (N := 6) rfl ?_); (try (refine gate_guard (by rfl) ?_; dsimp only)); refine box_event ?hg (N := 6) ?hd (cs := #[.string (⟨#[]⟩ : ByteArray), .string (⟨#[]⟩ : ByteArray)]) (t := 66) ?hr ?_; (case hd => rfl); (case hg => rfl); (case hr => exact zq2); intro gb367 hg w66 hbox hb; have BK367 := Aside0.mk hbox; have GW367 := Aside0.mk (zq266 : w.heap.size ≤ gb367); have GE367 := Aside0.mk (zq266 : w.heap.size ≤ gb367); replace HB := sB zq53 hb; have NB358_367 := Aside0.mk (zq269 : gb358 ≠ gb367); have NB367_358 := Aside0.mk (zq270 : gb367 ≠ gb358); replace BK358 := bF BK358 zq52 hb; clear hb hbox hg; have hnb67 := NB367_358.out; have hnc67 := NB358_367.out; obtain ⟨hcz68_0, hcz68_1, hfz68_0, hfz68_1⟩ := c2 (w := w66) BK367))
              have n0_ : Aside0 (((w66.setCell ⟨gb367, 0, none⟩ (.string ((rd_T66 l0_1 x71_3).f0))).setCell ⟨gb367, 1, none⟩ (.string ((rd_T66 l0_1 x71_3).f1))).heap[gb358]? = some (.cells #[.int .i64 a0_0, .slice (some ad366) l0_1.length c0_1, .slice A0_2 l0_2.length c0_2, .int .i64 a0_3] 31 (0, 0))) := ⟨zq58⟩
              have n1_ : Aside0 (((w66.setCell ⟨gb367, 0, none⟩ (.string ((rd_T66 l0_1 x71_3).f0))).setCell ⟨gb367, 1, none⟩ (.string ((rd_T66 l0_1 x71_3).f1))).heap[gb367]? = some (.cells #[.string ((rd_T66 l0_1 x71_3).f0), .string ((rd_T66 l0_1 x71_3).f1)] 66 (0, 0))) := ⟨zq59⟩
              have n2_ : Aside0 (Below w.heap.size w ((w66.setCell ⟨gb367, 0, none⟩ (.string ((rd_T66 l0_1 x71_3).f0))).setCell ⟨gb367, 1, none⟩ (.string ((rd_T66 l0_1 x71_3).f1)))) := ⟨zq60⟩
              (try clear BK358)
              (try clear BK367)
              (try clear HB)
              generalize ((w66.setCell ⟨gb367, 0, none⟩ (.string ((rd_T66 l0_1 x71_3).f0))).setCell ⟨gb367, 1, none⟩ (.string ((rd_T66 l0_1 x71_3).f1))) = w69 at n0_ n1_ n2_ ⊢
              have BK358 := n0_
              have BK367 := n1_
              have HB := n2_
              clear n0_ n1_ n2_
              replace BK358 := Aside0.mk (blk_drew BK358.out)
              replace BK367 := Aside0.mk (blk_drew BK367.out)
              replace HB := Aside0.mk (below_drew1 HB.out)
              have p368 : 0 ≤ ((ji54) : Int) := of_decide_eq_true zq7
              have q368 : (ji54) < (l0_1.length : Int) := of_decide_eq_true zq7
              obtain ⟨ad368, e368, hx368_0, hx368_1⟩ := at_T66 HR0_1.out (ji54) p368 q368
              have hw368_1 := hx368_1
              have hw368_0 := hx368_0
              obtain rfl : ad366 = ad368 := (by injection e368)
              replace hx368_0 := (HB.out.cell (World.block_lt_of_cell? w _ hx368_0)).trans hx368_0
              replace hx368_1 := (HB.out.cell (World.block_lt_of_cell? w _ hx368_1)).trans hx368_1
              replace p368 := eq_true p368
              replace q368 := eq_true q368
              refine start_ (n := 22) (S := fun w' => w'.cell? ⟨gb358, 0, none⟩ = some (.int .i64 a0_0) ∧ w'.cell? ⟨gb358, 1, none⟩ = some (.slice (some ad366) l0_1.length c0_1) ∧ w'.cell? ⟨gb358, 2, none⟩ = some (.slice A0_2 l0_2.length c0_2) ∧ w'.cell? ⟨gb358, 3, none⟩ = some (.int .i64 a0_3) ∧ w'.cell? ⟨gb367, 0, none⟩ = some (.string ((rd_T66 l0_1 x71_3).f0)) ∧ w'.cell? ⟨gb367, 1, none⟩ = some (.string ((rd_T66 l0_1 x71_3).f1)) ∧ w'.cell? (ad366.add (((ji54)).toNat * 2)) = some (.string ((rd_T66 l0_1 (ji54)).f0)) ∧ w'.cell? ⟨(ad366.add (((ji54)).toNat * 2)).block, (ad366.add (((ji54)).toNat * 2)).off + 1, none⟩ = some (.string ((rd_T66 l0_1 (ji54)).f1))) (ds := []) (bA 22 0) (by kernel_rfl) rfl rfl ⟨(blk_cell BK358.out 0).trans rfl, (blk_cell BK358.out 1).trans rfl, (blk_cell BK358.out 2).trans rfl, (blk_cell BK358.out 3).trans rfl, (blk_cell BK367.out 0).trans rfl, (blk_cell BK367.out 1).trans rfl, ((HB.out.cell (World.block_lt_of_cell? w _ hw368_0)).trans hw368_0), ((HB.out.cell (World.block_lt_of_cell? w _ hw368_1)).trans hw368_1)⟩ (fun hHeld => ?_); refine with_tabW impl_isStore.tab12 impl_isStore.bits12 (fun HT_ HW_ => ?_)
              generalize w69.drew = w70 at BK358 BK367 HB hx368_0 hx368_1 hHeld ⊢
              refine pV 0 76 22 1 ?_
              refine pV 1 77 22 3 ?_
              refine pV 2 78 22 7 ?_
              refine pV 3 79 22 15 ?_
              refine pV 5 81 22 47 ?_
              refine pV 6 82 22 111 ?_
              refine pV 10 86 22 1135 ?_
              refine tV 4 80 22 1151 rfl zq324 ?_
              refine pV 7 83 22 1279 ?_
              refine pV 8 84 22 1535 ?_
              refine tV 9 85 22 2047 rfl zq324 ?_
              refine tV 11 87 22 4095 rfl zq324 ?_
              refine pV 12 88 22 8191 ?_
              refine pV 13 89 22 16383 ?_
              refine pV 14 90 22 32767 ?_
              refine pV 15 91 22 65535 ?_
              refine pV 17 93 22 196607 ?_
              refine tV 16 92 22 262143 rfl zq324 ?_
              refine tV 18 94 22 524287 rfl zq324 ?_
              refine one_ (i := 19) (N := some 95) (bA 22 1048575) rfl rfl (one_of HT_.out (by kernel_rfl)) (by decide) (fun K hK => ?_)
              refine goes_ Try.func75 (by kernel_rfl) rfl #[.string ((rd_T66 l0_1 x71_3).f1)] (by rfl) rfl rfl zq8 ?_
              with_reducible refine (impl_digestOf.calls k3 ((rd_T66 l0_1 x71_3).f1) t369 _ A58.out).mono ?_
              rintro e w71 ⟨rfl, hb⟩
              refine ⟨_, rfl, ?_⟩
              replace BK358 := bF BK358 zq52 hb
              replace BK367 := bF BK367 zq61 hb
              replace HB := sB zq60 hb
              (try clear hb)
              (try clear hb2)
              (try clear hk)
              (try clear hi)
              refine hK.out _ _ ⟨(blk_cell BK358.out 0).trans rfl, (blk_cell BK358.out 1).trans rfl, (blk_cell BK358.out 2).trans rfl, (blk_cell BK358.out 3).trans rfl, (blk_cell BK367.out 0).trans rfl, (blk_cell BK367.out 1).trans rfl, ((HB.out.cell (World.block_lt_of_cell? w _ hw368_0)).trans hw368_0), ((HB.out.cell (World.block_lt_of_cell? w _ hw368_1)).trans hw368_1)⟩ (fun hHeld => ?_)
              clear hK K
              refine norm_ (a' := ?_) ?_ ?_
              rotate_left
              exact zq327
              refine pV 20 96 22 2097151 ?_
              refine pV 21 97 22 4194303 ?_
              refine done_ (done_of HT_.out (by kernel_rfl)) ?_
              try go_wp2
              go_ret
              exact ⟨zq63, zq60⟩
             rw [if_neg c57] at H
             have c57b0 : (Op.bytesLess (((rd_T66 l0_1 (ji54)).f0).toList) (((rd_T66 l0_1 x71_3).f0).toList)) = false := by simpa using c57
             clear c57
             obtain rfl := Option.some.inj H
             have p366 : 0 ≤ (x71_3 : Int) := of_decide_eq_true zq7
             have q366 : x71_3 < (l0_1.length : Int) := of_decide_eq_true zq7
             obtain ⟨ad366, e366, hx366_0, hx366_1⟩ := at_T66 HR0_1.out x71_3 p366 q366
             cases e366
             replace hx366_0 := (HB.out.cell (World.block_lt_of_cell? w _ hx366_0)).trans hx366_0
             replace hx366_1 := (HB.out.cell (World.block_lt_of_cell? w _ hx366_1)).trans hx366_1
             replace p366 := eq_true p366
             replace q366 := eq_true q366
             try go_wp2_with (first | ((with_reducible refine gate_dst (N := 6) rfl ?_); (try (refine gate_guard (by rfl) ?_; dsimp only)); refine box_event ?hg (N := 6) ?hd (cs := #[.string (⟨#[]⟩ : ByteArray), .string (⟨#[]⟩ : ByteArray)]) (t := 66) ?hr ?_; (case hd => rfl); (case hg => rfl); (case hr => exact zq2); intro gb367 hg w72 hbox hb; have BK367 := Aside0.mk hbox; have GW367 := Aside0.mk (zq266 : w.heap.size ≤ gb367); have GE367 := Aside0.mk (zq266 : w.heap.size ≤ gb367); replace HB := sB zq53 hb; have NB358_367 := Aside0.mk (zq269 : gb358 ≠ gb367); have NB367_358 := Aside0.mk (zq270 : gb367 ≠ gb358); replace BK358 := bF BK358 zq52 hb; clear hb hbox hg; have hnb73 := NB367_358.out; have hnc73 := NB358_367.out; obtain ⟨hcz74_0, hcz74_1, hfz74_0, hfz74_1⟩ := c2 (w := w72) BK367))
             have n0_ : Aside0 (((w72.setCell ⟨gb367, 0, none⟩ (.string ((rd_T66 l0_1 x71_3).f0))).setCell ⟨gb367, 1, none⟩ (.string ((rd_T66 l0_1 x71_3).f1))).heap[gb358]? = some (.cells #[.int .i64 a0_0, .slice (some ad366) l0_1.length c0_1, .slice A0_2 l0_2.length c0_2, .int .i64 a0_3] 31 (0, 0))) := ⟨zq58⟩
             have n1_ : Aside0 (((w72.setCell ⟨gb367, 0, none⟩ (.string ((rd_T66 l0_1 x71_3).f0))).setCell ⟨gb367, 1, none⟩ (.string ((rd_T66 l0_1 x71_3).f1))).heap[gb367]? = some (.cells #[.string ((rd_T66 l0_1 x71_3).f0), .string ((rd_T66 l0_1 x71_3).f1)] 66 (0, 0))) := ⟨zq59⟩
             have n2_ : Aside0 (Below w.heap.size w ((w72.setCell ⟨gb367, 0, none⟩ (.string ((rd_T66 l0_1 x71_3).f0))).setCell ⟨gb367, 1, none⟩ (.string ((rd_T66 l0_1 x71_3).f1)))) := ⟨zq60⟩
             (try clear BK358)
             (try clear BK367)
             (try clear HB)
             generalize ((w72.setCell ⟨gb367, 0, none⟩ (.string ((rd_T66 l0_1 x71_3).f0))).setCell ⟨gb367, 1, none⟩ (.string ((rd_T66 l0_1 x71_3).f1))) = w75 at n0_ n1_ n2_ ⊢
             have BK358 := n0_
             have BK367 := n1_
             have HB := n2_
             clear n0_ n1_ n2_
             replace BK358 := Aside0.mk (blk_drew BK358.out)
             replace BK367 := Aside0.mk (blk_drew BK367.out)
             replace HB := Aside0.mk (below_drew1 HB.out)
             have p368 : 0 ≤ ((ji54) : Int) := of_decide_eq_true zq7
             have q368 : (ji54) < (l0_1.length : Int) := of_decide_eq_true zq7
             obtain ⟨ad368, e368, hx368_0, hx368_1⟩ := at_T66 HR0_1.out (ji54) p368 q368
             have hw368_1 := hx368_1
             have hw368_0 := hx368_0
             obtain rfl : ad366 = ad368 := (by injection e368)
             replace hx368_0 := (HB.out.cell (World.block_lt_of_cell? w _ hx368_0)).trans hx368_0
             replace hx368_1 := (HB.out.cell (World.block_lt_of_cell? w _ hx368_1)).trans hx368_1
             replace p368 := eq_true p368
             replace q368 := eq_true q368
             refine start_ (n := 22) (S := fun w' => w'.cell? ⟨gb358, 0, none⟩ = some (.int .i64 a0_0) ∧ w'.cell? ⟨gb358, 1, none⟩ = some (.slice (some ad366) l0_1.length c0_1) ∧ w'.cell? ⟨gb358, 2, none⟩ = some (.slice A0_2 l0_2.length c0_2) ∧ w'.cell? ⟨gb358, 3, none⟩ = some (.int .i64 a0_3) ∧ w'.cell? ⟨gb367, 0, none⟩ = some (.string ((rd_T66 l0_1 x71_3).f0)) ∧ w'.cell? ⟨gb367, 1, none⟩ = some (.string ((rd_T66 l0_1 x71_3).f1)) ∧ w'.cell? (ad366.add (((ji54)).toNat * 2)) = some (.string ((rd_T66 l0_1 (ji54)).f0)) ∧ w'.cell? ⟨(ad366.add (((ji54)).toNat * 2)).block, (ad366.add (((ji54)).toNat * 2)).off + 1, none⟩ = some (.string ((rd_T66 l0_1 (ji54)).f1))) (ds := []) (bA 22 0) (by kernel_rfl) rfl rfl ⟨(blk_cell BK358.out 0).trans rfl, (blk_cell BK358.out 1).trans rfl, (blk_cell BK358.out 2).trans rfl, (blk_cell BK358.out 3).trans rfl, (blk_cell BK367.out 0).trans rfl, (blk_cell BK367.out 1).trans rfl, ((HB.out.cell (World.block_lt_of_cell? w _ hw368_0)).trans hw368_0), ((HB.out.cell (World.block_lt_of_cell? w _ hw368_1)).trans hw368_1)⟩ (fun hHeld => ?_); refine with_tabW impl_isStore.tab12 impl_isStore.bits12 (fun HT_ HW_ => ?_)
             generalize w75.drew = w76 at BK358 BK367 HB hx368_0 hx368_1 hHeld ⊢
             refine pV 0 76 22 1 ?_
             refine pV 1 77 22 3 ?_
             refine pV 2 78 22 7 ?_
             refine pV 3 79 22 15 ?_
             refine pV 5 81 22 47 ?_
             refine pV 6 82 22 111 ?_
             refine pV 10 86 22 1135 ?_
             refine tV 4 80 22 1151 rfl zq324 ?_
             refine pV 7 83 22 1279 ?_
             refine pV 8 84 22 1535 ?_
             refine tV 9 85 22 2047 rfl zq324 ?_
             refine tV 11 87 22 4095 rfl zq324 ?_
             refine pV 12 88 22 8191 ?_
             refine pV 13 89 22 16383 ?_
             refine pV 14 90 22 32767 ?_
             refine pU 15 91 22 65535 ?_
             refine pU 16 92 22 131071 ?_
             refine pU 17 93 22 262143 ?_
             refine pU 18 94 22 524287 ?_
             refine pU 19 95 22 1048575 ?_
             refine pU 20 96 22 2097151 ?_
             refine pV 21 97 22 4194303 ?_
             refine done_ (done_of HT_.out (by kernel_rfl)) ?_
             try go_wp2
             go_ret
             exact ⟨zq63, zq60⟩
            rw [if_neg c56] at H
            exact absurd H (by simp)
           rw [if_neg c55] at H
           exact absurd H (by simp)
          rw [if_neg c53] at H
          have c53b0 : decide (0 < x71_3) = false := decide_eq_false c53
          clear c53
          replace H := Option.bind_eq_some_iff.mp H
          obtain ⟨t370, A770, H⟩ := H
          try dsimp only at H
          have A77 := Aside0.mk A770
          clear A770
          by_cases c78 : ((rd_T66 l0_1 x71_3).f0).toList = t370.toList
          ·
           rw [if_pos c78] at H
           have c78b0 : (((rd_T66 l0_1 x71_3).f0).toList == t370.toList) = true := beq_iff_eq.mpr c78
           have c78b1 : (((rd_T66 l0_1 x71_3).f0).toList != t370.toList) = false := bne_eq_false_iff_eq.mpr c78
           clear c78
           have H' := Aside0.mk H
           clear H
           have p366 : 0 ≤ (x71_3 : Int) := of_decide_eq_true zq7
           have q366 : x71_3 < (l0_1.length : Int) := of_decide_eq_true zq7
           obtain ⟨ad366, e366, hx366_0, hx366_1⟩ := at_T66 HR0_1.out x71_3 p366 q366
           cases e366
           replace hx366_0 := (HB.out.cell (World.block_lt_of_cell? w _ hx366_0)).trans hx366_0
           replace hx366_1 := (HB.out.cell (World.block_lt_of_cell? w _ hx366_1)).trans hx366_1
           replace p366 := eq_true p366
           replace q366 := eq_true q366
           try go_wp2_with (first | ((with_reducible refine gate_dst (N := 6) rfl ?_); (try (refine gate_guard (by rfl) ?_; dsimp only)); refine box_event ?hg (N := 6) ?hd (cs := #[.string (⟨#[]⟩ : ByteArray), .string (⟨#[]⟩ : ByteArray)]) (t := 66) ?hr ?_; (case hd => rfl); (case hg => rfl); (case hr => exact zq2); intro gb367 hg w79 hbox hb; have BK367 := Aside0.mk hbox; have GW367 := Aside0.mk (zq266 : w.heap.size ≤ gb367); have GE367 := Aside0.mk (zq266 : w.heap.size ≤ gb367); replace HB := sB zq53 hb; have NB358_367 := Aside0.mk (zq269 : gb358 ≠ gb367); have NB367_358 := Aside0.mk (zq270 : gb367 ≠ gb358); replace BK358 := bF BK358 zq52 hb; clear hb hbox hg; have hnb80 := NB367_358.out; have hnc80 := NB358_367.out; obtain ⟨hcz81_0, hcz81_1, hfz81_0, hfz81_1⟩ := c2 (w := w79) BK367))
           have n0_ : Aside0 (((w79.setCell ⟨gb367, 0, none⟩ (.string ((rd_T66 l0_1 x71_3).f0))).setCell ⟨gb367, 1, none⟩ (.string ((rd_T66 l0_1 x71_3).f1))).heap[gb358]? = some (.cells #[.int .i64 a0_0, .slice (some ad366) l0_1.length c0_1, .slice A0_2 l0_2.length c0_2, .int .i64 a0_3] 31 (0, 0))) := ⟨zq58⟩
           have n1_ : Aside0 (((w79.setCell ⟨gb367, 0, none⟩ (.string ((rd_T66 l0_1 x71_3).f0))).setCell ⟨gb367, 1, none⟩ (.string ((rd_T66 l0_1 x71_3).f1))).heap[gb367]? = some (.cells #[.string ((rd_T66 l0_1 x71_3).f0), .string ((rd_T66 l0_1 x71_3).f1)] 66 (0, 0))) := ⟨zq59⟩
           have n2_ : Aside0 (Below w.heap.size w ((w79.setCell ⟨gb367, 0, none⟩ (.string ((rd_T66 l0_1 x71_3).f0))).setCell ⟨gb367, 1, none⟩ (.string ((rd_T66 l0_1 x71_3).f1)))) := ⟨zq60⟩
           (try clear BK358)
           (try clear BK367)
           (try clear HB)
           generalize ((w79.setCell ⟨gb367, 0, none⟩ (.string ((rd_T66 l0_1 x71_3).f0))).setCell ⟨gb367, 1, none⟩ (.string ((rd_T66 l0_1 x71_3).f1))) = w82 at n0_ n1_ n2_ ⊢
           have BK358 := n0_
           have BK367 := n1_
           have HB := n2_
           clear n0_ n1_ n2_
           replace BK358 := Aside0.mk (blk_drew BK358.out)
           replace BK367 := Aside0.mk (blk_drew BK367.out)
           replace HB := Aside0.mk (below_drew1 HB.out)
           refine start_ (n := 22) (S := fun w' => w'.cell? ⟨gb367, 0, none⟩ = some (.string ((rd_T66 l0_1 x71_3).f0)) ∧ w'.cell? ⟨gb367, 1, none⟩ = some (.string ((rd_T66 l0_1 x71_3).f1))) (ds := []) (bA 22 0) (by kernel_rfl) rfl rfl ⟨(blk_cell BK367.out 0).trans rfl, (blk_cell BK367.out 1).trans rfl⟩ (fun hHeld => ?_); refine with_tabW impl_isStore.tab12 impl_isStore.bits12 (fun HT_ HW_ => ?_)
           generalize w82.drew = w83 at BK358 BK367 HB hHeld ⊢
           refine pV 0 76 22 1 ?_
           refine pV 1 77 22 3 ?_
           refine pV 2 78 22 7 ?_
           refine pU 3 79 22 15 ?_
           refine pU 4 80 22 31 ?_
           refine pU 5 81 22 63 ?_
           refine pU 6 82 22 127 ?_
           refine pU 7 83 22 255 ?_
           refine pU 8 84 22 511 ?_
           refine pU 9 85 22 1023 ?_
           refine pU 10 86 22 2047 ?_
           refine pU 11 87 22 4095 ?_
           refine pU 12 88 22 8191 ?_
           refine pV 13 89 22 16383 ?_
           refine pV 14 90 22 32767 ?_
           refine pV 15 91 22 65535 ?_
           refine pV 17 93 22 196607 ?_
           refine tV 16 92 22 262143 rfl zq316 ?_
           refine tV 18 94 22 524287 rfl zq316 ?_
           refine one_ (i := 19) (N := some 95) (bA 22 1048575) rfl rfl (one_of HT_.out (by kernel_rfl)) (by decide) (fun K hK => ?_)
           refine goes_ Try.func75 (by kernel_rfl) rfl #[.string ((rd_T66 l0_1 x71_3).f1)] (by rfl) rfl rfl zq8 ?_
           with_reducible refine (impl_digestOf.calls k3 ((rd_T66 l0_1 x71_3).f1) t370 _ A77.out).mono ?_
           rintro e w84 ⟨rfl, hb⟩
           refine ⟨_, rfl, ?_⟩
           replace BK358 := bF BK358 zq52 hb
           replace BK367 := bF BK367 zq61 hb
           replace HB := sB zq60 hb
           (try clear hb)
           (try clear hb2)
           (try clear hk)
           (try clear hi)
           refine hK.out _ _ ⟨(blk_cell BK367.out 0).trans rfl, (blk_cell BK367.out 1).trans rfl⟩ (fun hHeld => ?_)
           clear hK K
           refine norm_ (a' := ?_) ?_ ?_
           rotate_left
           exact zq327
           refine pV 20 96 22 2097151 ?_
           refine pV 21 97 22 4194303 ?_
           refine done_ (done_of HT_.out (by kernel_rfl)) ?_
           try go_wp2
           go_roundg k3
           case measure => have := HJ1.out; have := HK2.out; have := HK3.out; omega
           case rel => exact ⟨(wrap64 (x71_3 + 1)), zq6, H', ⟨zq62⟩, ⟨zq52⟩, ⟨zq60⟩⟩
          rw [if_neg c78] at H
          have c78b0 : (((rd_T66 l0_1 x71_3).f0).toList == t370.toList) = false := beq_eq_false_iff_ne.mpr c78
          have c78b1 : (((rd_T66 l0_1 x71_3).f0).toList != t370.toList) = true := bne_iff_ne.mpr c78
          obtain rfl := Option.some.inj H
          have p366 : 0 ≤ (x71_3 : Int) := of_decide_eq_true zq7
          have q366 : x71_3 < (l0_1.length : Int) := of_decide_eq_true zq7
          obtain ⟨ad366, e366, hx366_0, hx366_1⟩ := at_T66 HR0_1.out x71_3 p366 q366
          cases e366
          replace hx366_0 := (HB.out.cell (World.block_lt_of_cell? w _ hx366_0)).trans hx366_0
          replace hx366_1 := (HB.out.cell (World.block_lt_of_cell? w _ hx366_1)).trans hx366_1
          replace p366 := eq_true p366
          replace q366 := eq_true q366
          try go_wp2_with (first | ((with_reducible refine gate_dst (N := 6) rfl ?_); (try (refine gate_guard (by rfl) ?_; dsimp only)); refine box_event ?hg (N := 6) ?hd (cs := #[.string (⟨#[]⟩ : ByteArray), .string (⟨#[]⟩ : ByteArray)]) (t := 66) ?hr ?_; (case hd => rfl); (case hg => rfl); (case hr => exact zq2); intro gb367 hg w85 hbox hb; have BK367 := Aside0.mk hbox; have GW367 := Aside0.mk (zq266 : w.heap.size ≤ gb367); have GE367 := Aside0.mk (zq266 : w.heap.size ≤ gb367); replace HB := sB zq53 hb; have NB358_367 := Aside0.mk (zq269 : gb358 ≠ gb367); have NB367_358 := Aside0.mk (zq270 : gb367 ≠ gb358); replace BK358 := bF BK358 zq52 hb; clear hb hbox hg; have hnb86 := NB367_358.out; have hnc86 := NB358_367.out; obtain ⟨hcz87_0, hcz87_1, hfz87_0, hfz87_1⟩ := c2 (w := w85) BK367))
          have n0_ : Aside0 (((w85.setCell ⟨gb367, 0, none⟩ (.string ((rd_T66 l0_1 x71_3).f0))).setCell ⟨gb367, 1, none⟩ (.string ((rd_T66 l0_1 x71_3).f1))).heap[gb358]? = some (.cells #[.int .i64 a0_0, .slice (some ad366) l0_1.length c0_1, .slice A0_2 l0_2.length c0_2, .int .i64 a0_3] 31 (0, 0))) := ⟨zq58⟩
          have n1_ : Aside0 (((w85.setCell ⟨gb367, 0, none⟩ (.string ((rd_T66 l0_1 x71_3).f0))).setCell ⟨gb367, 1, none⟩ (.string ((rd_T66 l0_1 x71_3).f1))).heap[gb367]? = some (.cells #[.string ((rd_T66 l0_1 x71_3).f0), .string ((rd_T66 l0_1 x71_3).f1)] 66 (0, 0))) := ⟨zq59⟩
          have n2_ : Aside0 (Below w.heap.size w ((w85.setCell ⟨gb367, 0, none⟩ (.string ((rd_T66 l0_1 x71_3).f0))).setCell ⟨gb367, 1, none⟩ (.string ((rd_T66 l0_1 x71_3).f1)))) := ⟨zq60⟩
          (try clear BK358)
          (try clear BK367)
          (try clear HB)
          generalize ((w85.setCell ⟨gb367, 0, none⟩ (.string ((rd_T66 l0_1 x71_3).f0))).setCell ⟨gb367, 1, none⟩ (.string ((rd_T66 l0_1 x71_3).f1))) = w88 at n0_ n1_ n2_ ⊢
          have BK358 := n0_
          have BK367 := n1_
          have HB := n2_
          clear n0_ n1_ n2_
          replace BK358 := Aside0.mk (blk_drew BK358.out)
          replace BK367 := Aside0.mk (blk_drew BK367.out)
          replace HB := Aside0.mk (below_drew1 HB.out)
          refine start_ (n := 22) (S := fun w' => w'.cell? ⟨gb367, 0, none⟩ = some (.string ((rd_T66 l0_1 x71_3).f0)) ∧ w'.cell? ⟨gb367, 1, none⟩ = some (.string ((rd_T66 l0_1 x71_3).f1))) (ds := []) (bA 22 0) (by kernel_rfl) rfl rfl ⟨(blk_cell BK367.out 0).trans rfl, (blk_cell BK367.out 1).trans rfl⟩ (fun hHeld => ?_); refine with_tabW impl_isStore.tab12 impl_isStore.bits12 (fun HT_ HW_ => ?_)
          generalize w88.drew = w89 at BK358 BK367 HB hHeld ⊢
          refine pV 0 76 22 1 ?_
          refine pV 1 77 22 3 ?_
          refine pV 2 78 22 7 ?_
          refine pU 3 79 22 15 ?_
          refine pU 4 80 22 31 ?_
          refine pU 5 81 22 63 ?_
          refine pU 6 82 22 127 ?_
          refine pU 7 83 22 255 ?_
          refine pU 8 84 22 511 ?_
          refine pU 9 85 22 1023 ?_
          refine pU 10 86 22 2047 ?_
          refine pU 11 87 22 4095 ?_
          refine pU 12 88 22 8191 ?_
          refine pV 13 89 22 16383 ?_
          refine pV 14 90 22 32767 ?_
          refine pV 15 91 22 65535 ?_
          refine pV 17 93 22 196607 ?_
          refine tV 16 92 22 262143 rfl zq316 ?_
          refine tV 18 94 22 524287 rfl zq316 ?_
          refine one_ (i := 19) (N := some 95) (bA 22 1048575) rfl rfl (one_of HT_.out (by kernel_rfl)) (by decide) (fun K hK => ?_)
          refine goes_ Try.func75 (by kernel_rfl) rfl #[.string ((rd_T66 l0_1 x71_3).f1)] (by rfl) rfl rfl zq8 ?_
          with_reducible refine (impl_digestOf.calls k3 ((rd_T66 l0_1 x71_3).f1) t370 _ A77.out).mono ?_
          rintro e w90 ⟨rfl, hb⟩
          refine ⟨_, rfl, ?_⟩
          replace BK358 := bF BK358 zq52 hb
          replace BK367 := bF BK367 zq61 hb
          replace HB := sB zq60 hb
          (try clear hb)
          (try clear hb2)
          (try clear hk)
          (try clear hi)
          refine hK.out _ _ ⟨(blk_cell BK367.out 0).trans rfl, (blk_cell BK367.out 1).trans rfl⟩ (fun hHeld => ?_)
          clear hK K
          refine norm_ (a' := ?_) ?_ ?_
          rotate_left
          exact zq327
          refine pV 20 96 22 2097151 ?_
          refine pV 21 97 22 4194303 ?_
          refine done_ (done_of HT_.out (by kernel_rfl)) ?_
          try go_wp2
          go_ret
          exact ⟨zq4, zq60⟩
         rw [if_neg c52] at H
         exact absurd H (by simp)
        rw [if_neg c51] at H
        exact absurd H (by simp)
       rw [if_neg c50] at H
       have c50b0 := decide_eq_false c50
       clear c50
       obtain rfl := Option.some.inj H
       go_wp2
       go_ret
       exact ⟨zq4, zq53⟩

end Go.Proofs.Ytacaeebjanglgaa.QFnExactDropBlob
