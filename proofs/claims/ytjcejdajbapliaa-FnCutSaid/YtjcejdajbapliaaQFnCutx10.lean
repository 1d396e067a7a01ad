/- Written by wip/myprint.py of this repo (the kit's print, with additions of this session). -/
import Derived.Test.YtjcejdajbapliaaQFnCutx0
import Derived.Test.YtjcejdajbapliaaQFnCutx9
set_option maxRecDepth 100000
namespace Go.Proofs.Ytjcejdajbapliaa.QFnCut
open Go.RowKit Go.Proofs.YtjcejdajbapliaaW.PrintWords Go.Proofs.YtjcejdajbapliaaW.PrintLast Go.Proofs.YtjcejdajbapliaaW.PrintMore
attribute [local go_sem] max2_int min2_int max_two min_two max_three min_three max_four min_four   -- for this text's walks alone
set_option linter.unusedVariables false
set_option linter.unusedSimpArgs false

/-! ### slices_Index_int64_int64: function 114 -/
def slices_Index_int64_int64.l0 : Nat → List Int → Int → Int → Int → Option (Int)
 | 0, _, _, _, _ => none
 | k + 1, x0, x1, x7, x8 => if x8 < x7 then (if 0 ≤ x8 then (if x8 < (x0.length : Int) then (if x1 = (rd x0 x8) then (some x8) else (slices_Index_int64_int64.l0 k x0 x1 x7 (wrap64 (x8 + 1)))) else (none)) else (none)) else (some (-1))
def slices_Index_int64_int64.f (k : Nat) (l0 : List Int) (a1 : Int) : Option (Int) := slices_Index_int64_int64.l0 k l0 a1 (l0.length : Int) 0
theorem slices_Index_int64_int64.mono_l : ∀ k, (∀ y0 y1 y2 y3, LeO (slices_Index_int64_int64.l0 k y0 y1 y2 y3) (slices_Index_int64_int64.l0 (k + 1) y0 y1 y2 y3))
 | 0 => fun _ _ _ _ r h => by simp [slices_Index_int64_int64.l0] at h
 | k + 1 => by
  have ih0 := slices_Index_int64_int64.mono_l k
  ·
   intro y0 y1 y2 y3
   unfold slices_Index_int64_int64.l0
   repeat' first
   | (with_reducible exact ih0 _ _ _ _)
   | (with_reducible exact LeO.refl _)
   | (with_reducible exact LeO.none _)
   | (with_reducible refine LeO.ite ?_ ?_)
   | (with_reducible refine LeO.bind ?_ (fun _ => ?_))
   | exact ih0 _ _ _ _
   | exact LeO.none _
   | refine LeO.ite ?_ ?_
   | refine LeO.bind ?_ (fun _ => ?_)
theorem slices_Index_int64_int64.mono : ∀ a0 a1 k, LeO (slices_Index_int64_int64.f k a0 a1) (slices_Index_int64_int64.f (k + 1) a0 a1) := by
 intro a0 a1 k
 have ih0 := slices_Index_int64_int64.mono_l k
 unfold slices_Index_int64_int64.f
 repeat' first
   | (with_reducible exact ih0 _ _ _ _)
   | (with_reducible exact LeO.refl _)
   | (with_reducible exact LeO.none _)
   | (with_reducible refine LeO.ite ?_ ?_)
   | (with_reducible refine LeO.bind ?_ (fun _ => ?_))
   | exact ih0 _ _ _ _
   | exact LeO.none _
   | refine LeO.ite ?_ ?_
   | refine LeO.bind ?_ (fun _ => ?_)
set_option maxHeartbeats 8000000 in
set_option maxRecDepth 100000 in
theorem slices_Index_int64_int64.calls (k : Nat) (A0 : Option Addr) (c0 : Nat) (l0 : List Int) (a1 : Int) (r : Int) (w : World) (hr0 : Kd.C (Kd.int .i64) w A0 l0.length l0) (hc0 : l0.length ≤ c0) (h : slices_Index_int64_int64.f k l0 a1 = some r) :
  Calls Try.prog 114 #[.slice A0 l0.length c0, .int .i64 a1] w fun e w' => e = .returned (.int .i64 r) ∧ Drawn0 w w' := by
 have HR0 := Aside0.mk hr0
 have HC0 := Aside0.mk hc0
 clear hr0 hc0
 have H : (slices_Index_int64_int64.l0 k l0 a1 (l0.length : Int) 0) = some r := h
 clear h
 have H' := Aside0.mk H
 clear H
 go_enter Try.func114, Try.ntmps114
 go_wp2
 go_loopg [8] k (fun kq v8 w' => ∃ (x8_1 : Int), v8 = .int .i64 x8_1 ∧ Aside0 (slices_Index_int64_int64.l0 kq l0 a1 (l0.length : Int) x8_1 = some r) ∧ Aside0 (kq ≤ k) ∧ Drawn0 w w')
 case atStart => exact ⟨(0), zq1, H', ⟨Nat.le_refl _⟩, zq2⟩
 case round =>
  clear H'
  try clear c1
  try clear p2
  obtain ⟨x8_1, rfl, HA, HK1, ⟨m1, rfl⟩⟩ := hrel
  cases gk with
  | zero => exact absurd HA.out (by simp [slices_Index_int64_int64.l0])
  | succ k1 =>
   have H := HA.out
   clear HA
   simp only [slices_Index_int64_int64.l0] at H
   by_cases c3 : x8_1 < (l0.length : Int)
   ·
    rw [if_pos c3] at H
    have c3b0 : decide (x8_1 < (l0.length : Int)) = true := decide_eq_true c3
    clear c3
    by_cases c4 : 0 ≤ x8_1
    ·
     rw [if_pos c4] at H
     have c4b0 : decide (0 ≤ x8_1) = true := decide_eq_true c4
     clear c4
     by_cases c5 : x8_1 < (l0.length : Int)
     ·
      rw [if_pos c5] at H
      have c5b0 : decide (x8_1 < (l0.length : Int)) = true := decide_eq_true c5
      clear c5
      by_cases c6 : a1 = (rd l0 x8_1)
      ·
       rw [if_pos c6] at H
       have c6b0 : (a1 == (rd l0 x8_1)) = true := beq_iff_eq.mpr c6
       have c6b1 : (a1 != (rd l0 x8_1)) = false := bne_eq_false_iff_eq.mpr c6
       clear c6
       obtain rfl := Option.some.inj H
       have p273 : 0 ≤ (x8_1 : Int) := of_decide_eq_true zq3
       have q273 : x8_1 < (l0.length : Int) := of_decide_eq_true zq3
       obtain ⟨ad273, e273, hx273_0⟩ := Kd.at_int HR0.out x8_1 p273 q273
       cases e273
       replace p273 := eq_true p273
       replace q273 := eq_true q273
       go_wp2
       go_ret
       exact ⟨zq1, zq2⟩
      ·
       rw [if_neg c6] at H
       have c6b0 : (a1 == (rd l0 x8_1)) = false := beq_eq_false_iff_ne.mpr c6
       have c6b1 : (a1 != (rd l0 x8_1)) = true := bne_iff_ne.mpr c6
       have H' := Aside0.mk H
       clear H
       have p273 : 0 ≤ (x8_1 : Int) := of_decide_eq_true zq3
       have q273 : x8_1 < (l0.length : Int) := of_decide_eq_true zq3
       obtain ⟨ad273, e273, hx273_0⟩ := Kd.at_int HR0.out x8_1 p273 q273
       cases e273
       replace p273 := eq_true p273
       replace q273 := eq_true q273
       go_wp2
       go_roundg k1
       case measure => have := HK1.out; omega
       case rel => exact ⟨(wrap64 (x8_1 + 1)), zq1, H', ⟨zq4⟩, zq2⟩
     ·
      rw [if_neg c5] at H
      exact absurd H (by simp)
    exact zq237
   ·
    rw [if_neg c3] at H
    have c3b0 : decide (x8_1 < (l0.length : Int)) = false := decide_eq_false c3
    clear c3
    obtain rfl := Option.some.inj H
    go_wp2
    go_ret
    exact ⟨zq1, zq2⟩

/-! ### slices_Contains_int64_int64: function 98 -/
def slices_Contains_int64_int64.f (k : Nat) (l0 : List Int) (a1 : Int) : Option (Bool) := (slices_Index_int64_int64.f k l0 a1).bind fun t274 => (some (decide (t274 ≥ 0)))
theorem slices_Contains_int64_int64.mono : ∀ a0 a1 k, LeO (slices_Contains_int64_int64.f k a0 a1) (slices_Contains_int64_int64.f (k + 1) a0 a1) := by
 intro a0 a1 k
 unfold slices_Contains_int64_int64.f
 repeat' first
   | (with_reducible exact slices_Index_int64_int64.mono _ _ _)
   | (with_reducible exact LeO.refl _)
   | (with_reducible exact LeO.none _)
   | (with_reducible refine LeO.ite ?_ ?_)
   | (with_reducible refine LeO.bind ?_ (fun _ => ?_))
   | exact slices_Index_int64_int64.mono _ _ _
   | exact LeO.none _
   | refine LeO.ite ?_ ?_
   | refine LeO.bind ?_ (fun _ => ?_)
set_option maxHeartbeats 8000000 in
set_option maxRecDepth 100000 in
theorem slices_Contains_int64_int64.calls (k : Nat) (A0 : Option Addr) (c0 : Nat) (l0 : List Int) (a1 : Int) (r : Bool) (w : World) (hr0 : Kd.C (Kd.int .i64) w A0 l0.length l0) (hc0 : l0.length ≤ c0) (h : slices_Contains_int64_int64.f k l0 a1 = some r) :
  Calls Try.prog 98 #[.slice A0 l0.length c0, .int .i64 a1] w fun e w' => e = .returned (.bool r) ∧ Drawn0 w w' := by
 have HR0 := Aside0.mk hr0
 have HC0 := Aside0.mk hc0
 clear hr0 hc0
 have H : ((slices_Index_int64_int64.f k l0 a1).bind fun t274 => (some (decide (t274 ≥ 0)))) = some r := h
 clear h
 replace H := Option.bind_eq_some_iff.mp H
 obtain ⟨t274, A30, H⟩ := H
 replace H : (some (decide (t274 ≥ 0))) = some r := H
 have A3 := Aside0.mk A30
 clear A30
 obtain rfl := Option.some.inj H
 go_enter Try.func98, Try.ntmps98
 go_wp2_with (first | ((with_reducible refine gate_callee (f := 114) rfl ?_); refine goesL_ (some 7) rfl rfl Try.func114 (by kernel_rfl) rfl #[.slice A0 l0.length c0, .int .i64 a1] rfl zq12 ?_; (with_reducible refine (slices_Index_int64_int64.calls k _ _ l0 a1 t274 _ ?side1 ?side2 A3.out).mono ?_); (case side1 => exact zq13); (case side2 => exact zq14); rintro e w' ⟨rfl, ⟨nd, rfl⟩⟩; refine ⟨_, rfl, ?_⟩))
 go_ret
 exact ⟨zq1, zq2⟩

/-! ### impl_Cutting: function 56 -/
def impl_Cutting.l0 : Nat → List Int → List (S59) → Int → Int → Int → List (S59) → Int → List (S59) → Option (Int × (List (S59)) × Int)
 | 0, _, _, _, _, _, _, _, _ => none
 | k + 1, x1, x17, x18, x19, x276000, x276001, x279000, x279001 => if x19 < x18 then (if 0 ≤ x19 then (if x19 < (x17.length : Int) then ((slices_Contains_int64_int64.f k x1 ((rd_T59 x17 x19).f1)).bind fun t281 => ((slices_Contains_int64_int64.f k x1 ((rd_T59 x17 x19).f2)).bind fun t282 => (if (t281 == t282) = true then (if x279001.length < 3518437208883 then (impl_Cutting.l0 k x1 x17 x18 (wrap64 (x19 + 1)) x276000 x276001 x279000 (x279001 ++ [(⟨(rd_T59 x17 x19).f0, (rd_T59 x17 x19).f1, (rd_T59 x17 x19).f2, (rd_T59 x17 x19).f3⟩ : S59)])) else (none)) else (impl_Cutting.l0 k x1 x17 x18 (wrap64 (x19 + 1)) x276000 x276001 x279000 x279001)))) else (none)) else (none)) else (some (x279000, x279001, wrap64 ((x276001.length : Int) - (x279001.length : Int))))
def impl_Cutting.f (k : Nat) (a0_0 : Int) (l0_1 : List (S59)) (l1 : List Int) : Option (Int × (List (S59)) × Int) := (impl_isNet.f k a0_0 l0_1).bind fun t277 => (if t277 = true then (impl_Cutting.l0 k l1 l0_1 (l0_1.length : Int) 0 a0_0 l0_1 a0_0 ([] : List (S59))) else (some (0, ([] : List (S59)), (-1))))
theorem impl_Cutting.mono_l : ∀ k, (∀ y0 y1 y2 y3 y4 y5 y6 y7, LeO (impl_Cutting.l0 k y0 y1 y2 y3 y4 y5 y6 y7) (impl_Cutting.l0 (k + 1) y0 y1 y2 y3 y4 y5 y6 y7))
 | 0 => fun _ _ _ _ _ _ _ _ r h => by simp [impl_Cutting.l0] at h
 | k + 1 => by
  have ih0 := impl_Cutting.mono_l k
  ·
   intro y0 y1 y2 y3 y4 y5 y6 y7
   unfold impl_Cutting.l0
   repeat' first
   | (with_reducible exact ih0 _ _ _ _ _ _ _ _)
   | (with_reducible exact impl_isNet.mono _ _ _)
   | (with_reducible exact slices_Contains_int64_int64.mono _ _ _)
   | (with_reducible exact LeO.refl _)
   | (with_reducible exact LeO.none _)
   | (with_reducible refine LeO.ite ?_ ?_)
   | (with_reducible refine LeO.bind ?_ (fun _ => ?_))
   | exact ih0 _ _ _ _ _ _ _ _
   | exact impl_isNet.mono _ _ _
   | exact slices_Contains_int64_int64.mono _ _ _
   | exact LeO.none _
   | refine LeO.ite ?_ ?_
   | refine LeO.bind ?_ (fun _ => ?_)
theorem impl_Cutting.mono : ∀ a0 a1 a2 k, LeO (impl_Cutting.f k a0 a1 a2) (impl_Cutting.f (k + 1) a0 a1 a2) := by
 intro a0 a1 a2 k
 have ih0 := impl_Cutting.mono_l k
 unfold impl_Cutting.f
 repeat' first
   | (with_reducible exact ih0 _ _ _ _ _ _ _ _)
   | (with_reducible exact impl_isNet.mono _ _ _)
   | (with_reducible exact slices_Contains_int64_int64.mono _ _ _)
   | (with_reducible exact LeO.refl _)
   | (with_reducible exact LeO.none _)
   | (with_reducible refine LeO.ite ?_ ?_)
   | (with_reducible refine LeO.bind ?_ (fun _ => ?_))
   | exact ih0 _ _ _ _ _ _ _ _
   | exact impl_isNet.mono _ _ _
   | exact slices_Contains_int64_int64.mono _ _ _
   | exact LeO.none _
   | refine LeO.ite ?_ ?_
   | refine LeO.bind ?_ (fun _ => ?_)
def impl_Cutting.T7 : Bool × List (List Nat × List Nat) := (true, [([], []), ([], []), ([1], [1]), ([0, 2], [0, 2]), ([], []), ([], []), ([5], [5]), ([4, 6, 3], [4, 6]), ([3, 7], [3, 7])])
def impl_Cutting.B7 : List Nat := [0, 0, 2, 7, 0, 0, 32, 127, 255]
theorem impl_Cutting.tab7 : rtab .any (opsOf Try.f56 7) = impl_Cutting.T7 := by kernel_rfl
theorem impl_Cutting.bits7 : waitsOk impl_Cutting.T7.2 impl_Cutting.B7 = true := by kernel_rfl
def impl_Cutting.T10 : Bool × List (List Nat × List Nat) := (true, [([], []), ([], []), ([1], [1]), ([2], [2]), ([], []), ([4], [4]), ([5], [5]), ([3, 6], [3, 6]), ([0, 0], [0]), ([7, 8, 0, 1, 2, 3, 4, 5, 6, 7, 8], [7])])
def impl_Cutting.B10 : List Nat := [0, 0, 2, 6, 0, 16, 48, 126, 1, 511]
theorem impl_Cutting.tab10 : rtab .any (opsOf Try.f56 10) = impl_Cutting.T10 := by kernel_rfl
theorem impl_Cutting.bits10 : waitsOk impl_Cutting.T10.2 impl_Cutting.B10 = true := by kernel_rfl
set_option maxHeartbeats 8000000 in
set_option maxRecDepth 100000 in
theorem impl_Cutting.calls (k : Nat) (a0_0 : Int) (A0_1 : Option Addr) (c0_1 : Nat) (l0_1 : List (S59)) (A1 : Option Addr) (c1 : Nat) (l1 : List Int) (r1 : Int) (r2 : List (S59)) (r3 : Int) (w : World) (hr0_1 : Kd.C k59 w A0_1 l0_1.length l0_1) (hc0_1 : l0_1.length ≤ c0_1) (hr1 : Kd.C (Kd.int .i64) w A1 l1.length l1) (hc1 : l1.length ≤ c1) (h : impl_Cutting.f k a0_0 l0_1 l1 = some (r1, r2, r3)) :
  Calls Try.prog 56 #[.agg #[.int .i64 a0_0, .slice A0_1 l0_1.length c0_1], .slice A1 l1.length c1] w fun e w' => ∃ v1_ : Value, e = .returned (.tuple #[.agg #[.int .i64 r1, v1_], .int .i64 r3]) ∧ Kd.R k59 59 w' w.heap.size (fun _ => True) v1_ r2 ∧ Below w.heap.size w w' := by
 have hu57 := Try.underlying57
 have hu59 := Try.underlying59
 have HR0_1 := Aside0.mk hr0_1
 have HC0_1 := Aside0.mk hc0_1
 clear hr0_1 hc0_1
 have HR1 := Aside0.mk hr1
 have HC1 := Aside0.mk hc1
 clear hr1 hc1
 have HB := Aside0.mk (Below.refl w.heap.size w)
 have H : ((impl_isNet.f k a0_0 l0_1).bind fun t277 => (if t277 = true then (impl_Cutting.l0 k l1 l0_1 (l0_1.length : Int) 0 a0_0 l0_1 a0_0 ([] : List (S59))) else (some (0, ([] : List (S59)), (-1))))) = some (r1, r2, r3) := h
 clear h
 replace H := Option.bind_eq_some_iff.mp H
 obtain ⟨t277, A30, H⟩ := H
 replace H : (if t277 = true then (impl_Cutting.l0 k l1 l0_1 (l0_1.length : Int) 0 a0_0 l0_1 a0_0 ([] : List (S59))) else (some (0, ([] : List (S59)), (-1)))) = some (r1, r2, r3) := H
 have A3 := Aside0.mk A30
 clear A30
 by_cases c4 : t277 = true
 ·
  subst c4
  have H1 : (impl_Cutting.l0 k l1 l0_1 (l0_1.length : Int) 0 a0_0 l0_1 a0_0 ([] : List (S59))) = some (r1, r2, r3) := by rw [if_pos rfl] at H; exact H
  clear H
  have H := H1
  clear H1
  have H' := Aside0.mk H
  clear H
  go_enter Try.func56, Try.ntmps56
  go_wp2_with (first | ((with_reducible refine gate_dst (N := 2) rfl ?_); refine box_event ?hg (N := 2) ?hd (cs := #[.int .i64 a0_0, .slice A0_1 l0_1.length c0_1]) (t := 57) ?hr ?_; (case hd => rfl); (case hg => rfl); (case hr => exact zq5); intro gb275 hg w5 hbox hb; have n0_ := Aside0.mk (below_step zq6 hb); have n1_ := Aside0.mk (hbox); have n2_ := Aside0.mk ((zq166 : w.heap.size ≤ gb275)); have n3_ := Aside0.mk ((zq166 : w.heap.size ≤ gb275)); clear HB; have HB := n0_; have BK275 := n1_; have GW275 := n2_; have GE275 := n3_; clear n0_ n1_ n2_ n3_; clear hb hbox hg) | ((with_reducible refine gate_dst (N := 4) rfl ?_); refine box_event ?hg (N := 4) ?hd (cs := #[.int .i64 0, .slice none 0 0]) (t := 57) ?hr ?_; (case hd => rfl); (case hg => rfl); (case hr => exact zq5); intro gb276 hg w6 hbox hb; have n0_ := Aside0.mk (blk_below (g := gb275) (o := .cells #[.int .i64 a0_0, .slice A0_1 l0_1.length c0_1] 57 (0, 0)) zq15 hb); have n1_ := Aside0.mk (below_step zq16 hb); have n2_ := Aside0.mk (hbox); have n3_ := Aside0.mk ((zq167 : w.heap.size ≤ gb276)); have n4_ := Aside0.mk ((zq167 : w.heap.size ≤ gb276)); have n5_ := Aside0.mk ((zq168 : gb275 ≠ gb276)); have n6_ := Aside0.mk ((zq169 : gb276 ≠ gb275)); clear BK275; clear HB; have BK275 := n0_; have HB := n1_; have BK276 := n2_; have GW276 := n3_; have GE276 := n4_; have NB275_276 := n5_; have NB276_275 := n6_; clear n0_ n1_ n2_ n3_ n4_ n5_ n6_; clear hb hbox hg; have hnb7 := NB275_276.out; have hnc7 := NB276_275.out; have hcz8_0 : w6.cell? ⟨gb275, 0, none⟩ = some (.int .i64 a0_0) := (blk_cell BK275.out 0).trans rfl; have hcz8_1 : w6.cell? ⟨gb275, 1, none⟩ = some (.slice A0_1 l0_1.length c0_1) := (blk_cell BK275.out 1).trans rfl; have hfz8_0 := blk_frozen BK275.out 0; have hfz8_1 := blk_frozen BK275.out 1) | ((with_reducible refine gate_callee (f := 87) rfl ?_); refine goesL_ (some 10) rfl rfl Try.func87 (by kernel_rfl) rfl #[.agg #[.int .i64 a0_0, .slice A0_1 l0_1.length c0_1]] rfl zq12 ?_; (with_reducible refine (impl_isNet.calls k a0_0 _ _ l0_1 true _ ?side1 ?side2 A3.out).mono ?_); (case side1 => exact zq17); (case side2 => exact zq18); rintro e w9 ⟨rfl, hb⟩; refine ⟨_, rfl, ?_⟩; have n0_ := Aside0.mk (blk_below (g := gb275) (o := .cells #[.int .i64 a0_0, .slice A0_1 l0_1.length c0_1] 57 (0, 0)) zq15 hb); have n1_ := Aside0.mk (blk_below (g := gb276) (o := .cells #[.int .i64 0, .slice none 0 0] 57 (0, 0)) zq19 hb); have n2_ := Aside0.mk (below_step zq20 hb); clear BK275; clear BK276; clear HB; have BK275 := n0_; have BK276 := n1_; have HB := n2_; clear n0_ n1_ n2_; (try clear hb); (try clear hb2); (try clear hk); (try clear hi); have hcz10_0 : w9.cell? ⟨gb275, 0, none⟩ = some (.int .i64 a0_0) := (blk_cell BK275.out 0).trans rfl; have hcz10_1 : w9.cell? ⟨gb275, 1, none⟩ = some (.slice A0_1 l0_1.length c0_1) := (blk_cell BK275.out 1).trans rfl; have hfz10_0 := blk_frozen BK275.out 0; have hfz10_1 := blk_frozen BK275.out 1) | ((with_reducible refine gate_dst (N := 6) rfl ?_); refine box_event ?hg (N := 6) ?hd (cs := #[.int .i64 0, .slice none 0 0]) (t := 57) ?hr ?_; (case hd => rfl); (case hg => rfl); (case hr => exact zq5); intro gb278 hg w11 hbox hb; have n0_ := Aside0.mk (blk_below (g := gb275) (o := .cells #[.int .i64 a0_0, .slice A0_1 l0_1.length c0_1] 57 (0, 0)) zq15 hb); have n1_ := Aside0.mk (blk_below (g := gb276) (o := .cells #[.int .i64 0, .slice none 0 0] 57 (0, 0)) zq19 hb); have n2_ := Aside0.mk (below_step zq20 hb); have n3_ := Aside0.mk (hbox); have n4_ := Aside0.mk ((by rw [hg]; exact (below_size zq20) : w.heap.size ≤ gb278)); have n5_ := Aside0.mk ((by rw [hg]; exact (below_size zq20) : w.heap.size ≤ gb278)); have n6_ := Aside0.mk ((zq168 : gb275 ≠ gb278)); have n7_ := Aside0.mk ((zq169 : gb278 ≠ gb275)); have n8_ := Aside0.mk ((zq170 : gb276 ≠ gb278)); have n9_ := Aside0.mk ((zq171 : gb278 ≠ gb276)); clear BK275; clear BK276; clear HB; have BK275 := n0_; have BK276 := n1_; have HB := n2_; have BK278 := n3_; have GW278 := n4_; have GE278 := n5_; have NB275_278 := n6_; have NB278_275 := n7_; have NB276_278 := n8_; have NB278_276 := n9_; clear n0_ n1_ n2_ n3_ n4_ n5_ n6_ n7_ n8_ n9_; clear hb hbox hg; have hnb12 := NB278_275.out; have hnc12 := NB275_278.out; have hnb13 := NB278_276.out; have hnc13 := NB276_278.out; have hcz14_0 : w11.cell? ⟨gb278, 0, none⟩ = some (.int .i64 0) := (blk_cell BK278.out 0).trans rfl; have hcz14_1 : w11.cell? ⟨gb278, 1, none⟩ = some (.slice none 0 0) := (blk_cell BK278.out 1).trans rfl; have hfz14_0 := blk_frozen BK278.out 0; have hfz14_1 := blk_frozen BK278.out 1; have hcz15_0 : w11.cell? ⟨gb275, 0, none⟩ = some (.int .i64 a0_0) := (blk_cell BK275.out 0).trans rfl; have hcz15_1 : w11.cell? ⟨gb275, 1, none⟩ = some (.slice A0_1 l0_1.length c0_1) := (blk_cell BK275.out 1).trans rfl; have hfz15_0 := blk_frozen BK275.out 0; have hfz15_1 := blk_frozen BK275.out 1))
  go_loopg [19] k (fun kq v19 w' => ∃ (x19_1 : Int) (x279001_1 : List (S59)) (u279001 : Value), v19 = .int .i64 x19_1 ∧ Aside0 (impl_Cutting.l0 kq l1 l0_1 (l0_1.length : Int) x19_1 a0_0 l0_1 a0_0 x279001_1 = some (r1, r2, r3)) ∧ Aside0 (kq ≤ k) ∧ Aside0 (Kd.R k59 59 w' w.heap.size (fun _ => True) u279001 x279001_1) ∧ Aside0 (w'.heap[gb275]? = some (.cells #[.int .i64 a0_0, (.slice A0_1 l0_1.length c0_1)] 57 (0, 0))) ∧ Aside0 (w'.heap[gb276]? = some (.cells #[.int .i64 0, (.slice none 0 0)] 57 (0, 0))) ∧ Aside0 (w'.heap[gb278]? = some (.cells #[.int .i64 a0_0, u279001] 57 (0, 0))) ∧ Aside0 (Below w.heap.size w w'))
  case atStart => exact ⟨(0), (([] : List (S59))), (.slice none 0 0), zq1, H', ⟨Nat.le_refl _⟩, ⟨zq21⟩, ⟨by (with_reducible repeat (first | refine blk_drewN ?_ _ | refine blk_drew ?_ | refine blk_alloc ?_ _)); refine blk_far ?_ NB275_278.out _; (with_reducible repeat (first | refine blk_drewN ?_ _ | refine blk_drew ?_ | refine blk_alloc ?_ _)); refine blk_far ?_ NB275_278.out _; (with_reducible repeat (first | refine blk_drewN ?_ _ | refine blk_drew ?_ | refine blk_alloc ?_ _)); exact BK275.out⟩, ⟨by (with_reducible repeat (first | refine blk_drewN ?_ _ | refine blk_drew ?_ | refine blk_alloc ?_ _)); refine blk_far ?_ NB276_278.out _; (with_reducible repeat (first | refine blk_drewN ?_ _ | refine blk_drew ?_ | refine blk_alloc ?_ _)); refine blk_far ?_ NB276_278.out _; (with_reducible repeat (first | refine blk_drewN ?_ _ | refine blk_drew ?_ | refine blk_alloc ?_ _)); exact BK276.out⟩, ⟨by (with_reducible repeat (first | refine blk_drewN ?_ _ | refine blk_drew ?_ | refine blk_alloc ?_ _)); refine blk_put (cs := #[.int .i64 a0_0, .slice none 0 0]) ?_ 1 _ rfl; (with_reducible repeat (first | refine blk_drewN ?_ _ | refine blk_drew ?_ | refine blk_alloc ?_ _)); refine blk_put (cs := #[.int .i64 0, .slice none 0 0]) ?_ 0 _ rfl; (with_reducible repeat (first | refine blk_drewN ?_ _ | refine blk_drew ?_ | refine blk_alloc ?_ _)); exact BK278.out⟩, ⟨zq22⟩⟩
  case round =>
   clear H'
   try clear c1
   try clear p2
   try clear c4
   try clear c5
   try clear c7
   try clear c8
   try clear c12
   try clear c13
   try clear hcz10_0
   try clear hcz10_1
   try clear hcz14_0
   try clear hcz14_1
   try clear hcz15_0
   try clear hcz15_1
   try clear hcz8_0
   try clear hcz8_1
   try clear hfz10_0
   try clear hfz10_1
   try clear hfz14_0
   try clear hfz14_1
   try clear hfz15_0
   try clear hfz15_1
   try clear hfz8_0
   try clear hfz8_1
   obtain ⟨x19_1, x279001_1, u279001, rfl, HA, HK1, HO_279001, BK275, BK276, BK278, HB⟩ := hrel
   cases gk with
   | zero => exact absurd HA.out (by simp [impl_Cutting.l0])
   | succ k1 =>
    have H := HA.out
    clear HA
    simp only [impl_Cutting.l0] at H
    by_cases c16 : x19_1 < (l0_1.length : Int)
    ·
     rw [if_pos c16] at H
     have c16b0 : decide (x19_1 < (l0_1.length : Int)) = true := decide_eq_true c16
     clear c16
     by_cases c17 : 0 ≤ x19_1
     ·
      rw [if_pos c17] at H
      have c17b0 : decide (0 ≤ x19_1) = true := decide_eq_true c17
      clear c17
      by_cases c18 : x19_1 < (l0_1.length : Int)
      ·
       rw [if_pos c18] at H
       have c18b0 : decide (x19_1 < (l0_1.length : Int)) = true := decide_eq_true c18
       clear c18
       replace H := Option.bind_eq_some_iff.mp H
       obtain ⟨t281, A190, H⟩ := H
       replace H : ((slices_Contains_int64_int64.f k1 l1 ((rd_T59 l0_1 x19_1).f2)).bind fun t282 => (if (t281 == t282) = true then (if x279001_1.length < 3518437208883 then (impl_Cutting.l0 k1 l1 l0_1 (l0_1.length : Int) (wrap64 (x19_1 + 1)) a0_0 l0_1 a0_0 (x279001_1 ++ [(⟨(rd_T59 l0_1 x19_1).f0, (rd_T59 l0_1 x19_1).f1, (rd_T59 l0_1 x19_1).f2, (rd_T59 l0_1 x19_1).f3⟩ : S59)])) else (none)) else (impl_Cutting.l0 k1 l1 l0_1 (l0_1.length : Int) (wrap64 (x19_1 + 1)) a0_0 l0_1 a0_0 x279001_1))) = some (r1, r2, r3) := H
       have A19 := Aside0.mk A190
       clear A190
       replace H := Option.bind_eq_some_iff.mp H
       obtain ⟨t282, A200, H⟩ := H
       replace H : (if (t281 == t282) = true then (if x279001_1.length < 3518437208883 then (impl_Cutting.l0 k1 l1 l0_1 (l0_1.length : Int) (wrap64 (x19_1 + 1)) a0_0 l0_1 a0_0 (x279001_1 ++ [(⟨(rd_T59 l0_1 x19_1).f0, (rd_T59 l0_1 x19_1).f1, (rd_T59 l0_1 x19_1).f2, (rd_T59 l0_1 x19_1).f3⟩ : S59)])) else (none)) else (impl_Cutting.l0 k1 l1 l0_1 (l0_1.length : Int) (wrap64 (x19_1 + 1)) a0_0 l0_1 a0_0 x279001_1)) = some (r1, r2, r3) := H
       have A20 := Aside0.mk A200
       clear A200
       by_cases c21 : (t281 == t282) = true
       ·
        rw [if_pos c21] at H
        have c21b0 : (t281 == t282) = true := c21
        (try (have c21b1 : decide (t281 = t282) = true := by simpa using c21))
        (try (have c21b2 : (t281 == t282) = true := by simpa using c21))
        clear c21
        by_cases c22 : x279001_1.length < 3518437208883
        ·
         rw [if_pos c22] at H
         have LMc22 := Aside0.mk c22
         clear c22
         obtain ⟨y283, hy283⟩ : ∃ y_ : List (S59), y_ = (x279001_1 ++ [(⟨(rd_T59 l0_1 x19_1).f0, (rd_T59 l0_1 x19_1).f1, (rd_T59 l0_1 x19_1).f2, (rd_T59 l0_1 x19_1).f3⟩ : S59)]) := ⟨_, rfl⟩
         replace H : (impl_Cutting.l0 k1 l1 l0_1 (l0_1.length : Int) (wrap64 (x19_1 + 1)) a0_0 l0_1 a0_0 y283) = some (r1, r2, r3) := by first | (rw [hy283]; with_reducible exact H) | (have H2_ := (Option.bind_some _ _).symm.trans H; rw [hy283]; with_reducible exact H2_) | (have H2_ := (Option.bind_some _ _).symm.trans H; with_reducible exact H2_) | with_reducible exact H | (rw [hy283]; exact H) | exact H
         have Ny283 := Aside0.mk hy283
         clear hy283
         have H' := Aside0.mk H
         clear H
         have p279 : 0 ≤ (x19_1 : Int) := of_decide_eq_true zq3
         have q279 : x19_1 < (l0_1.length : Int) := of_decide_eq_true zq3
         obtain ⟨ad279, e279, hx279_0, hx279_1, hx279_2, hx279_3⟩ := at_T59 HR0_1.out x19_1 p279 q279
         cases e279
         replace hx279_0 := (HB.out.cell (World.block_lt_of_cell? w _ hx279_0)).trans hx279_0
         replace hx279_1 := (HB.out.cell (World.block_lt_of_cell? w _ hx279_1)).trans hx279_1
         replace hx279_2 := (HB.out.cell (World.block_lt_of_cell? w _ hx279_2)).trans hx279_2
         replace hx279_3 := (HB.out.cell (World.block_lt_of_cell? w _ hx279_3)).trans hx279_3
         replace p279 := eq_true p279
         replace q279 := eq_true q279
         try go_wp2_with (first | ((with_reducible refine gate_dst (N := 8) rfl ?_); refine box_event ?hg (N := 8) ?hd (cs := #[.int .i64 0, .int .i64 0, .int .i64 0, .string (⟨#[]⟩ : ByteArray)]) (t := 59) ?hr ?_; (case hd => rfl); (case hg => rfl); (case hr => exact zq5); intro gb280 hg w23 hbox hb; have n0_ := Aside0.mk (Kd.R_below (Kd.R_elderB zq23 gb280 (Nat.le_of_eq hg.symm)) hb); have n1_ := Aside0.mk (blk_below (g := gb275) (o := .cells #[.int .i64 a0_0, .slice (some ad279) l0_1.length c0_1] 57 (0, 0)) zq15 hb); have n2_ := Aside0.mk (blk_below (g := gb276) (o := .cells #[.int .i64 0, .slice none 0 0] 57 (0, 0)) zq19 hb); have n3_ := Aside0.mk (blk_below (g := gb278) (o := .cells #[.int .i64 a0_0, u279001] 57 (0, 0)) zq24 hb); have n4_ := Aside0.mk (below_step zq22 hb); have n5_ := Aside0.mk (hbox); have n6_ := Aside0.mk ((zq172 : w.heap.size ≤ gb280)); have n7_ := Aside0.mk ((zq172 : w.heap.size ≤ gb280)); have n8_ := Aside0.mk ((zq173 : gb275 ≠ gb280)); have n9_ := Aside0.mk ((zq174 : gb280 ≠ gb275)); have n10_ := Aside0.mk ((zq170 : gb276 ≠ gb280)); have n11_ := Aside0.mk ((zq171 : gb280 ≠ gb276)); have n12_ := Aside0.mk ((zq175 : gb278 ≠ gb280)); have n13_ := Aside0.mk ((zq176 : gb280 ≠ gb278)); clear HO_279001; clear BK275; clear BK276; clear BK278; clear HB; have HO_279001 := n0_; have BK275 := n1_; have BK276 := n2_; have BK278 := n3_; have HB := n4_; have BK280 := n5_; have GW280 := n6_; have GE280 := n7_; have NB275_280 := n8_; have NB280_275 := n9_; have NB276_280 := n10_; have NB280_276 := n11_; have NB278_280 := n12_; have NB280_278 := n13_; clear n0_ n1_ n2_ n3_ n4_ n5_ n6_ n7_ n8_ n9_ n10_ n11_ n12_ n13_; clear hb hbox hg; have hnb24 := NB280_275.out; have hnc24 := NB275_280.out; have hnb25 := NB280_276.out; have hnc25 := NB276_280.out; have hnb26 := NB280_278.out; have hnc26 := NB278_280.out; have hcz27_0 : w23.cell? ⟨gb280, 0, none⟩ = some (.int .i64 0) := (blk_cell BK280.out 0).trans rfl; have hcz27_1 : w23.cell? ⟨gb280, 1, none⟩ = some (.int .i64 0) := (blk_cell BK280.out 1).trans rfl; have hcz27_2 : w23.cell? ⟨gb280, 2, none⟩ = some (.int .i64 0) := (blk_cell BK280.out 2).trans rfl; have hcz27_3 : w23.cell? ⟨gb280, 3, none⟩ = some (.string (⟨#[]⟩ : ByteArray)) := (blk_cell BK280.out 3).trans rfl; have hfz27_0 := blk_frozen BK280.out 0; have hfz27_1 := blk_frozen BK280.out 1; have hfz27_2 := blk_frozen BK280.out 2; have hfz27_3 := blk_frozen BK280.out 3))
         have n0_ : Aside0 (Kd.R k59 59 ((((w23.setCell ⟨gb280, 0, none⟩ (.int .i64 ((rd_T59 l0_1 x19_1).f0))).setCell ⟨gb280, 1, none⟩ (.int .i64 ((rd_T59 l0_1 x19_1).f1))).setCell ⟨gb280, 2, none⟩ (.int .i64 ((rd_T59 l0_1 x19_1).f2))).setCell ⟨gb280, 3, none⟩ (.string ((rd_T59 l0_1 x19_1).f3))) w.heap.size (fun k_ => k_ ≠ gb280) u279001 x279001_1) := ⟨zq25⟩
         have n1_ : Aside0 (((((w23.setCell ⟨gb280, 0, none⟩ (.int .i64 ((rd_T59 l0_1 x19_1).f0))).setCell ⟨gb280, 1, none⟩ (.int .i64 ((rd_T59 l0_1 x19_1).f1))).setCell ⟨gb280, 2, none⟩ (.int .i64 ((rd_T59 l0_1 x19_1).f2))).setCell ⟨gb280, 3, none⟩ (.string ((rd_T59 l0_1 x19_1).f3))).heap[gb275]? = some (.cells #[.int .i64 a0_0, .slice (some ad279) l0_1.length c0_1] 57 (0, 0))) := ⟨zq26⟩
         have n2_ : Aside0 (((((w23.setCell ⟨gb280, 0, none⟩ (.int .i64 ((rd_T59 l0_1 x19_1).f0))).setCell ⟨gb280, 1, none⟩ (.int .i64 ((rd_T59 l0_1 x19_1).f1))).setCell ⟨gb280, 2, none⟩ (.int .i64 ((rd_T59 l0_1 x19_1).f2))).setCell ⟨gb280, 3, none⟩ (.string ((rd_T59 l0_1 x19_1).f3))).heap[gb276]? = some (.cells #[.int .i64 0, .slice none 0 0] 57 (0, 0))) := ⟨zq27⟩
         have n3_ : Aside0 (((((w23.setCell ⟨gb280, 0, none⟩ (.int .i64 ((rd_T59 l0_1 x19_1).f0))).setCell ⟨gb280, 1, none⟩ (.int .i64 ((rd_T59 l0_1 x19_1).f1))).setCell ⟨gb280, 2, none⟩ (.int .i64 ((rd_T59 l0_1 x19_1).f2))).setCell ⟨gb280, 3, none⟩ (.string ((rd_T59 l0_1 x19_1).f3))).heap[gb278]? = some (.cells #[.int .i64 a0_0, u279001] 57 (0, 0))) := ⟨zq28⟩
         have n4_ : Aside0 (((((w23.setCell ⟨gb280, 0, none⟩ (.int .i64 ((rd_T59 l0_1 x19_1).f0))).setCell ⟨gb280, 1, none⟩ (.int .i64 ((rd_T59 l0_1 x19_1).f1))).setCell ⟨gb280, 2, none⟩ (.int .i64 ((rd_T59 l0_1 x19_1).f2))).setCell ⟨gb280, 3, none⟩ (.string ((rd_T59 l0_1 x19_1).f3))).heap[gb280]? = some (.cells #[.int .i64 ((rd_T59 l0_1 x19_1).f0), .int .i64 ((rd_T59 l0_1 x19_1).f1), .int .i64 ((rd_T59 l0_1 x19_1).f2), .string ((rd_T59 l0_1 x19_1).f3)] 59 (0, 0))) := ⟨zq29⟩
         have n5_ : Aside0 (Below w.heap.size w ((((w23.setCell ⟨gb280, 0, none⟩ (.int .i64 ((rd_T59 l0_1 x19_1).f0))).setCell ⟨gb280, 1, none⟩ (.int .i64 ((rd_T59 l0_1 x19_1).f1))).setCell ⟨gb280, 2, none⟩ (.int .i64 ((rd_T59 l0_1 x19_1).f2))).setCell ⟨gb280, 3, none⟩ (.string ((rd_T59 l0_1 x19_1).f3)))) := ⟨zq30⟩
         (try clear HO_279001)
         (try clear BK275)
         (try clear BK276)
         (try clear BK278)
         (try clear BK280)
         (try clear HB)
         generalize ((((w23.setCell ⟨gb280, 0, none⟩ (.int .i64 ((rd_T59 l0_1 x19_1).f0))).setCell ⟨gb280, 1, none⟩ (.int .i64 ((rd_T59 l0_1 x19_1).f1))).setCell ⟨gb280, 2, none⟩ (.int .i64 ((rd_T59 l0_1 x19_1).f2))).setCell ⟨gb280, 3, none⟩ (.string ((rd_T59 l0_1 x19_1).f3))) = w28 at n0_ n1_ n2_ n3_ n4_ n5_ ⊢
         have HO_279001 := n0_
         have BK275 := n1_
         have BK276 := n2_
         have BK278 := n3_
         have BK280 := n4_
         have HB := n5_
         clear n0_ n1_ n2_ n3_ n4_ n5_
         have n0_ := Aside0.mk (Kd.R_drew HO_279001.out)
         have n1_ := Aside0.mk (blk_drew BK275.out)
         have n2_ := Aside0.mk (blk_drew BK276.out)
         have n3_ := Aside0.mk (blk_drew BK278.out)
         have n4_ := Aside0.mk (blk_drew BK280.out)
         have n5_ := Aside0.mk (below_drew1 HB.out)
         clear HO_279001
         clear BK275
         clear BK276
         clear BK278
         clear BK280
         clear HB
         have HO_279001 := n0_
         have BK275 := n1_
         have BK276 := n2_
         have BK278 := n3_
         have BK280 := n4_
         have HB := n5_
         clear n0_ n1_ n2_ n3_ n4_ n5_
         refine start_ (n := 9) (S := fun w' => w'.cell? ⟨gb280, 0, none⟩ = some (.int .i64 ((rd_T59 l0_1 x19_1).f0)) ∧ w'.cell? ⟨gb280, 1, none⟩ = some (.int .i64 ((rd_T59 l0_1 x19_1).f1)) ∧ w'.cell? ⟨gb280, 2, none⟩ = some (.int .i64 ((rd_T59 l0_1 x19_1).f2)) ∧ w'.cell? ⟨gb280, 3, none⟩ = some (.string ((rd_T59 l0_1 x19_1).f3))) (ds := []) #[ff,ff,ff,ff,ff,ff,ff,ff,ff] (by kernel_rfl) rfl rfl ⟨(blk_cell BK280.out 0).trans rfl, (blk_cell BK280.out 1).trans rfl, (blk_cell BK280.out 2).trans rfl, (blk_cell BK280.out 3).trans rfl⟩ (fun hHeld => ?_); refine with_tabW impl_Cutting.tab7 impl_Cutting.bits7 (fun HT_ HW_ => ?_)
         generalize w28.drew = w29 at HO_279001 BK275 BK276 BK278 BK280 HB hHeld ⊢
         refine pure_ (i := 0) (N := some 23) (v := ?_) (a' := ?_) #[tt,ff,ff,ff,ff,ff,ff,ff,ff] rfl rfl (any_of HT_.out (by kernel_rfl)) (fun _ _ _ h => h) (Or.inl ⟨by rfl, ?_⟩) ?_ ?_
         rotate_left
         exact zq238
         rotate_left
         exact zq239
         refine pure_ (i := 1) (N := some 24) (v := ?_) (a' := ?_) #[tt,tt,ff,ff,ff,ff,ff,ff,ff] rfl rfl (any_of HT_.out (by kernel_rfl)) (fun _ _ _ h => h) (Or.inl ⟨by rfl, ?_⟩) ?_ ?_
         rotate_left
         exact zq238
         rotate_left
         exact zq239
         refine pure_ (i := 4) (N := some 27) (v := ?_) (a' := ?_) #[tt,tt,ff,ff,tt,ff,ff,ff,ff] rfl rfl (any_of HT_.out (by kernel_rfl)) (fun _ _ _ h => h) (Or.inl ⟨by rfl, ?_⟩) ?_ ?_
         rotate_left
         exact zq238
         rotate_left
         exact zq239
         refine pure_ (i := 5) (N := some 28) (v := ?_) (a' := ?_) #[tt,tt,ff,ff,tt,tt,ff,ff,ff] rfl rfl (any_of HT_.out (by kernel_rfl)) (fun _ _ _ h => h) (Or.inl ⟨by rfl, ?_⟩) ?_ ?_
         rotate_left
         exact zq238
         rotate_left
         exact zq239
         refine take_ (i := 2) (N := some 25) (v := ?_) (a' := ?_) #[tt,tt,tt,ff,tt,tt,ff,ff,ff] rfl rfl (take_ofW HT_.out HW_.out (by kernel_rfl)) (fun _ _ _ h => h) (Or.inl ⟨by rfl, ?_⟩) hHeld ?_ ?_
         rotate_left
         exact zq240
         rotate_left
         exact zq239
         refine take_ (i := 6) (N := some 29) (v := ?_) (a' := ?_) #[tt,tt,tt,ff,tt,tt,tt,ff,ff] rfl rfl (take_ofW HT_.out HW_.out (by kernel_rfl)) (fun _ _ _ h => h) (Or.inl ⟨by rfl, ?_⟩) hHeld ?_ ?_
         rotate_left
         exact zq240
         rotate_left
         exact zq239
         refine one_ (i := 3) (N := some 26) #[tt,tt,tt,tt,tt,tt,tt,ff,ff] rfl rfl (one_of HT_.out (by kernel_rfl)) (by decide) (fun K hK => ?_)
         refine goes_ Try.func98 (by kernel_rfl) rfl #[.slice A1 l1.length c1, .int .i64 ((rd_T59 l0_1 x19_1).f1)] (by rfl) rfl rfl zq12 ?_
         with_reducible refine (slices_Contains_int64_int64.calls k1 _ _ l1 ((rd_T59 l0_1 x19_1).f1) t281 _ ?side1 ?side2 A19.out).mono ?_
         (case side1 => exact zq31)
         (case side2 => exact zq32)
         rintro e w' ⟨rfl, ⟨nd, rfl⟩⟩
         refine ⟨_, rfl, ?_⟩
         refine hK.out _ _ ⟨(blk_cell BK280.out 0).trans rfl, (blk_cell BK280.out 1).trans rfl, (blk_cell BK280.out 2).trans rfl, (blk_cell BK280.out 3).trans rfl⟩ (fun hHeld => ?_)
         clear hK K
         refine norm_ (a' := ?_) ?_ ?_
         rotate_left
         ·
          show Act.put _ (some 26) _ = _
          simp only [Act.put, List.setIfInBounds_toArray, List.set_cons_zero, List.set_cons_succ, i64_w, i32_w]
          rfl
         refine one_ (i := 7) (N := some 30) #[tt,tt,tt,tt,tt,tt,tt,tt,ff] rfl rfl (one_of HT_.out (by kernel_rfl)) (by decide) (fun K hK => ?_)
         refine goes_ Try.func98 (by kernel_rfl) rfl #[.slice A1 l1.length c1, .int .i64 ((rd_T59 l0_1 x19_1).f2)] (by rfl) rfl rfl zq12 ?_
         with_reducible refine (slices_Contains_int64_int64.calls k1 _ _ l1 ((rd_T59 l0_1 x19_1).f2) t282 _ ?side1 ?side2 A20.out).mono ?_
         (case side1 => exact zq177)
         (case side2 => exact zq32)
         rintro e w' ⟨rfl, ⟨nd, rfl⟩⟩
         refine ⟨_, rfl, ?_⟩
         refine hK.out _ _ ⟨(blk_cell BK280.out 0).trans rfl, (blk_cell BK280.out 1).trans rfl, (blk_cell BK280.out 2).trans rfl, (blk_cell BK280.out 3).trans rfl⟩ (fun hHeld => ?_)
         clear hK K
         refine norm_ (a' := ?_) ?_ ?_
         rotate_left
         ·
          show Act.put _ (some 30) _ = _
          simp only [Act.put, List.setIfInBounds_toArray, List.set_cons_zero, List.set_cons_succ, i64_w, i32_w]
          rfl
         refine pure_ (i := 8) (N := some 31) (v := ?_) (a' := ?_) #[tt,tt,tt,tt,tt,tt,tt,tt,tt] rfl rfl (any_of HT_.out (by kernel_rfl)) (fun _ _ _ h => h) (Or.inl ⟨by rfl, ?_⟩) ?_ ?_
         rotate_left
         exact zq238
         rotate_left
         exact zq239
         refine done_ (done_of HT_.out (by kernel_rfl)) ?_
         have hnb30 := NB278_275.out
         have hnc30 := NB275_278.out
         have hnb31 := NB278_276.out
         have hnc31 := NB276_278.out
         have hcz32_0 : w29.cell? ⟨gb278, 0, none⟩ = some (.int .i64 a0_0) := (blk_cell BK278.out 0).trans rfl
         have hcz32_1 : w29.cell? ⟨gb278, 1, none⟩ = some (u279001) := (blk_cell BK278.out 1).trans rfl
         have hfz32_0 := blk_frozen BK278.out 0
         have hfz32_1 := blk_frozen BK278.out 1
         have hcz33_0 : w29.cell? ⟨gb280, 0, none⟩ = some (.int .i64 ((rd_T59 l0_1 x19_1).f0)) := (blk_cell BK280.out 0).trans rfl
         have hcz33_1 : w29.cell? ⟨gb280, 1, none⟩ = some (.int .i64 ((rd_T59 l0_1 x19_1).f1)) := (blk_cell BK280.out 1).trans rfl
         have hcz33_2 : w29.cell? ⟨gb280, 2, none⟩ = some (.int .i64 ((rd_T59 l0_1 x19_1).f2)) := (blk_cell BK280.out 2).trans rfl
         have hcz33_3 : w29.cell? ⟨gb280, 3, none⟩ = some (.string ((rd_T59 l0_1 x19_1).f3)) := (blk_cell BK280.out 3).trans rfl
         have hfz33_0 := blk_frozen BK280.out 0
         have hfz33_1 := blk_frozen BK280.out 1
         have hfz33_2 := blk_frozen BK280.out 2
         have hfz33_3 := blk_frozen BK280.out 3
         try go_wp2_with (first | ((with_reducible refine gate_builtin (b := .append) (xs := #[.tmp 33, .tmp 35]) rfl ?_); at_builtin; refine Kd.R_append k59 (w0 := w) w.heap.size rfl (.tmp 33) (.tmp 35) 55 59 (.agg #[(.int .i64 0), (.int .i64 0), (.int .i64 0), (.string ⟨#[]⟩)]) 40 rfl Try.underlying55 info59 rfl (by decide) (by omega) u279001 x279001_1 (⟨(rd_T59 l0_1 x19_1).f0, (rd_T59 l0_1 x19_1).f1, (rd_T59 l0_1 x19_1).f2, (rd_T59 l0_1 x19_1).f3⟩ : S59) [.int .i64 ((rd_T59 l0_1 x19_1).f0), .int .i64 ((rd_T59 l0_1 x19_1).f1), .int .i64 ((rd_T59 l0_1 x19_1).f2), .string ((rd_T59 l0_1 x19_1).f3)] (fun k_ => k_ ≠ gb280) (fun _ => False) rfl rfl ?aP (fun _ hk => hk.elim) ?aF ?aO ?aB ?aS ?aL ?_; (case aP => exact k59_mkM _ _ _ (⟨(rd_T59 l0_1 x19_1).f0, (rd_T59 l0_1 x19_1).f1, (rd_T59 l0_1 x19_1).f2, (rd_T59 l0_1 x19_1).f3⟩ : S59)); (case aB => exact zq30); (case aF => exact (fun k_ hk => Kd.freshB (g := gb280) (o := .cells #[.int .i64 ((rd_T59 l0_1 x19_1).f0), .int .i64 ((rd_T59 l0_1 x19_1).f1), .int .i64 ((rd_T59 l0_1 x19_1).f2), .string ((rd_T59 l0_1 x19_1).f3)] 59 (0, 0)) zq33 k_ hk)); (case aO => exact zq23); (case aS => exact (below_size zq30)); (case aL => have := LMc22.out; omega); intro v284 w34 ho hb hg hat; rw [← Ny283.out] at ho; have n0_ := Aside0.mk (blk_grown (g := gb275) (o := .cells #[.int .i64 a0_0, .slice (some ad279) l0_1.length c0_1] 57 (0, 0)) zq15 hg (Kd.R_ne HO_279001.out BK275.out (by decide))); have n1_ := Aside0.mk (blk_grown (g := gb276) (o := .cells #[.int .i64 0, .slice none 0 0] 57 (0, 0)) zq19 hg (Kd.R_ne HO_279001.out BK276.out (by decide))); have n2_ := Aside0.mk (blk_grown (g := gb278) (o := .cells #[.int .i64 a0_0, u279001] 57 (0, 0)) zq24 hg (Kd.R_ne HO_279001.out BK278.out (by decide))); have n3_ := Aside0.mk (blk_grown (g := gb280) (o := .cells #[.int .i64 ((rd_T59 l0_1 x19_1).f0), .int .i64 ((rd_T59 l0_1 x19_1).f1), .int .i64 ((rd_T59 l0_1 x19_1).f2), .string ((rd_T59 l0_1 x19_1).f3)] 59 (0, 0)) zq33 hg (Kd.R_away HO_279001.out (fun _ hk => hk))); have n4_ := Aside0.mk (hb); have n5_ := Aside0.mk (ho); clear BK275; clear BK276; clear BK278; clear BK280; clear HB; clear HO_279001; have BK275 := n0_; have BK276 := n1_; have BK278 := n2_; have BK280 := n3_; have HB := n4_; have HO285 := n5_; clear n0_ n1_ n2_ n3_ n4_ n5_; clear ho hb hg hat; obtain ⟨Ao35, co35, eo35⟩ := Kd.R_slice HO285.out; subst eo35; have hcz36_0 : w34.cell? ⟨gb278, 0, none⟩ = some (.int .i64 a0_0) := (blk_cell BK278.out 0).trans rfl; have hcz36_1 : w34.cell? ⟨gb278, 1, none⟩ = some (u279001) := (blk_cell BK278.out 1).trans rfl; have hfz36_0 := blk_frozen BK278.out 0; have hfz36_1 := blk_frozen BK278.out 1))
         go_roundg k1
         case measure => have := HK1.out; omega
         case rel => exact ⟨(wrap64 (x19_1 + 1)), (y283), (.slice Ao35 y283.length co35), zq1, H', ⟨zq4⟩, ⟨by (with_reducible repeat (first | apply Kd.R_alloc | apply Kd.R_drewN | apply Kd.R_drew)); exact Kd.R_mono (Kd.R_far (p := ⟨gb278, 1, none⟩) (Kd.R_types HO285.out BK278.out (by decide)) (fun _ hk => hk.2) (.slice Ao35 y283.length co35)) (fun _ hk => trivial)⟩, ⟨by (with_reducible repeat (first | refine blk_drewN ?_ _ | refine blk_drew ?_ | refine blk_alloc ?_ _)); refine blk_far ?_ NB275_278.out _; (with_reducible repeat (first | refine blk_drewN ?_ _ | refine blk_drew ?_ | refine blk_alloc ?_ _)); exact BK275.out⟩, ⟨by (with_reducible repeat (first | refine blk_drewN ?_ _ | refine blk_drew ?_ | refine blk_alloc ?_ _)); refine blk_far ?_ NB276_278.out _; (with_reducible repeat (first | refine blk_drewN ?_ _ | refine blk_drew ?_ | refine blk_alloc ?_ _)); exact BK276.out⟩, ⟨by (with_reducible repeat (first | refine blk_drewN ?_ _ | refine blk_drew ?_ | refine blk_alloc ?_ _)); refine blk_put (cs := #[.int .i64 a0_0, u279001]) ?_ 1 _ rfl; (with_reducible repeat (first | refine blk_drewN ?_ _ | refine blk_drew ?_ | refine blk_alloc ?_ _)); exact BK278.out⟩, ⟨zq30⟩⟩
        ·
         rw [if_neg c22] at H
         exact absurd H (by simp)
       ·
        rw [if_neg c21] at H
        have c21b0 : (t281 == t282) = false := by simpa using c21
        (try (have c21b1 : decide (t281 = t282) = false := by simpa using c21))
        (try (have c21b2 : (t281 == t282) = false := by simpa using c21))
        (try (have c21b3 : ¬ (t281 = t282) := by simpa using c21))
        clear c21
        have H' := Aside0.mk H
        clear H
        have p279 : 0 ≤ (x19_1 : Int) := of_decide_eq_true zq3
        have q279 : x19_1 < (l0_1.length : Int) := of_decide_eq_true zq3
        obtain ⟨ad279, e279, hx279_0, hx279_1, hx279_2, hx279_3⟩ := at_T59 HR0_1.out x19_1 p279 q279
        cases e279
        replace hx279_0 := (HB.out.cell (World.block_lt_of_cell? w _ hx279_0)).trans hx279_0
        replace hx279_1 := (HB.out.cell (World.block_lt_of_cell? w _ hx279_1)).trans hx279_1
        replace hx279_2 := (HB.out.cell (World.block_lt_of_cell? w _ hx279_2)).trans hx279_2
        replace hx279_3 := (HB.out.cell (World.block_lt_of_cell? w _ hx279_3)).trans hx279_3
        replace p279 := eq_true p279
        replace q279 := eq_true q279
        try go_wp2_with (first | ((with_reducible refine gate_dst (N := 8) rfl ?_); refine box_event ?hg (N := 8) ?hd (cs := #[.int .i64 0, .int .i64 0, .int .i64 0, .string (⟨#[]⟩ : ByteArray)]) (t := 59) ?hr ?_; (case hd => rfl); (case hg => rfl); (case hr => exact zq5); intro gb280 hg w37 hbox hb; have n0_ := Aside0.mk (Kd.R_below (Kd.R_elderB zq23 gb280 (Nat.le_of_eq hg.symm)) hb); have n1_ := Aside0.mk (blk_below (g := gb275) (o := .cells #[.int .i64 a0_0, .slice (some ad279) l0_1.length c0_1] 57 (0, 0)) zq15 hb); have n2_ := Aside0.mk (blk_below (g := gb276) (o := .cells #[.int .i64 0, .slice none 0 0] 57 (0, 0)) zq19 hb); have n3_ := Aside0.mk (blk_below (g := gb278) (o := .cells #[.int .i64 a0_0, u279001] 57 (0, 0)) zq24 hb); have n4_ := Aside0.mk (below_step zq22 hb); have n5_ := Aside0.mk (hbox); have n6_ := Aside0.mk ((zq172 : w.heap.size ≤ gb280)); have n7_ := Aside0.mk ((zq172 : w.heap.size ≤ gb280)); have n8_ := Aside0.mk ((zq173 : gb275 ≠ gb280)); have n9_ := Aside0.mk ((zq174 : gb280 ≠ gb275)); have n10_ := Aside0.mk ((zq170 : gb276 ≠ gb280)); have n11_ := Aside0.mk ((zq171 : gb280 ≠ gb276)); have n12_ := Aside0.mk ((zq175 : gb278 ≠ gb280)); have n13_ := Aside0.mk ((zq176 : gb280 ≠ gb278)); clear HO_279001; clear BK275; clear BK276; clear BK278; clear HB; have HO_279001 := n0_; have BK275 := n1_; have BK276 := n2_; have BK278 := n3_; have HB := n4_; have BK280 := n5_; have GW280 := n6_; have GE280 := n7_; have NB275_280 := n8_; have NB280_275 := n9_; have NB276_280 := n10_; have NB280_276 := n11_; have NB278_280 := n12_; have NB280_278 := n13_; clear n0_ n1_ n2_ n3_ n4_ n5_ n6_ n7_ n8_ n9_ n10_ n11_ n12_ n13_; clear hb hbox hg; have hnb38 := NB280_275.out; have hnc38 := NB275_280.out; have hnb39 := NB280_276.out; have hnc39 := NB276_280.out; have hnb40 := NB280_278.out; have hnc40 := NB278_280.out; have hcz41_0 : w37.cell? ⟨gb280, 0, none⟩ = some (.int .i64 0) := (blk_cell BK280.out 0).trans rfl; have hcz41_1 : w37.cell? ⟨gb280, 1, none⟩ = some (.int .i64 0) := (blk_cell BK280.out 1).trans rfl; have hcz41_2 : w37.cell? ⟨gb280, 2, none⟩ = some (.int .i64 0) := (blk_cell BK280.out 2).trans rfl; have hcz41_3 : w37.cell? ⟨gb280, 3, none⟩ = some (.string (⟨#[]⟩ : ByteArray)) := (blk_cell BK280.out 3).trans rfl; have hfz41_0 := blk_frozen BK280.out 0; have hfz41_1 := blk_frozen BK280.out 1; have hfz41_2 := blk_frozen BK280.out 2; have hfz41_3 := blk_frozen BK280.out 3))
        have n0_ : Aside0 (Kd.R k59 59 ((((w37.setCell ⟨gb280, 0, none⟩ (.int .i64 ((rd_T59 l0_1 x19_1).f0))).setCell ⟨gb280, 1, none⟩ (.int .i64 ((rd_T59 l0_1 x19_1).f1))).setCell ⟨gb280, 2, none⟩ (.int .i64 ((rd_T59 l0_1 x19_1).f2))).setCell ⟨gb280, 3, none⟩ (.string ((rd_T59 l0_1 x19_1).f3))) w.heap.size (fun k_ => k_ ≠ gb280) u279001 x279001_1) := ⟨zq25⟩
        have n1_ : Aside0 (((((w37.setCell ⟨gb280, 0, none⟩ (.int .i64 ((rd_T59 l0_1 x19_1).f0))).setCell ⟨gb280, 1, none⟩ (.int .i64 ((rd_T59 l0_1 x19_1).f1))).setCell ⟨gb280, 2, none⟩ (.int .i64 ((rd_T59 l0_1 x19_1).f2))).setCell ⟨gb280, 3, none⟩ (.string ((rd_T59 l0_1 x19_1).f3))).heap[gb275]? = some (.cells #[.int .i64 a0_0, .slice (some ad279) l0_1.length c0_1] 57 (0, 0))) := ⟨zq26⟩
        have n2_ : Aside0 (((((w37.setCell ⟨gb280, 0, none⟩ (.int .i64 ((rd_T59 l0_1 x19_1).f0))).setCell ⟨gb280, 1, none⟩ (.int .i64 ((rd_T59 l0_1 x19_1).f1))).setCell ⟨gb280, 2, none⟩ (.int .i64 ((rd_T59 l0_1 x19_1).f2))).setCell ⟨gb280, 3, none⟩ (.string ((rd_T59 l0_1 x19_1).f3))).heap[gb276]? = some (.cells #[.int .i64 0, .slice none 0 0] 57 (0, 0))) := ⟨zq27⟩
        have n3_ : Aside0 (((((w37.setCell ⟨gb280, 0, none⟩ (.int .i64 ((rd_T59 l0_1 x19_1).f0))).setCell ⟨gb280, 1, none⟩ (.int .i64 ((rd_T59 l0_1 x19_1).f1))).setCell ⟨gb280, 2, none⟩ (.int .i64 ((rd_T59 l0_1 x19_1).f2))).setCell ⟨gb280, 3, none⟩ (.string ((rd_T59 l0_1 x19_1).f3))).heap[gb278]? = some (.cells #[.int .i64 a0_0, u279001] 57 (0, 0))) := ⟨zq28⟩
        have n4_ : Aside0 (((((w37.setCell ⟨gb280, 0, none⟩ (.int .i64 ((rd_T59 l0_1 x19_1).f0))).setCell ⟨gb280, 1, none⟩ (.int .i64 ((rd_T59 l0_1 x19_1).f1))).setCell ⟨gb280, 2, none⟩ (.int .i64 ((rd_T59 l0_1 x19_1).f2))).setCell ⟨gb280, 3, none⟩ (.string ((rd_T59 l0_1 x19_1).f3))).heap[gb280]? = some (.cells #[.int .i64 ((rd_T59 l0_1 x19_1).f0), .int .i64 ((rd_T59 l0_1 x19_1).f1), .int .i64 ((rd_T59 l0_1 x19_1).f2), .string ((rd_T59 l0_1 x19_1).f3)] 59 (0, 0))) := ⟨zq29⟩
        have n5_ : Aside0 (Below w.heap.size w ((((w37.setCell ⟨gb280, 0, none⟩ (.int .i64 ((rd_T59 l0_1 x19_1).f0))).setCell ⟨gb280, 1, none⟩ (.int .i64 ((rd_T59 l0_1 x19_1).f1))).setCell ⟨gb280, 2, none⟩ (.int .i64 ((rd_T59 l0_1 x19_1).f2))).setCell ⟨gb280, 3, none⟩ (.string ((rd_T59 l0_1 x19_1).f3)))) := ⟨zq30⟩
        (try clear HO_279001)
        (try clear BK275)
        (try clear BK276)
        (try clear BK278)
        (try clear BK280)
        (try clear HB)
        generalize ((((w37.setCell ⟨gb280, 0, none⟩ (.int .i64 ((rd_T59 l0_1 x19_1).f0))).setCell ⟨gb280, 1, none⟩ (.int .i64 ((rd_T59 l0_1 x19_1).f1))).setCell ⟨gb280, 2, none⟩ (.int .i64 ((rd_T59 l0_1 x19_1).f2))).setCell ⟨gb280, 3, none⟩ (.string ((rd_T59 l0_1 x19_1).f3))) = w42 at n0_ n1_ n2_ n3_ n4_ n5_ ⊢
        have HO_279001 := n0_
        have BK275 := n1_
        have BK276 := n2_
        have BK278 := n3_
        have BK280 := n4_
        have HB := n5_
        clear n0_ n1_ n2_ n3_ n4_ n5_
        have n0_ := Aside0.mk (Kd.R_drew HO_279001.out)
        have n1_ := Aside0.mk (blk_drew BK275.out)
        have n2_ := Aside0.mk (blk_drew BK276.out)
        have n3_ := Aside0.mk (blk_drew BK278.out)
        have n4_ := Aside0.mk (blk_drew BK280.out)
        have n5_ := Aside0.mk (below_drew1 HB.out)
        clear HO_279001
        clear BK275
        clear BK276
        clear BK278
        clear BK280
        clear HB
        have HO_279001 := n0_
        have BK275 := n1_
        have BK276 := n2_
        have BK278 := n3_
        have BK280 := n4_
        have HB := n5_
        clear n0_ n1_ n2_ n3_ n4_ n5_
        refine start_ (n := 9) (S := fun w' => w'.cell? ⟨gb280, 0, none⟩ = some (.int .i64 ((rd_T59 l0_1 x19_1).f0)) ∧ w'.cell? ⟨gb280, 1, none⟩ = some (.int .i64 ((rd_T59 l0_1 x19_1).f1)) ∧ w'.cell? ⟨gb280, 2, none⟩ = some (.int .i64 ((rd_T59 l0_1 x19_1).f2)) ∧ w'.cell? ⟨gb280, 3, none⟩ = some (.string ((rd_T59 l0_1 x19_1).f3))) (ds := []) #[ff,ff,ff,ff,ff,ff,ff,ff,ff] (by kernel_rfl) rfl rfl ⟨(blk_cell BK280.out 0).trans rfl, (blk_cell BK280.out 1).trans rfl, (blk_cell BK280.out 2).trans rfl, (blk_cell BK280.out 3).trans rfl⟩ (fun hHeld => ?_); refine with_tabW impl_Cutting.tab7 impl_Cutting.bits7 (fun HT_ HW_ => ?_)
        generalize w42.drew = w43 at HO_279001 BK275 BK276 BK278 BK280 HB hHeld ⊢
        refine pure_ (i := 0) (N := some 23) (v := ?_) (a' := ?_) #[tt,ff,ff,ff,ff,ff,ff,ff,ff] rfl rfl (any_of HT_.out (by kernel_rfl)) (fun _ _ _ h => h) (Or.inl ⟨by rfl, ?_⟩) ?_ ?_
        rotate_left
        exact zq238
        rotate_left
        exact zq239
        refine pure_ (i := 1) (N := some 24) (v := ?_) (a' := ?_) #[tt,tt,ff,ff,ff,ff,ff,ff,ff] rfl rfl (any_of HT_.out (by kernel_rfl)) (fun _ _ _ h => h) (Or.inl ⟨by rfl, ?_⟩) ?_ ?_
        rotate_left
        exact zq238
        rotate_left
        exact zq239
        refine pure_ (i := 4) (N := some 27) (v := ?_) (a' := ?_) #[tt,tt,ff,ff,tt,ff,ff,ff,ff] rfl rfl (any_of HT_.out (by kernel_rfl)) (fun _ _ _ h => h) (Or.inl ⟨by rfl, ?_⟩) ?_ ?_
        rotate_left
        exact zq238
        rotate_left
        exact zq239
        refine pure_ (i := 5) (N := some 28) (v := ?_) (a' := ?_) #[tt,tt,ff,ff,tt,tt,ff,ff,ff] rfl rfl (any_of HT_.out (by kernel_rfl)) (fun _ _ _ h => h) (Or.inl ⟨by rfl, ?_⟩) ?_ ?_
        rotate_left
        exact zq238
        rotate_left
        exact zq239
        refine take_ (i := 2) (N := some 25) (v := ?_) (a' := ?_) #[tt,tt,tt,ff,tt,tt,ff,ff,ff] rfl rfl (take_ofW HT_.out HW_.out (by kernel_rfl)) (fun _ _ _ h => h) (Or.inl ⟨by rfl, ?_⟩) hHeld ?_ ?_
        rotate_left
        exact zq240
        rotate_left
        exact zq239
        refine take_ (i := 6) (N := some 29) (v := ?_) (a' := ?_) #[tt,tt,tt,ff,tt,tt,tt,ff,ff] rfl rfl (take_ofW HT_.out HW_.out (by kernel_rfl)) (fun _ _ _ h => h) (Or.inl ⟨by rfl, ?_⟩) hHeld ?_ ?_
        rotate_left
        exact zq240
        rotate_left
        exact zq239
        refine one_ (i := 3) (N := some 26) #[tt,tt,tt,tt,tt,tt,tt,ff,ff] rfl rfl (one_of HT_.out (by kernel_rfl)) (by decide) (fun K hK => ?_)
        refine goes_ Try.func98 (by kernel_rfl) rfl #[.slice A1 l1.length c1, .int .i64 ((rd_T59 l0_1 x19_1).f1)] (by rfl) rfl rfl zq12 ?_
        with_reducible refine (slices_Contains_int64_int64.calls k1 _ _ l1 ((rd_T59 l0_1 x19_1).f1) t281 _ ?side1 ?side2 A19.out).mono ?_
        (case side1 => exact zq31)
        (case side2 => exact zq32)
        rintro e w' ⟨rfl, ⟨nd, rfl⟩⟩
        refine ⟨_, rfl, ?_⟩
        refine hK.out _ _ ⟨(blk_cell BK280.out 0).trans rfl, (blk_cell BK280.out 1).trans rfl, (blk_cell BK280.out 2).trans rfl, (blk_cell BK280.out 3).trans rfl⟩ (fun hHeld => ?_)
        clear hK K
        refine norm_ (a' := ?_) ?_ ?_
        rotate_left
        ·
         show Act.put _ (some 26) _ = _
         simp only [Act.put, List.setIfInBounds_toArray, List.set_cons_zero, List.set_cons_succ, i64_w, i32_w]
         rfl
        refine one_ (i := 7) (N := some 30) #[tt,tt,tt,tt,tt,tt,tt,tt,ff] rfl rfl (one_of HT_.out (by kernel_rfl)) (by decide) (fun K hK => ?_)
        refine goes_ Try.func98 (by kernel_rfl) rfl #[.slice A1 l1.length c1, .int .i64 ((rd_T59 l0_1 x19_1).f2)] (by rfl) rfl rfl zq12 ?_
        with_reducible refine (slices_Contains_int64_int64.calls k1 _ _ l1 ((rd_T59 l0_1 x19_1).f2) t282 _ ?side1 ?side2 A20.out).mono ?_
        (case side1 => exact zq177)
        (case side2 => exact zq32)
        rintro e w' ⟨rfl, ⟨nd, rfl⟩⟩
        refine ⟨_, rfl, ?_⟩
        refine hK.out _ _ ⟨(blk_cell BK280.out 0).trans rfl, (blk_cell BK280.out 1).trans rfl, (blk_cell BK280.out 2).trans rfl, (blk_cell BK280.out 3).trans rfl⟩ (fun hHeld => ?_)
        clear hK K
        refine norm_ (a' := ?_) ?_ ?_
        rotate_left
        ·
         show Act.put _ (some 30) _ = _
         simp only [Act.put, List.setIfInBounds_toArray, List.set_cons_zero, List.set_cons_succ, i64_w, i32_w]
         rfl
        refine pure_ (i := 8) (N := some 31) (v := ?_) (a' := ?_) #[tt,tt,tt,tt,tt,tt,tt,tt,tt] rfl rfl (any_of HT_.out (by kernel_rfl)) (fun _ _ _ h => h) (Or.inl ⟨by rfl, ?_⟩) ?_ ?_
        rotate_left
        exact zq238
        rotate_left
        exact zq239
        refine done_ (done_of HT_.out (by kernel_rfl)) ?_
        try go_wp2
        go_roundg k1
        case measure => have := HK1.out; omega
        case rel => exact ⟨(wrap64 (x19_1 + 1)), (x279001_1), (u279001), zq1, H', ⟨zq4⟩, ⟨by (with_reducible repeat (first | apply Kd.R_alloc | apply Kd.R_drewN | apply Kd.R_drew)); exact Kd.R_mono HO_279001.out (fun _ hk => trivial)⟩, ⟨zq15⟩, ⟨zq19⟩, ⟨zq24⟩, ⟨zq30⟩⟩
      ·
       rw [if_neg c18] at H
       exact absurd H (by simp)
     ·
      rw [if_neg c17] at H
      exact absurd H (by simp)
    ·
     rw [if_neg c16] at H
     have c16b0 : decide (x19_1 < (l0_1.length : Int)) = false := decide_eq_false c16
     clear c16
     simp only [Option.some.injEq, Prod.mk.injEq] at H
     obtain ⟨rfl, rfl, rfl⟩ := H
     try go_wp2
     have n0_ := Aside0.mk (Kd.R_drew HO_279001.out)
     have n1_ := Aside0.mk (blk_drew BK275.out)
     have n2_ := Aside0.mk (blk_drew BK276.out)
     have n3_ := Aside0.mk (blk_drew BK278.out)
     have n4_ := Aside0.mk (below_drew1 HB.out)
     clear HO_279001
     clear BK275
     clear BK276
     clear BK278
     clear HB
     have HO_279001 := n0_
     have BK275 := n1_
     have BK276 := n2_
     have BK278 := n3_
     have HB := n4_
     clear n0_ n1_ n2_ n3_ n4_
     obtain ⟨Ao45, co45, eo45⟩ := Kd.R_slice HO_279001.out
     (first | subst eo45 | (injection eo45 with f1_ f2_ f3_; have f4_ := f1_.symm; have f5_ := f3_.symm; clear f1_ f2_ f3_; subst f4_; subst f5_))
     refine start_ (n := 10) (S := fun w' => w'.cell? ⟨gb278, 0, none⟩ = some (.int .i64 a0_0) ∧ w'.cell? ⟨gb278, 1, none⟩ = some (.slice Ao45 x279001_1.length co45) ∧ w'.cell? ⟨gb275, 0, none⟩ = some (.int .i64 a0_0) ∧ w'.cell? ⟨gb275, 1, none⟩ = some (.slice A0_1 l0_1.length c0_1)) (ds := []) #[ff,ff,ff,ff,ff,ff,ff,ff,ff,ff] (by kernel_rfl) rfl rfl ⟨(blk_cell BK278.out 0).trans rfl, (blk_cell BK278.out 1).trans rfl, (blk_cell BK275.out 0).trans rfl, (blk_cell BK275.out 1).trans rfl⟩ (fun hHeld => ?_); refine with_tabW impl_Cutting.tab10 impl_Cutting.bits10 (fun HT_ HW_ => ?_)
     generalize wr.drew = w44 at HO_279001 BK275 BK276 BK278 HB hHeld ⊢
     refine pure_ (i := 1) (N := some 40) (v := ?_) (a' := ?_) #[ff,tt,ff,ff,ff,ff,ff,ff,ff,ff] rfl rfl (any_of HT_.out (by kernel_rfl)) (fun _ _ _ h => h) (Or.inl ⟨by rfl, ?_⟩) ?_ ?_
     rotate_left
     exact zq238
     rotate_left
     exact zq239
     refine pure_ (i := 4) (N := some 43) (v := ?_) (a' := ?_) #[ff,tt,ff,ff,tt,ff,ff,ff,ff,ff] rfl rfl (any_of HT_.out (by kernel_rfl)) (fun _ _ _ h => h) (Or.inl ⟨by rfl, ?_⟩) ?_ ?_
     rotate_left
     exact zq238
     rotate_left
     exact zq239
     refine take_ (i := 0) (N := some 39) (v := ?_) (a' := ?_) #[tt,tt,ff,ff,tt,ff,ff,ff,ff,ff] rfl rfl (take_ofW HT_.out HW_.out (by kernel_rfl)) (fun _ _ _ h => h) (Or.inl ⟨by rfl, ?_⟩) hHeld ?_ ?_
     rotate_left
     exact zq240
     rotate_left
     exact zq239
     refine take_ (i := 2) (N := some 41) (v := ?_) (a' := ?_) #[tt,tt,tt,ff,tt,ff,ff,ff,ff,ff] rfl rfl (take_ofW HT_.out HW_.out (by kernel_rfl)) (fun _ _ _ h => h) (Or.inl ⟨by rfl, ?_⟩) hHeld ?_ ?_
     rotate_left
     exact zq240
     rotate_left
     exact zq239
     refine pure_ (i := 3) (N := some 42) (v := ?_) (a' := ?_) #[tt,tt,tt,tt,tt,ff,ff,ff,ff,ff] rfl rfl (any_of HT_.out (by kernel_rfl)) (fun _ _ _ h => h) (Or.inl ⟨by rfl, ?_⟩) ?_ ?_
     rotate_left
     exact zq238
     rotate_left
     exact zq239
     refine take_ (i := 5) (N := some 44) (v := ?_) (a' := ?_) #[tt,tt,tt,tt,tt,tt,ff,ff,ff,ff] rfl rfl (take_ofW HT_.out HW_.out (by kernel_rfl)) (fun _ _ _ h => h) (Or.inl ⟨by rfl, ?_⟩) hHeld ?_ ?_
     rotate_left
     exact zq240
     rotate_left
     exact zq239
     refine pure_ (i := 6) (N := some 45) (v := ?_) (a' := ?_) #[tt,tt,tt,tt,tt,tt,tt,ff,ff,ff] rfl rfl (any_of HT_.out (by kernel_rfl)) (fun _ _ _ h => h) (Or.inl ⟨by rfl, ?_⟩) ?_ ?_
     rotate_left
     exact zq238
     rotate_left
     exact zq239
     refine pure_ (i := 7) (N := some 46) (v := ?_) (a' := ?_) #[tt,tt,tt,tt,tt,tt,tt,tt,ff,ff] rfl rfl (any_of HT_.out (by kernel_rfl)) (fun _ _ _ h => h) (Or.inl ⟨by rfl, ?_⟩) ?_ ?_
     rotate_left
     exact zq238
     rotate_left
     exact zq239
     refine one_ (i := 8) (N := none) #[tt,tt,tt,tt,tt,tt,tt,tt,tt,ff] rfl rfl (one_of HT_.out (by kernel_rfl)) (by decide) (fun K hK => ?_)
     have hs46 : w44.cell? ⟨gb276, 0, none⟩ = some (.int .i64 0) := (blk_cell BK276.out 0).trans rfl
     have hfs46 := blk_frozen BK276.out 0
     have hns46_0 := NB275_276.out
     have hns46_2 := NB278_276.out
     have hms46_0 := NB276_275.out
     have hms46_2 := NB276_278.out
     have hs47 : w44.cell? ⟨gb276, 1, none⟩ = some (.slice none 0 0) := (blk_cell BK276.out 1).trans rfl
     have hfs47 := blk_frozen BK276.out 1
     have hns47_0 := NB275_276.out
     have hns47_2 := NB278_276.out
     have hms47_0 := NB276_275.out
     have hms47_2 := NB276_278.out
     refine skip_ (w1 := ?_) (by rfl) rfl ?_ ?_
     rotate_left
     ·
      go_simp
      rfl
     refine hK.out _ _ ⟨((cell_far (p := ⟨gb276, _, none⟩) NB278_276.out _).trans (((cell_far (p := ⟨gb276, _, none⟩) NB278_276.out _).trans (hHeld.1)))), ((cell_far (p := ⟨gb276, _, none⟩) NB278_276.out _).trans (((cell_far (p := ⟨gb276, _, none⟩) NB278_276.out _).trans (hHeld.2.1)))), ((cell_far (p := ⟨gb276, _, none⟩) NB275_276.out _).trans (((cell_far (p := ⟨gb276, _, none⟩) NB275_276.out _).trans (hHeld.2.2.1)))), ((cell_far (p := ⟨gb276, _, none⟩) NB275_276.out _).trans (((cell_far (p := ⟨gb276, _, none⟩) NB275_276.out _).trans (hHeld.2.2.2))))⟩ (fun hHeld => ?_)
     clear hK K
     refine pure_ (i := 9) (N := some 5) (v := ?_) (a' := ?_) #[tt,tt,tt,tt,tt,tt,tt,tt,tt,tt] rfl rfl (any_of HT_.out (by kernel_rfl)) (fun _ _ _ h => h) (Or.inl ⟨by rfl, ?_⟩) ?_ ?_
     rotate_left
     exact zq238
     rotate_left
     exact zq239
     refine done_ (done_of HT_.out (by kernel_rfl)) ?_
     try go_wp2
     refine bodyPost_ret (results_ct rfl _ _ gb276 57 #[.int .i64 a0_0, .slice Ao45 x279001_1.length co45] (0, 0) _ rfl (by (with_reducible repeat (first | refine blk_drewN ?_ _ | refine blk_drew ?_ | refine blk_alloc ?_ _)); refine blk_put (cs := #[.int .i64 a0_0, .slice none 0 0]) ?_ 1 _ rfl; (with_reducible repeat (first | refine blk_drewN ?_ _ | refine blk_drew ?_ | refine blk_alloc ?_ _)); refine blk_put (cs := #[.int .i64 0, .slice none 0 0]) ?_ 0 _ rfl; (with_reducible repeat (first | refine blk_drewN ?_ _ | refine blk_drew ?_ | refine blk_alloc ?_ _)); exact BK276.out) Try.underlying57 rfl (by kernel_rfl)) rfl ?_
     exact ⟨_, zq8, by (with_reducible repeat (first | apply Kd.R_alloc | apply Kd.R_drewN | apply Kd.R_drew)); exact Kd.R_mono (Kd.R_far (p := ⟨gb276, 1, none⟩) (Kd.R_far (p := ⟨gb276, 0, none⟩) (Kd.R_types HO_279001.out BK276.out (by decide)) (fun _ hk => hk.2) (.int .i64 a0_0)) (fun _ hk => hk.2) (.slice Ao45 x279001_1.length co45)) (fun _ hk => trivial), zq22⟩
 ·
  replace c4 := Bool.eq_false_iff.mpr c4
  subst c4
  have H1 : (some (0, ([] : List (S59)), (-1))) = some (r1, r2, r3) := by rw [if_neg (show ¬ (false = true) by decide)] at H; exact H
  clear H
  have H := H1
  clear H1
  simp only [Option.some.injEq, Prod.mk.injEq] at H
  obtain ⟨rfl, rfl, rfl⟩ := H
  go_enter Try.func56, Try.ntmps56
  go_wp2_with (first | ((with_reducible refine gate_dst (N := 2) rfl ?_); refine box_event ?hg (N := 2) ?hd (cs := #[.int .i64 a0_0, .slice A0_1 l0_1.length c0_1]) (t := 57) ?hr ?_; (case hd => rfl); (case hg => rfl); (case hr => exact zq5); intro gb275 hg w48 hbox hb; have n0_ := Aside0.mk (below_step zq6 hb); have n1_ := Aside0.mk (hbox); have n2_ := Aside0.mk ((zq166 : w.heap.size ≤ gb275)); have n3_ := Aside0.mk ((zq166 : w.heap.size ≤ gb275)); clear HB; have HB := n0_; have BK275 := n1_; have GW275 := n2_; have GE275 := n3_; clear n0_ n1_ n2_ n3_; clear hb hbox hg) | ((with_reducible refine gate_dst (N := 4) rfl ?_); refine box_event ?hg (N := 4) ?hd (cs := #[.int .i64 0, .slice none 0 0]) (t := 57) ?hr ?_; (case hd => rfl); (case hg => rfl); (case hr => exact zq5); intro gb276 hg w49 hbox hb; have n0_ := Aside0.mk (blk_below (g := gb275) (o := .cells #[.int .i64 a0_0, .slice A0_1 l0_1.length c0_1] 57 (0, 0)) zq15 hb); have n1_ := Aside0.mk (below_step zq16 hb); have n2_ := Aside0.mk (hbox); have n3_ := Aside0.mk ((zq167 : w.heap.size ≤ gb276)); have n4_ := Aside0.mk ((zq167 : w.heap.size ≤ gb276)); have n5_ := Aside0.mk ((zq168 : gb275 ≠ gb276)); have n6_ := Aside0.mk ((zq169 : gb276 ≠ gb275)); clear BK275; clear HB; have BK275 := n0_; have HB := n1_; have BK276 := n2_; have GW276 := n3_; have GE276 := n4_; have NB275_276 := n5_; have NB276_275 := n6_; clear n0_ n1_ n2_ n3_ n4_ n5_ n6_; clear hb hbox hg; have hnb50 := NB275_276.out; have hnc50 := NB276_275.out; have hcz51_0 : w49.cell? ⟨gb275, 0, none⟩ = some (.int .i64 a0_0) := (blk_cell BK275.out 0).trans rfl; have hcz51_1 : w49.cell? ⟨gb275, 1, none⟩ = some (.slice A0_1 l0_1.length c0_1) := (blk_cell BK275.out 1).trans rfl; have hfz51_0 := blk_frozen BK275.out 0; have hfz51_1 := blk_frozen BK275.out 1) | ((with_reducible refine gate_callee (f := 87) rfl ?_); refine goesL_ (some 10) rfl rfl Try.func87 (by kernel_rfl) rfl #[.agg #[.int .i64 a0_0, .slice A0_1 l0_1.length c0_1]] rfl zq12 ?_; (with_reducible refine (impl_isNet.calls k a0_0 _ _ l0_1 false _ ?side1 ?side2 A3.out).mono ?_); (case side1 => exact zq17); (case side2 => exact zq18); rintro e w52 ⟨rfl, hb⟩; refine ⟨_, rfl, ?_⟩; have n0_ := Aside0.mk (blk_below (g := gb275) (o := .cells #[.int .i64 a0_0, .slice A0_1 l0_1.length c0_1] 57 (0, 0)) zq15 hb); have n1_ := Aside0.mk (blk_below (g := gb276) (o := .cells #[.int .i64 0, .slice none 0 0] 57 (0, 0)) zq19 hb); have n2_ := Aside0.mk (below_step zq20 hb); clear BK275; clear BK276; clear HB; have BK275 := n0_; have BK276 := n1_; have HB := n2_; clear n0_ n1_ n2_; (try clear hb); (try clear hb2); (try clear hk); (try clear hi); have hcz53_0 : w52.cell? ⟨gb276, 0, none⟩ = some (.int .i64 0) := (blk_cell BK276.out 0).trans rfl; have hcz53_1 : w52.cell? ⟨gb276, 1, none⟩ = some (.slice none 0 0) := (blk_cell BK276.out 1).trans rfl; have hfz53_0 := blk_frozen BK276.out 0; have hfz53_1 := blk_frozen BK276.out 1))
  refine bodyPost_ret (results_ct rfl _ _ gb276 57 #[.int .i64 0, .slice none 0 0] (0, 0) _ rfl (by (with_reducible repeat (first | refine blk_drewN ?_ _ | refine blk_drew ?_ | refine blk_alloc ?_ _)); refine blk_put (cs := #[.int .i64 0, .slice none 0 0]) ?_ 1 _ rfl; (with_reducible repeat (first | refine blk_drewN ?_ _ | refine blk_drew ?_ | refine blk_alloc ?_ _)); refine blk_put (cs := #[.int .i64 0, .slice none 0 0]) ?_ 0 _ rfl; (with_reducible repeat (first | refine blk_drewN ?_ _ | refine blk_drew ?_ | refine blk_alloc ?_ _)); exact BK276.out) Try.underlying57 rfl (by kernel_rfl)) rfl ?_
  exact ⟨_, zq8, zq21, zq20⟩

end Go.Proofs.Ytjcejdajbapliaa.QFnCut
