/- Written by wip/myprint.py of this repo (the kit's print, with additions of this session). -/
import Derived.Test.YtjcejdajbapliaaQFnCutx0
import Derived.Test.YtjcejdajbapliaaQFnCutx2
import Derived.Test.YtjcejdajbapliaaQFnCutx7
set_option maxRecDepth 100000
namespace Go.Proofs.Ytjcejdajbapliaa.QFnCut
open Go.RowKit Go.Proofs.YtjcejdajbapliaaW.PrintWords Go.Proofs.YtjcejdajbapliaaW.PrintLast Go.Proofs.YtjcejdajbapliaaW.PrintMore
attribute [local go_sem] max2_int min2_int max_two min_two max_three min_three max_four min_four   -- for this text's walks alone
set_option linter.unusedVariables false
set_option linter.unusedSimpArgs false

/-! ### spec_Cutting: function 55 -/
def spec_Cutting.l0 : Nat → List Int → Int → Int → List (S59) → Int → List (S59) → Option (Int × (List (S59)) × Int)
 | 0, _, _, _, _, _, _ => none
 | k + 1, x1, x7, x252000, x252001, x255000, x255001 => if x7 < (x252001.length : Int) then (if 0 ≤ x7 then ((spec_l1Ints.f k x1 ((rd_T59 x252001 x7).f1)).bind fun t257 => ((spec_l1Ints.f k x1 ((rd_T59 x252001 x7).f2)).bind fun t258 => (if (t257 == t258) = true then (if x255001.length < 3518437208883 then (spec_Cutting.l0 k x1 (wrap64 (x7 + 1)) x252000 x252001 x255000 (x255001 ++ [(⟨(rd_T59 x252001 x7).f0, (rd_T59 x252001 x7).f1, (rd_T59 x252001 x7).f2, (rd_T59 x252001 x7).f3⟩ : S59)])) else (none)) else (spec_Cutting.l0 k x1 (wrap64 (x7 + 1)) x252000 x252001 x255000 x255001)))) else (none)) else (some (x255000, x255001, wrap64 ((x252001.length : Int) - (x255001.length : Int))))
def spec_Cutting.f (k : Nat) (a0_0 : Int) (l0_1 : List (S59)) (l1 : List Int) : Option (Int × (List (S59)) × Int) := (spec_NetOk.f k a0_0 l0_1).bind fun t253 => (if t253 = true then (spec_Cutting.l0 k l1 0 a0_0 l0_1 a0_0 ([] : List (S59))) else (some (0, ([] : List (S59)), (-1))))
theorem spec_Cutting.mono_l : ∀ k, (∀ y0 y1 y2 y3 y4 y5, LeO (spec_Cutting.l0 k y0 y1 y2 y3 y4 y5) (spec_Cutting.l0 (k + 1) y0 y1 y2 y3 y4 y5))
 | 0 => fun _ _ _ _ _ _ r h => by simp [spec_Cutting.l0] at h
 | k + 1 => by
  have ih0 := spec_Cutting.mono_l k
  ·
   intro y0 y1 y2 y3 y4 y5
   unfold spec_Cutting.l0
   repeat' first
   | (with_reducible exact ih0 _ _ _ _ _ _)
   | (with_reducible exact spec_NetOk.mono _ _ _)
   | (with_reducible exact spec_l1Ints.mono _ _ _)
   | (with_reducible exact LeO.refl _)
   | (with_reducible exact LeO.none _)
   | (with_reducible refine LeO.ite ?_ ?_)
   | (with_reducible refine LeO.bind ?_ (fun _ => ?_))
   | exact ih0 _ _ _ _ _ _
   | exact spec_NetOk.mono _ _ _
   | exact spec_l1Ints.mono _ _ _
   | exact LeO.none _
   | refine LeO.ite ?_ ?_
   | refine LeO.bind ?_ (fun _ => ?_)
theorem spec_Cutting.mono : ∀ a0 a1 a2 k, LeO (spec_Cutting.f k a0 a1 a2) (spec_Cutting.f (k + 1) a0 a1 a2) := by
 intro a0 a1 a2 k
 have ih0 := spec_Cutting.mono_l k
 unfold spec_Cutting.f
 repeat' first
   | (with_reducible exact ih0 _ _ _ _ _ _)
   | (with_reducible exact spec_NetOk.mono _ _ _)
   | (with_reducible exact spec_l1Ints.mono _ _ _)
   | (with_reducible exact LeO.refl _)
   | (with_reducible exact LeO.none _)
   | (with_reducible refine LeO.ite ?_ ?_)
   | (with_reducible refine LeO.bind ?_ (fun _ => ?_))
   | exact ih0 _ _ _ _ _ _
   | exact spec_NetOk.mono _ _ _
   | exact spec_l1Ints.mono _ _ _
   | exact LeO.none _
   | refine LeO.ite ?_ ?_
   | refine LeO.bind ?_ (fun _ => ?_)
def spec_Cutting.T8 : Bool × List (List Nat × List Nat) := (true, [([], []), ([], []), ([1], [1]), ([0, 2], [0, 2]), ([], []), ([], []), ([5], [5]), ([4, 6, 3], [4, 6]), ([3, 7], [3, 7])])
def spec_Cutting.B8 : List Nat := [0, 0, 2, 7, 0, 0, 32, 127, 255]
theorem spec_Cutting.tab8 : rtab .any (opsOf Try.f55 8) = spec_Cutting.T8 := by kernel_rfl
theorem spec_Cutting.bits8 : waitsOk spec_Cutting.T8.2 spec_Cutting.B8 = true := by kernel_rfl
def spec_Cutting.T10 : Bool × List (List Nat × List Nat) := (true, [([], []), ([], []), ([1], [1]), ([2], [2]), ([], []), ([4], [4]), ([5], [5]), ([3, 6], [3, 6]), ([0, 0], [0]), ([7, 8, 0, 1, 2, 3, 4, 5, 6, 7, 8], [7])])
def spec_Cutting.B10 : List Nat := [0, 0, 2, 6, 0, 16, 48, 126, 1, 511]
theorem spec_Cutting.tab10 : rtab .any (opsOf Try.f55 10) = spec_Cutting.T10 := by kernel_rfl
theorem spec_Cutting.bits10 : waitsOk spec_Cutting.T10.2 spec_Cutting.B10 = true := by kernel_rfl
set_option maxHeartbeats 8000000 in
set_option maxRecDepth 100000 in
theorem spec_Cutting.calls (k : Nat) (a0_0 : Int) (A0_1 : Option Addr) (c0_1 : Nat) (l0_1 : List (S59)) (A1 : Option Addr) (c1 : Nat) (l1 : List Int) (r1 : Int) (r2 : List (S59)) (r3 : Int) (w : World) (hr0_1 : Kd.C k59 w A0_1 l0_1.length l0_1) (hc0_1 : l0_1.length ≤ c0_1) (hr1 : Kd.C (Kd.int .i64) w A1 l1.length l1) (hc1 : l1.length ≤ c1) (h : spec_Cutting.f k a0_0 l0_1 l1 = some (r1, r2, r3)) :
  Calls Try.prog 55 #[.agg #[.int .i64 a0_0, .slice A0_1 l0_1.length c0_1], .slice A1 l1.length c1] w fun e w' => ∃ v1_ : Value, e = .returned (.tuple #[.agg #[.int .i64 r1, v1_], .int .i64 r3]) ∧ Kd.R k59 59 w' w.heap.size (fun _ => True) v1_ r2 ∧ Below w.heap.size w w' := by
 have hu57 := Try.underlying57
 have hu59 := Try.underlying59
 have HR0_1 := Aside0.mk hr0_1
 have HC0_1 := Aside0.mk hc0_1
 clear hr0_1 hc0_1
 have HR1 := Aside0.mk hr1
 have HC1 := Aside0.mk hc1
 clear hr1 hc1
 have HB := Aside0.mk (Below.refl w.heap.size w)
 have H : ((spec_NetOk.f k a0_0 l0_1).bind fun t253 => (if t253 = true then (spec_Cutting.l0 k l1 0 a0_0 l0_1 a0_0 ([] : List (S59))) else (some (0, ([] : List (S59)), (-1))))) = some (r1, r2, r3) := h
 clear h
 replace H := Option.bind_eq_some_iff.mp H
 obtain ⟨t253, A30, H⟩ := H
 replace H : (if t253 = true then (spec_Cutting.l0 k l1 0 a0_0 l0_1 a0_0 ([] : List (S59))) else (some (0, ([] : List (S59)), (-1)))) = some (r1, r2, r3) := H
 have A3 := Aside0.mk A30
 clear A30
 by_cases c4 : t253 = true
 ·
  subst c4
  have H1 : (spec_Cutting.l0 k l1 0 a0_0 l0_1 a0_0 ([] : List (S59))) = some (r1, r2, r3) := by rw [if_pos rfl] at H; exact H
  clear H
  have H := H1
  clear H1
  have H' := Aside0.mk H
  clear H
  go_enter Try.func55, Try.ntmps55
  go_wp2_with (first | ((with_reducible refine gate_dst (N := 2) rfl ?_); refine box_event ?hg (N := 2) ?hd (cs := #[.int .i64 a0_0, .slice A0_1 l0_1.length c0_1]) (t := 57) ?hr ?_; (case hd => rfl); (case hg => rfl); (case hr => exact zq5); intro gb251 hg w5 hbox hb; have n0_ := Aside0.mk (below_step zq6 hb); have n1_ := Aside0.mk (hbox); have n2_ := Aside0.mk ((zq166 : w.heap.size ≤ gb251)); have n3_ := Aside0.mk ((zq166 : w.heap.size ≤ gb251)); clear HB; have HB := n0_; have BK251 := n1_; have GW251 := n2_; have GE251 := n3_; clear n0_ n1_ n2_ n3_; clear hb hbox hg) | ((with_reducible refine gate_dst (N := 4) rfl ?_); refine box_event ?hg (N := 4) ?hd (cs := #[.int .i64 0, .slice none 0 0]) (t := 57) ?hr ?_; (case hd => rfl); (case hg => rfl); (case hr => exact zq5); intro gb252 hg w6 hbox hb; have n0_ := Aside0.mk (blk_below (g := gb251) (o := .cells #[.int .i64 a0_0, .slice A0_1 l0_1.length c0_1] 57 (0, 0)) zq146 hb); have n1_ := Aside0.mk (below_step zq147 hb); have n2_ := Aside0.mk (hbox); have n3_ := Aside0.mk ((zq226 : w.heap.size ≤ gb252)); have n4_ := Aside0.mk ((zq226 : w.heap.size ≤ gb252)); have n5_ := Aside0.mk ((zq227 : gb251 ≠ gb252)); have n6_ := Aside0.mk ((zq228 : gb252 ≠ gb251)); clear BK251; clear HB; have BK251 := n0_; have HB := n1_; have BK252 := n2_; have GW252 := n3_; have GE252 := n4_; have NB251_252 := n5_; have NB252_251 := n6_; clear n0_ n1_ n2_ n3_ n4_ n5_ n6_; clear hb hbox hg; have hnb7 := NB251_252.out; have hnc7 := NB252_251.out; have hcz8_0 : w6.cell? ⟨gb251, 0, none⟩ = some (.int .i64 a0_0) := (blk_cell BK251.out 0).trans rfl; have hcz8_1 : w6.cell? ⟨gb251, 1, none⟩ = some (.slice A0_1 l0_1.length c0_1) := (blk_cell BK251.out 1).trans rfl; have hfz8_0 := blk_frozen BK251.out 0; have hfz8_1 := blk_frozen BK251.out 1) | ((with_reducible refine gate_callee (f := 83) rfl ?_); refine goesL_ (some 10) rfl rfl Try.func83 (by kernel_rfl) rfl #[.agg #[.int .i64 a0_0, .slice A0_1 l0_1.length c0_1]] rfl zq12 ?_; (with_reducible refine (spec_NetOk.calls k a0_0 _ _ l0_1 true _ ?side1 ?side2 A3.out).mono ?_); (case side1 => exact zq17); (case side2 => exact zq18); rintro e w9 ⟨rfl, hb⟩; refine ⟨_, rfl, ?_⟩; have n0_ := Aside0.mk (blk_below (g := gb251) (o := .cells #[.int .i64 a0_0, .slice A0_1 l0_1.length c0_1] 57 (0, 0)) zq146 hb); have n1_ := Aside0.mk (blk_below (g := gb252) (o := .cells #[.int .i64 0, .slice none 0 0] 57 (0, 0)) zq148 hb); have n2_ := Aside0.mk (below_step zq149 hb); clear BK251; clear BK252; clear HB; have BK251 := n0_; have BK252 := n1_; have HB := n2_; clear n0_ n1_ n2_; (try clear hb); (try clear hb2); (try clear hk); (try clear hi); have hcz10_0 : w9.cell? ⟨gb251, 0, none⟩ = some (.int .i64 a0_0) := (blk_cell BK251.out 0).trans rfl; have hcz10_1 : w9.cell? ⟨gb251, 1, none⟩ = some (.slice A0_1 l0_1.length c0_1) := (blk_cell BK251.out 1).trans rfl; have hfz10_0 := blk_frozen BK251.out 0; have hfz10_1 := blk_frozen BK251.out 1) | ((with_reducible refine gate_dst (N := 6) rfl ?_); refine box_event ?hg (N := 6) ?hd (cs := #[.int .i64 0, .slice none 0 0]) (t := 57) ?hr ?_; (case hd => rfl); (case hg => rfl); (case hr => exact zq5); intro gb254 hg w11 hbox hb; have n0_ := Aside0.mk (blk_below (g := gb251) (o := .cells #[.int .i64 a0_0, .slice A0_1 l0_1.length c0_1] 57 (0, 0)) zq146 hb); have n1_ := Aside0.mk (blk_below (g := gb252) (o := .cells #[.int .i64 0, .slice none 0 0] 57 (0, 0)) zq148 hb); have n2_ := Aside0.mk (below_step zq149 hb); have n3_ := Aside0.mk (hbox); have n4_ := Aside0.mk ((by rw [hg]; exact (below_size zq149) : w.heap.size ≤ gb254)); have n5_ := Aside0.mk ((by rw [hg]; exact (below_size zq149) : w.heap.size ≤ gb254)); have n6_ := Aside0.mk ((zq227 : gb251 ≠ gb254)); have n7_ := Aside0.mk ((zq228 : gb254 ≠ gb251)); have n8_ := Aside0.mk ((zq229 : gb252 ≠ gb254)); have n9_ := Aside0.mk ((zq230 : gb254 ≠ gb252)); clear BK251; clear BK252; clear HB; have BK251 := n0_; have BK252 := n1_; have HB := n2_; have BK254 := n3_; have GW254 := n4_; have GE254 := n5_; have NB251_254 := n6_; have NB254_251 := n7_; have NB252_254 := n8_; have NB254_252 := n9_; clear n0_ n1_ n2_ n3_ n4_ n5_ n6_ n7_ n8_ n9_; clear hb hbox hg; have hnb12 := NB254_251.out; have hnc12 := NB251_254.out; have hnb13 := NB254_252.out; have hnc13 := NB252_254.out; have hcz14_0 : w11.cell? ⟨gb254, 0, none⟩ = some (.int .i64 0) := (blk_cell BK254.out 0).trans rfl; have hcz14_1 : w11.cell? ⟨gb254, 1, none⟩ = some (.slice none 0 0) := (blk_cell BK254.out 1).trans rfl; have hfz14_0 := blk_frozen BK254.out 0; have hfz14_1 := blk_frozen BK254.out 1))
  go_loopg [7] k (fun kq v7 w' => ∃ (x7_1 : Int) (x255001_1 : List (S59)) (u255001 : Value), v7 = .int .i64 x7_1 ∧ Aside0 (spec_Cutting.l0 kq l1 x7_1 a0_0 l0_1 a0_0 x255001_1 = some (r1, r2, r3)) ∧ Aside0 (kq ≤ k) ∧ Aside0 (Kd.R k59 59 w' w.heap.size (fun _ => True) u255001 x255001_1) ∧ Aside0 (w'.heap[gb251]? = some (.cells #[.int .i64 a0_0, (.slice A0_1 l0_1.length c0_1)] 57 (0, 0))) ∧ Aside0 (w'.heap[gb252]? = some (.cells #[.int .i64 0, (.slice none 0 0)] 57 (0, 0))) ∧ Aside0 (w'.heap[gb254]? = some (.cells #[.int .i64 a0_0, u255001] 57 (0, 0))) ∧ Aside0 (Below w.heap.size w w'))
  case atStart => exact ⟨(0), (([] : List (S59))), (.slice none 0 0), zq1, H', ⟨Nat.le_refl _⟩, ⟨zq21⟩, ⟨by (with_reducible repeat (first | refine blk_drewN ?_ _ | refine blk_drew ?_ | refine blk_alloc ?_ _)); refine blk_far ?_ NB251_254.out _; (with_reducible repeat (first | refine blk_drewN ?_ _ | refine blk_drew ?_ | refine blk_alloc ?_ _)); refine blk_far ?_ NB251_254.out _; (with_reducible repeat (first | refine blk_drewN ?_ _ | refine blk_drew ?_ | refine blk_alloc ?_ _)); exact BK251.out⟩, ⟨by (with_reducible repeat (first | refine blk_drewN ?_ _ | refine blk_drew ?_ | refine blk_alloc ?_ _)); refine blk_far ?_ NB252_254.out _; (with_reducible repeat (first | refine blk_drewN ?_ _ | refine blk_drew ?_ | refine blk_alloc ?_ _)); refine blk_far ?_ NB252_254.out _; (with_reducible repeat (first | refine blk_drewN ?_ _ | refine blk_drew ?_ | refine blk_alloc ?_ _)); exact BK252.out⟩, ⟨by (with_reducible repeat (first | refine blk_drewN ?_ _ | refine blk_drew ?_ | refine blk_alloc ?_ _)); refine blk_put (cs := #[.int .i64 a0_0, .slice none 0 0]) ?_ 1 _ rfl; (with_reducible repeat (first | refine blk_drewN ?_ _ | refine blk_drew ?_ | refine blk_alloc ?_ _)); refine blk_put (cs := #[.int .i64 0, .slice none 0 0]) ?_ 0 _ rfl; (with_reducible repeat (first | refine blk_drewN ?_ _ | refine blk_drew ?_ | refine blk_alloc ?_ _)); exact BK254.out⟩, ⟨zq150⟩⟩
  case round =>
   clear H'
   try clear c1
   try clear p2
   try clear c4
   try clear c5
   try clear c7
   try clear c8
   try clear c12
   try clear c13
   try clear hcz10_0
   try clear hcz10_1
   try clear hcz14_0
   try clear hcz14_1
   try clear hcz8_0
   try clear hcz8_1
   try clear hfz10_0
   try clear hfz10_1
   try clear hfz14_0
   try clear hfz14_1
   try clear hfz8_0
   try clear hfz8_1
   obtain ⟨x7_1, x255001_1, u255001, rfl, HA, HK1, HO_255001, BK251, BK252, BK254, HB⟩ := hrel
   cases gk with
   | zero => exact absurd HA.out (by simp [spec_Cutting.l0])
   | succ k1 =>
    have H := HA.out
    clear HA
    simp only [spec_Cutting.l0] at H
    by_cases c15 : x7_1 < (l0_1.length : Int)
    ·
     rw [if_pos c15] at H
     have c15b0 : decide (x7_1 < (l0_1.length : Int)) = true := decide_eq_true c15
     clear c15
     by_cases c16 : 0 ≤ x7_1
     ·
      rw [if_pos c16] at H
      have c16b0 : decide (0 ≤ x7_1) = true := decide_eq_true c16
      clear c16
      replace H := Option.bind_eq_some_iff.mp H
      obtain ⟨t257, A170, H⟩ := H
      replace H : ((spec_l1Ints.f k1 l1 ((rd_T59 l0_1 x7_1).f2)).bind fun t258 => (if (t257 == t258) = true then (if x255001_1.length < 3518437208883 then (spec_Cutting.l0 k1 l1 (wrap64 (x7_1 + 1)) a0_0 l0_1 a0_0 (x255001_1 ++ [(⟨(rd_T59 l0_1 x7_1).f0, (rd_T59 l0_1 x7_1).f1, (rd_T59 l0_1 x7_1).f2, (rd_T59 l0_1 x7_1).f3⟩ : S59)])) else (none)) else (spec_Cutting.l0 k1 l1 (wrap64 (x7_1 + 1)) a0_0 l0_1 a0_0 x255001_1))) = some (r1, r2, r3) := H
      have A17 := Aside0.mk A170
      clear A170
      replace H := Option.bind_eq_some_iff.mp H
      obtain ⟨t258, A180, H⟩ := H
      replace H : (if (t257 == t258) = true then (if x255001_1.length < 3518437208883 then (spec_Cutting.l0 k1 l1 (wrap64 (x7_1 + 1)) a0_0 l0_1 a0_0 (x255001_1 ++ [(⟨(rd_T59 l0_1 x7_1).f0, (rd_T59 l0_1 x7_1).f1, (rd_T59 l0_1 x7_1).f2, (rd_T59 l0_1 x7_1).f3⟩ : S59)])) else (none)) else (spec_Cutting.l0 k1 l1 (wrap64 (x7_1 + 1)) a0_0 l0_1 a0_0 x255001_1)) = some (r1, r2, r3) := H
      have A18 := Aside0.mk A180
      clear A180
      by_cases c19 : (t257 == t258) = true
      ·
       rw [if_pos c19] at H
       have c19b0 : (t257 == t258) = true := c19
       (try (have c19b1 : decide (t257 = t258) = true := by simpa using c19))
       (try (have c19b2 : (t257 == t258) = true := by simpa using c19))
       clear c19
       by_cases c20 : x255001_1.length < 3518437208883
       ·
        rw [if_pos c20] at H
        have LMc20 := Aside0.mk c20
        clear c20
        obtain ⟨y259, hy259⟩ : ∃ y_ : List (S59), y_ = (x255001_1 ++ [(⟨(rd_T59 l0_1 x7_1).f0, (rd_T59 l0_1 x7_1).f1, (rd_T59 l0_1 x7_1).f2, (rd_T59 l0_1 x7_1).f3⟩ : S59)]) := ⟨_, rfl⟩
        replace H : (spec_Cutting.l0 k1 l1 (wrap64 (x7_1 + 1)) a0_0 l0_1 a0_0 y259) = some (r1, r2, r3) := by first | (rw [hy259]; with_reducible exact H) | (have H2_ := (Option.bind_some _ _).symm.trans H; rw [hy259]; with_reducible exact H2_) | (have H2_ := (Option.bind_some _ _).symm.trans H; with_reducible exact H2_) | with_reducible exact H | (rw [hy259]; exact H) | exact H
        have Ny259 := Aside0.mk hy259
        clear hy259
        have H' := Aside0.mk H
        clear H
        have hnb21 := NB251_252.out
        have hnc21 := NB252_251.out
        have hnb22 := NB251_254.out
        have hnc22 := NB254_251.out
        have hcz23_0 : wr.cell? ⟨gb251, 0, none⟩ = some (.int .i64 a0_0) := (blk_cell BK251.out 0).trans rfl
        have hcz23_1 : wr.cell? ⟨gb251, 1, none⟩ = some (.slice A0_1 l0_1.length c0_1) := (blk_cell BK251.out 1).trans rfl
        have hfz23_0 := blk_frozen BK251.out 0
        have hfz23_1 := blk_frozen BK251.out 1
        have p255 : 0 ≤ (x7_1 : Int) := of_decide_eq_true zq3
        have q255 : x7_1 < (l0_1.length : Int) := of_decide_eq_true zq3
        obtain ⟨ad255, e255, hx255_0, hx255_1, hx255_2, hx255_3⟩ := at_T59 HR0_1.out x7_1 p255 q255
        cases e255
        replace hx255_0 := (HB.out.cell (World.block_lt_of_cell? w _ hx255_0)).trans hx255_0
        replace hx255_1 := (HB.out.cell (World.block_lt_of_cell? w _ hx255_1)).trans hx255_1
        replace hx255_2 := (HB.out.cell (World.block_lt_of_cell? w _ hx255_2)).trans hx255_2
        replace hx255_3 := (HB.out.cell (World.block_lt_of_cell? w _ hx255_3)).trans hx255_3
        replace p255 := eq_true p255
        replace q255 := eq_true q255
        try go_wp2_with (first | ((with_reducible refine gate_dst (N := 8) rfl ?_); refine box_event ?hg (N := 8) ?hd (cs := #[.int .i64 0, .int .i64 0, .int .i64 0, .string (⟨#[]⟩ : ByteArray)]) (t := 59) ?hr ?_; (case hd => rfl); (case hg => rfl); (case hr => exact zq5); intro gb256 hg w24 hbox hb; have n0_ := Aside0.mk (Kd.R_below (Kd.R_elderB zq151 gb256 (Nat.le_of_eq hg.symm)) hb); have n1_ := Aside0.mk (blk_below (g := gb251) (o := .cells #[.int .i64 a0_0, .slice (some ad255) l0_1.length c0_1] 57 (0, 0)) zq146 hb); have n2_ := Aside0.mk (blk_below (g := gb252) (o := .cells #[.int .i64 0, .slice none 0 0] 57 (0, 0)) zq148 hb); have n3_ := Aside0.mk (blk_below (g := gb254) (o := .cells #[.int .i64 a0_0, u255001] 57 (0, 0)) zq152 hb); have n4_ := Aside0.mk (below_step zq150 hb); have n5_ := Aside0.mk (hbox); have n6_ := Aside0.mk ((zq231 : w.heap.size ≤ gb256)); have n7_ := Aside0.mk ((zq231 : w.heap.size ≤ gb256)); have n8_ := Aside0.mk ((zq232 : gb251 ≠ gb256)); have n9_ := Aside0.mk ((zq233 : gb256 ≠ gb251)); have n10_ := Aside0.mk ((zq229 : gb252 ≠ gb256)); have n11_ := Aside0.mk ((zq230 : gb256 ≠ gb252)); have n12_ := Aside0.mk ((zq234 : gb254 ≠ gb256)); have n13_ := Aside0.mk ((zq235 : gb256 ≠ gb254)); clear HO_255001; clear BK251; clear BK252; clear BK254; clear HB; have HO_255001 := n0_; have BK251 := n1_; have BK252 := n2_; have BK254 := n3_; have HB := n4_; have BK256 := n5_; have GW256 := n6_; have GE256 := n7_; have NB251_256 := n8_; have NB256_251 := n9_; have NB252_256 := n10_; have NB256_252 := n11_; have NB254_256 := n12_; have NB256_254 := n13_; clear n0_ n1_ n2_ n3_ n4_ n5_ n6_ n7_ n8_ n9_ n10_ n11_ n12_ n13_; clear hb hbox hg; have hnb25 := NB256_251.out; have hnc25 := NB251_256.out; have hnb26 := NB256_252.out; have hnc26 := NB252_256.out; have hnb27 := NB256_254.out; have hnc27 := NB254_256.out; have hcz28_0 : w24.cell? ⟨gb256, 0, none⟩ = some (.int .i64 0) := (blk_cell BK256.out 0).trans rfl; have hcz28_1 : w24.cell? ⟨gb256, 1, none⟩ = some (.int .i64 0) := (blk_cell BK256.out 1).trans rfl; have hcz28_2 : w24.cell? ⟨gb256, 2, none⟩ = some (.int .i64 0) := (blk_cell BK256.out 2).trans rfl; have hcz28_3 : w24.cell? ⟨gb256, 3, none⟩ = some (.string (⟨#[]⟩ : ByteArray)) := (blk_cell BK256.out 3).trans rfl; have hfz28_0 := blk_frozen BK256.out 0; have hfz28_1 := blk_frozen BK256.out 1; have hfz28_2 := blk_frozen BK256.out 2; have hfz28_3 := blk_frozen BK256.out 3))
        have n0_ : Aside0 (Kd.R k59 59 ((((w24.setCell ⟨gb256, 0, none⟩ (.int .i64 ((rd_T59 l0_1 x7_1).f0))).setCell ⟨gb256, 1, none⟩ (.int .i64 ((rd_T59 l0_1 x7_1).f1))).setCell ⟨gb256, 2, none⟩ (.int .i64 ((rd_T59 l0_1 x7_1).f2))).setCell ⟨gb256, 3, none⟩ (.string ((rd_T59 l0_1 x7_1).f3))) w.heap.size (fun k_ => k_ ≠ gb256) u255001 x255001_1) := ⟨zq153⟩
        have n1_ : Aside0 (((((w24.setCell ⟨gb256, 0, none⟩ (.int .i64 ((rd_T59 l0_1 x7_1).f0))).setCell ⟨gb256, 1, none⟩ (.int .i64 ((rd_T59 l0_1 x7_1).f1))).setCell ⟨gb256, 2, none⟩ (.int .i64 ((rd_T59 l0_1 x7_1).f2))).setCell ⟨gb256, 3, none⟩ (.string ((rd_T59 l0_1 x7_1).f3))).heap[gb251]? = some (.cells #[.int .i64 a0_0, .slice (some ad255) l0_1.length c0_1] 57 (0, 0))) := ⟨zq154⟩
        have n2_ : Aside0 (((((w24.setCell ⟨gb256, 0, none⟩ (.int .i64 ((rd_T59 l0_1 x7_1).f0))).setCell ⟨gb256, 1, none⟩ (.int .i64 ((rd_T59 l0_1 x7_1).f1))).setCell ⟨gb256, 2, none⟩ (.int .i64 ((rd_T59 l0_1 x7_1).f2))).setCell ⟨gb256, 3, none⟩ (.string ((rd_T59 l0_1 x7_1).f3))).heap[gb252]? = some (.cells #[.int .i64 0, .slice none 0 0] 57 (0, 0))) := ⟨zq155⟩
        have n3_ : Aside0 (((((w24.setCell ⟨gb256, 0, none⟩ (.int .i64 ((rd_T59 l0_1 x7_1).f0))).setCell ⟨gb256, 1, none⟩ (.int .i64 ((rd_T59 l0_1 x7_1).f1))).setCell ⟨gb256, 2, none⟩ (.int .i64 ((rd_T59 l0_1 x7_1).f2))).setCell ⟨gb256, 3, none⟩ (.string ((rd_T59 l0_1 x7_1).f3))).heap[gb254]? = some (.cells #[.int .i64 a0_0, u255001] 57 (0, 0))) := ⟨zq156⟩
        have n4_ : Aside0 (((((w24.setCell ⟨gb256, 0, none⟩ (.int .i64 ((rd_T59 l0_1 x7_1).f0))).setCell ⟨gb256, 1, none⟩ (.int .i64 ((rd_T59 l0_1 x7_1).f1))).setCell ⟨gb256, 2, none⟩ (.int .i64 ((rd_T59 l0_1 x7_1).f2))).setCell ⟨gb256, 3, none⟩ (.string ((rd_T59 l0_1 x7_1).f3))).heap[gb256]? = some (.cells #[.int .i64 ((rd_T59 l0_1 x7_1).f0), .int .i64 ((rd_T59 l0_1 x7_1).f1), .int .i64 ((rd_T59 l0_1 x7_1).f2), .string ((rd_T59 l0_1 x7_1).f3)] 59 (0, 0))) := ⟨zq157⟩
        have n5_ : Aside0 (Below w.heap.size w ((((w24.setCell ⟨gb256, 0, none⟩ (.int .i64 ((rd_T59 l0_1 x7_1).f0))).setCell ⟨gb256, 1, none⟩ (.int .i64 ((rd_T59 l0_1 x7_1).f1))).setCell ⟨gb256, 2, none⟩ (.int .i64 ((rd_T59 l0_1 x7_1).f2))).setCell ⟨gb256, 3, none⟩ (.string ((rd_T59 l0_1 x7_1).f3)))) := ⟨zq158⟩
        (try clear HO_255001)
        (try clear BK251)
        (try clear BK252)
        (try clear BK254)
        (try clear BK256)
        (try clear HB)
        generalize ((((w24.setCell ⟨gb256, 0, none⟩ (.int .i64 ((rd_T59 l0_1 x7_1).f0))).setCell ⟨gb256, 1, none⟩ (.int .i64 ((rd_T59 l0_1 x7_1).f1))).setCell ⟨gb256, 2, none⟩ (.int .i64 ((rd_T59 l0_1 x7_1).f2))).setCell ⟨gb256, 3, none⟩ (.string ((rd_T59 l0_1 x7_1).f3))) = w29 at n0_ n1_ n2_ n3_ n4_ n5_ ⊢
        have HO_255001 := n0_
        have BK251 := n1_
        have BK252 := n2_
        have BK254 := n3_
        have BK256 := n4_
        have HB := n5_
        clear n0_ n1_ n2_ n3_ n4_ n5_
        have n0_ := Aside0.mk (Kd.R_drew HO_255001.out)
        have n1_ := Aside0.mk (blk_drew BK251.out)
        have n2_ := Aside0.mk (blk_drew BK252.out)
        have n3_ := Aside0.mk (blk_drew BK254.out)
        have n4_ := Aside0.mk (blk_drew BK256.out)
        have n5_ := Aside0.mk (below_drew1 HB.out)
        clear HO_255001
        clear BK251
        clear BK252
        clear BK254
        clear BK256
        clear HB
        have HO_255001 := n0_
        have BK251 := n1_
        have BK252 := n2_
        have BK254 := n3_
        have BK256 := n4_
        have HB := n5_
        clear n0_ n1_ n2_ n3_ n4_ n5_
        refine start_ (n := 9) (S := fun w' => w'.cell? ⟨gb256, 0, none⟩ = some (.int .i64 ((rd_T59 l0_1 x7_1).f0)) ∧ w'.cell? ⟨gb256, 1, none⟩ = some (.int .i64 ((rd_T59 l0_1 x7_1).f1)) ∧ w'.cell? ⟨gb256, 2, none⟩ = some (.int .i64 ((rd_T59 l0_1 x7_1).f2)) ∧ w'.cell? ⟨gb256, 3, none⟩ = some (.string ((rd_T59 l0_1 x7_1).f3))) (ds := []) #[ff,ff,ff,ff,ff,ff,ff,ff,ff] (by kernel_rfl) rfl rfl ⟨(blk_cell BK256.out 0).trans rfl, (blk_cell BK256.out 1).trans rfl, (blk_cell BK256.out 2).trans rfl, (blk_cell BK256.out 3).trans rfl⟩ (fun hHeld => ?_); refine with_tabW spec_Cutting.tab8 spec_Cutting.bits8 (fun HT_ HW_ => ?_)
        generalize w29.drew = w30 at HO_255001 BK251 BK252 BK254 BK256 HB hHeld ⊢
        refine pure_ (i := 0) (N := some 28) (v := ?_) (a' := ?_) #[tt,ff,ff,ff,ff,ff,ff,ff,ff] rfl rfl (any_of HT_.out (by kernel_rfl)) (fun _ _ _ h => h) (Or.inl ⟨by rfl, ?_⟩) ?_ ?_
        rotate_left
        exact zq238
        rotate_left
        exact zq239
        refine pure_ (i := 1) (N := some 29) (v := ?_) (a' := ?_) #[tt,tt,ff,ff,ff,ff,ff,ff,ff] rfl rfl (any_of HT_.out (by kernel_rfl)) (fun _ _ _ h => h) (Or.inl ⟨by rfl, ?_⟩) ?_ ?_
        rotate_left
        exact zq238
        rotate_left
        exact zq239
        refine pure_ (i := 4) (N := some 32) (v := ?_) (a' := ?_) #[tt,tt,ff,ff,tt,ff,ff,ff,ff] rfl rfl (any_of HT_.out (by kernel_rfl)) (fun _ _ _ h => h) (Or.inl ⟨by rfl, ?_⟩) ?_ ?_
        rotate_left
        exact zq238
        rotate_left
        exact zq239
        refine pure_ (i := 5) (N := some 33) (v := ?_) (a' := ?_) #[tt,tt,ff,ff,tt,tt,ff,ff,ff] rfl rfl (any_of HT_.out (by kernel_rfl)) (fun _ _ _ h => h) (Or.inl ⟨by rfl, ?_⟩) ?_ ?_
        rotate_left
        exact zq238
        rotate_left
        exact zq239
        refine take_ (i := 2) (N := some 30) (v := ?_) (a' := ?_) #[tt,tt,tt,ff,tt,tt,ff,ff,ff] rfl rfl (take_ofW HT_.out HW_.out (by kernel_rfl)) (fun _ _ _ h => h) (Or.inl ⟨by rfl, ?_⟩) hHeld ?_ ?_
        rotate_left
        exact zq240
        rotate_left
        exact zq239
        refine take_ (i := 6) (N := some 34) (v := ?_) (a' := ?_) #[tt,tt,tt,ff,tt,tt,tt,ff,ff] rfl rfl (take_ofW HT_.out HW_.out (by kernel_rfl)) (fun _ _ _ h => h) (Or.inl ⟨by rfl, ?_⟩) hHeld ?_ ?_
        rotate_left
        exact zq240
        rotate_left
        exact zq239
        refine one_ (i := 3) (N := some 31) #[tt,tt,tt,tt,tt,tt,tt,ff,ff] rfl rfl (one_of HT_.out (by kernel_rfl)) (by decide) (fun K hK => ?_)
        refine goes_ Try.func97 (by kernel_rfl) rfl #[.slice A1 l1.length c1, .int .i64 ((rd_T59 l0_1 x7_1).f1)] (by rfl) rfl rfl zq12 ?_
        with_reducible refine (spec_l1Ints.calls k1 _ _ l1 ((rd_T59 l0_1 x7_1).f1) t257 _ ?side1 ?side2 A17.out).mono ?_
        (case side1 => exact zq31)
        (case side2 => exact zq32)
        rintro e w' ⟨rfl, ⟨nd, rfl⟩⟩
        refine ⟨_, rfl, ?_⟩
        refine hK.out _ _ ⟨(blk_cell BK256.out 0).trans rfl, (blk_cell BK256.out 1).trans rfl, (blk_cell BK256.out 2).trans rfl, (blk_cell BK256.out 3).trans rfl⟩ (fun hHeld => ?_)
        clear hK K
        refine norm_ (a' := ?_) ?_ ?_
        rotate_left
        ·
         show Act.put _ (some 31) _ = _
         simp only [Act.put, List.setIfInBounds_toArray, List.set_cons_zero, List.set_cons_succ, i64_w, i32_w]
         rfl
        refine one_ (i := 7) (N := some 35) #[tt,tt,tt,tt,tt,tt,tt,tt,ff] rfl rfl (one_of HT_.out (by kernel_rfl)) (by decide) (fun K hK => ?_)
        refine goes_ Try.func97 (by kernel_rfl) rfl #[.slice A1 l1.length c1, .int .i64 ((rd_T59 l0_1 x7_1).f2)] (by rfl) rfl rfl zq12 ?_
        with_reducible refine (spec_l1Ints.calls k1 _ _ l1 ((rd_T59 l0_1 x7_1).f2) t258 _ ?side1 ?side2 A18.out).mono ?_
        (case side1 => exact zq236)
        (case side2 => exact zq32)
        rintro e w' ⟨rfl, ⟨nd, rfl⟩⟩
        refine ⟨_, rfl, ?_⟩
        refine hK.out _ _ ⟨(blk_cell BK256.out 0).trans rfl, (blk_cell BK256.out 1).trans rfl, (blk_cell BK256.out 2).trans rfl, (blk_cell BK256.out 3).trans rfl⟩ (fun hHeld => ?_)
        clear hK K
        refine norm_ (a' := ?_) ?_ ?_
        rotate_left
        ·
         show Act.put _ (some 35) _ = _
         simp only [Act.put, List.setIfInBounds_toArray, List.set_cons_zero, List.set_cons_succ, i64_w, i32_w]
         rfl
        refine pure_ (i := 8) (N := some 36) (v := ?_) (a' := ?_) #[tt,tt,tt,tt,tt,tt,tt,tt,tt] rfl rfl (any_of HT_.out (by kernel_rfl)) (fun _ _ _ h => h) (Or.inl ⟨by rfl, ?_⟩) ?_ ?_
        rotate_left
        exact zq238
        rotate_left
        exact zq239
        refine done_ (done_of HT_.out (by kernel_rfl)) ?_
        have hnb31 := NB254_252.out
        have hnc31 := NB252_254.out
        have hcz32_0 : w30.cell? ⟨gb254, 0, none⟩ = some (.int .i64 a0_0) := (blk_cell BK254.out 0).trans rfl
        have hcz32_1 : w30.cell? ⟨gb254, 1, none⟩ = some (u255001) := (blk_cell BK254.out 1).trans rfl
        have hfz32_0 := blk_frozen BK254.out 0
        have hfz32_1 := blk_frozen BK254.out 1
        have hcz33_0 : w30.cell? ⟨gb256, 0, none⟩ = some (.int .i64 ((rd_T59 l0_1 x7_1).f0)) := (blk_cell BK256.out 0).trans rfl
        have hcz33_1 : w30.cell? ⟨gb256, 1, none⟩ = some (.int .i64 ((rd_T59 l0_1 x7_1).f1)) := (blk_cell BK256.out 1).trans rfl
        have hcz33_2 : w30.cell? ⟨gb256, 2, none⟩ = some (.int .i64 ((rd_T59 l0_1 x7_1).f2)) := (blk_cell BK256.out 2).trans rfl
        have hcz33_3 : w30.cell? ⟨gb256, 3, none⟩ = some (.string ((rd_T59 l0_1 x7_1).f3)) := (blk_cell BK256.out 3).trans rfl
        have hfz33_0 := blk_frozen BK256.out 0
        have hfz33_1 := blk_frozen BK256.out 1
        have hfz33_2 := blk_frozen BK256.out 2
        have hfz33_3 := blk_frozen BK256.out 3
        try go_wp2_with (first | ((with_reducible refine gate_builtin (b := .append) (xs := #[.tmp 38, .tmp 40]) rfl ?_); at_builtin; refine Kd.R_append k59 (w0 := w) w.heap.size rfl (.tmp 38) (.tmp 40) 55 59 (.agg #[(.int .i64 0), (.int .i64 0), (.int .i64 0), (.string ⟨#[]⟩)]) 40 rfl Try.underlying55 info59 rfl (by decide) (by omega) u255001 x255001_1 (⟨(rd_T59 l0_1 x7_1).f0, (rd_T59 l0_1 x7_1).f1, (rd_T59 l0_1 x7_1).f2, (rd_T59 l0_1 x7_1).f3⟩ : S59) [.int .i64 ((rd_T59 l0_1 x7_1).f0), .int .i64 ((rd_T59 l0_1 x7_1).f1), .int .i64 ((rd_T59 l0_1 x7_1).f2), .string ((rd_T59 l0_1 x7_1).f3)] (fun k_ => k_ ≠ gb256) (fun _ => False) rfl rfl ?aP (fun _ hk => hk.elim) ?aF ?aO ?aB ?aS ?aL ?_; (case aP => exact k59_mkM _ _ _ (⟨(rd_T59 l0_1 x7_1).f0, (rd_T59 l0_1 x7_1).f1, (rd_T59 l0_1 x7_1).f2, (rd_T59 l0_1 x7_1).f3⟩ : S59)); (case aB => exact zq158); (case aF => exact (fun k_ hk => Kd.freshB (g := gb256) (o := .cells #[.int .i64 ((rd_T59 l0_1 x7_1).f0), .int .i64 ((rd_T59 l0_1 x7_1).f1), .int .i64 ((rd_T59 l0_1 x7_1).f2), .string ((rd_T59 l0_1 x7_1).f3)] 59 (0, 0)) zq159 k_ hk)); (case aO => exact zq151); (case aS => exact (below_size zq158)); (case aL => have := LMc20.out; omega); intro v260 w34 ho hb hg hat; rw [← Ny259.out] at ho; have n0_ := Aside0.mk (blk_grown (g := gb251) (o := .cells #[.int .i64 a0_0, .slice (some ad255) l0_1.length c0_1] 57 (0, 0)) zq146 hg (Kd.R_ne HO_255001.out BK251.out (by decide))); have n1_ := Aside0.mk (blk_grown (g := gb252) (o := .cells #[.int .i64 0, .slice none 0 0] 57 (0, 0)) zq148 hg (Kd.R_ne HO_255001.out BK252.out (by decide))); have n2_ := Aside0.mk (blk_grown (g := gb254) (o := .cells #[.int .i64 a0_0, u255001] 57 (0, 0)) zq152 hg (Kd.R_ne HO_255001.out BK254.out (by decide))); have n3_ := Aside0.mk (blk_grown (g := gb256) (o := .cells #[.int .i64 ((rd_T59 l0_1 x7_1).f0), .int .i64 ((rd_T59 l0_1 x7_1).f1), .int .i64 ((rd_T59 l0_1 x7_1).f2), .string ((rd_T59 l0_1 x7_1).f3)] 59 (0, 0)) zq159 hg (Kd.R_away HO_255001.out (fun _ hk => hk))); have n4_ := Aside0.mk (hb); have n5_ := Aside0.mk (ho); clear BK251; clear BK252; clear BK254; clear BK256; clear HB; clear HO_255001; have BK251 := n0_; have BK252 := n1_; have BK254 := n2_; have BK256 := n3_; have HB := n4_; have HO261 := n5_; clear n0_ n1_ n2_ n3_ n4_ n5_; clear ho hb hg hat; obtain ⟨Ao35, co35, eo35⟩ := Kd.R_slice HO261.out; subst eo35; have hcz36_0 : w34.cell? ⟨gb254, 0, none⟩ = some (.int .i64 a0_0) := (blk_cell BK254.out 0).trans rfl; have hcz36_1 : w34.cell? ⟨gb254, 1, none⟩ = some (u255001) := (blk_cell BK254.out 1).trans rfl; have hfz36_0 := blk_frozen BK254.out 0; have hfz36_1 := blk_frozen BK254.out 1))
        go_roundg k1
        case measure => have := HK1.out; omega
        case rel => exact ⟨(wrap64 (x7_1 + 1)), (y259), (.slice Ao35 y259.length co35), zq1, H', ⟨zq4⟩, ⟨by (with_reducible repeat (first | apply Kd.R_alloc | apply Kd.R_drewN | apply Kd.R_drew)); exact Kd.R_mono (Kd.R_far (p := ⟨gb254, 1, none⟩) (Kd.R_types HO261.out BK254.out (by decide)) (fun _ hk => hk.2) (.slice Ao35 y259.length co35)) (fun _ hk => trivial)⟩, ⟨by (with_reducible repeat (first | refine blk_drewN ?_ _ | refine blk_drew ?_ | refine blk_alloc ?_ _)); refine blk_far ?_ NB251_254.out _; (with_reducible repeat (first | refine blk_drewN ?_ _ | refine blk_drew ?_ | refine blk_alloc ?_ _)); exact BK251.out⟩, ⟨by (with_reducible repeat (first | refine blk_drewN ?_ _ | refine blk_drew ?_ | refine blk_alloc ?_ _)); refine blk_far ?_ NB252_254.out _; (with_reducible repeat (first | refine blk_drewN ?_ _ | refine blk_drew ?_ | refine blk_alloc ?_ _)); exact BK252.out⟩, ⟨by (with_reducible repeat (first | refine blk_drewN ?_ _ | refine blk_drew ?_ | refine blk_alloc ?_ _)); refine blk_put (cs := #[.int .i64 a0_0, u255001]) ?_ 1 _ rfl; (with_reducible repeat (first | refine blk_drewN ?_ _ | refine blk_drew ?_ | refine blk_alloc ?_ _)); exact BK254.out⟩, ⟨zq158⟩⟩
       ·
        rw [if_neg c20] at H
        exact absurd H (by simp)
      ·
       rw [if_neg c19] at H
       have c19b0 : (t257 == t258) = false := by simpa using c19
       (try (have c19b1 : decide (t257 = t258) = false := by simpa using c19))
       (try (have c19b2 : (t257 == t258) = false := by simpa using c19))
       (try (have c19b3 : ¬ (t257 = t258) := by simpa using c19))
       clear c19
       have H' := Aside0.mk H
       clear H
       have hnb37 := NB251_252.out
       have hnc37 := NB252_251.out
       have hnb38 := NB251_254.out
       have hnc38 := NB254_251.out
       have hcz39_0 : wr.cell? ⟨gb251, 0, none⟩ = some (.int .i64 a0_0) := (blk_cell BK251.out 0).trans rfl
       have hcz39_1 : wr.cell? ⟨gb251, 1, none⟩ = some (.slice A0_1 l0_1.length c0_1) := (blk_cell BK251.out 1).trans rfl
       have hfz39_0 := blk_frozen BK251.out 0
       have hfz39_1 := blk_frozen BK251.out 1
       have p255 : 0 ≤ (x7_1 : Int) := of_decide_eq_true zq3
       have q255 : x7_1 < (l0_1.length : Int) := of_decide_eq_true zq3
       obtain ⟨ad255, e255, hx255_0, hx255_1, hx255_2, hx255_3⟩ := at_T59 HR0_1.out x7_1 p255 q255
       cases e255
       replace hx255_0 := (HB.out.cell (World.block_lt_of_cell? w _ hx255_0)).trans hx255_0
       replace hx255_1 := (HB.out.cell (World.block_lt_of_cell? w _ hx255_1)).trans hx255_1
       replace hx255_2 := (HB.out.cell (World.block_lt_of_cell? w _ hx255_2)).trans hx255_2
       replace hx255_3 := (HB.out.cell (World.block_lt_of_cell? w _ hx255_3)).trans hx255_3
       replace p255 := eq_true p255
       replace q255 := eq_true q255
       try go_wp2_with (first | ((with_reducible refine gate_dst (N := 8) rfl ?_); refine box_event ?hg (N := 8) ?hd (cs := #[.int .i64 0, .int .i64 0, .int .i64 0, .string (⟨#[]⟩ : ByteArray)]) (t := 59) ?hr ?_; (case hd => rfl); (case hg => rfl); (case hr => exact zq5); intro gb256 hg w40 hbox hb; have n0_ := Aside0.mk (Kd.R_below (Kd.R_elderB zq151 gb256 (Nat.le_of_eq hg.symm)) hb); have n1_ := Aside0.mk (blk_below (g := gb251) (o := .cells #[.int .i64 a0_0, .slice (some ad255) l0_1.length c0_1] 57 (0, 0)) zq146 hb); have n2_ := Aside0.mk (blk_below (g := gb252) (o := .cells #[.int .i64 0, .slice none 0 0] 57 (0, 0)) zq148 hb); have n3_ := Aside0.mk (blk_below (g := gb254) (o := .cells #[.int .i64 a0_0, u255001] 57 (0, 0)) zq152 hb); have n4_ := Aside0.mk (below_step zq150 hb); have n5_ := Aside0.mk (hbox); have n6_ := Aside0.mk ((zq231 : w.heap.size ≤ gb256)); have n7_ := Aside0.mk ((zq231 : w.heap.size ≤ gb256)); have n8_ := Aside0.mk ((zq232 : gb251 ≠ gb256)); have n9_ := Aside0.mk ((zq233 : gb256 ≠ gb251)); have n10_ := Aside0.mk ((zq229 : gb252 ≠ gb256)); have n11_ := Aside0.mk ((zq230 : gb256 ≠ gb252)); have n12_ := Aside0.mk ((zq234 : gb254 ≠ gb256)); have n13_ := Aside0.mk ((zq235 : gb256 ≠ gb254)); clear HO_255001; clear BK251; clear BK252; clear BK254; clear HB; have HO_255001 := n0_; have BK251 := n1_; have BK252 := n2_; have BK254 := n3_; have HB := n4_; have BK256 := n5_; have GW256 := n6_; have GE256 := n7_; have NB251_256 := n8_; have NB256_251 := n9_; have NB252_256 := n10_; have NB256_252 := n11_; have NB254_256 := n12_; have NB256_254 := n13_; clear n0_ n1_ n2_ n3_ n4_ n5_ n6_ n7_ n8_ n9_ n10_ n11_ n12_ n13_; clear hb hbox hg; have hnb41 := NB256_251.out; have hnc41 := NB251_256.out; have hnb42 := NB256_252.out; have hnc42 := NB252_256.out; have hnb43 := NB256_254.out; have hnc43 := NB254_256.out; have hcz44_0 : w40.cell? ⟨gb256, 0, none⟩ = some (.int .i64 0) := (blk_cell BK256.out 0).trans rfl; have hcz44_1 : w40.cell? ⟨gb256, 1, none⟩ = some (.int .i64 0) := (blk_cell BK256.out 1).trans rfl; have hcz44_2 : w40.cell? ⟨gb256, 2, none⟩ = some (.int .i64 0) := (blk_cell BK256.out 2).trans rfl; have hcz44_3 : w40.cell? ⟨gb256, 3, none⟩ = some (.string (⟨#[]⟩ : ByteArray)) := (blk_cell BK256.out 3).trans rfl; have hfz44_0 := blk_frozen BK256.out 0; have hfz44_1 := blk_frozen BK256.out 1; have hfz44_2 := blk_frozen BK256.out 2; have hfz44_3 := blk_frozen BK256.out 3))
       have n0_ : Aside0 (Kd.R k59 59 ((((w40.setCell ⟨gb256, 0, none⟩ (.int .i64 ((rd_T59 l0_1 x7_1).f0))).setCell ⟨gb256, 1, none⟩ (.int .i64 ((rd_T59 l0_1 x7_1).f1))).setCell ⟨gb256, 2, none⟩ (.int .i64 ((rd_T59 l0_1 x7_1).f2))).setCell ⟨gb256, 3, none⟩ (.string ((rd_T59 l0_1 x7_1).f3))) w.heap.size (fun k_ => k_ ≠ gb256) u255001 x255001_1) := ⟨zq153⟩
       have n1_ : Aside0 (((((w40.setCell ⟨gb256, 0, none⟩ (.int .i64 ((rd_T59 l0_1 x7_1).f0))).setCell ⟨gb256, 1, none⟩ (.int .i64 ((rd_T59 l0_1 x7_1).f1))).setCell ⟨gb256, 2, none⟩ (.int .i64 ((rd_T59 l0_1 x7_1).f2))).setCell ⟨gb256, 3, none⟩ (.string ((rd_T59 l0_1 x7_1).f3))).heap[gb251]? = some (.cells #[.int .i64 a0_0, .slice (some ad255) l0_1.length c0_1] 57 (0, 0))) := ⟨zq154⟩
       have n2_ : Aside0 (((((w40.setCell ⟨gb256, 0, none⟩ (.int .i64 ((rd_T59 l0_1 x7_1).f0))).setCell ⟨gb256, 1, none⟩ (.int .i64 ((rd_T59 l0_1 x7_1).f1))).setCell ⟨gb256, 2, none⟩ (.int .i64 ((rd_T59 l0_1 x7_1).f2))).setCell ⟨gb256, 3, none⟩ (.string ((rd_T59 l0_1 x7_1).f3))).heap[gb252]? = some (.cells #[.int .i64 0, .slice none 0 0] 57 (0, 0))) := ⟨zq155⟩
       have n3_ : Aside0 (((((w40.setCell ⟨gb256, 0, none⟩ (.int .i64 ((rd_T59 l0_1 x7_1).f0))).setCell ⟨gb256, 1, none⟩ (.int .i64 ((rd_T59 l0_1 x7_1).f1))).setCell ⟨gb256, 2, none⟩ (.int .i64 ((rd_T59 l0_1 x7_1).f2))).setCell ⟨gb256, 3, none⟩ (.string ((rd_T59 l0_1 x7_1).f3))).heap[gb254]? = some (.cells #[.int .i64 a0_0, u255001] 57 (0, 0))) := ⟨zq156⟩
       have n4_ : Aside0 (((((w40.setCell ⟨gb256, 0, none⟩ (.int .i64 ((rd_T59 l0_1 x7_1).f0))).setCell ⟨gb256, 1, none⟩ (.int .i64 ((rd_T59 l0_1 x7_1).f1))).setCell ⟨gb256, 2, none⟩ (.int .i64 ((rd_T59 l0_1 x7_1).f2))).setCell ⟨gb256, 3, none⟩ (.string ((rd_T59 l0_1 x7_1).f3))).heap[gb256]? = some (.cells #[.int .i64 ((rd_T59 l0_1 x7_1).f0), .int .i64 ((rd_T59 l0_1 x7_1).f1), .int .i64 ((rd_T59 l0_1 x7_1).f2), .string ((rd_T59 l0_1 x7_1).f3)] 59 (0, 0))) := ⟨zq157⟩
       have n5_ : Aside0 (Below w.heap.size w ((((w40.setCell ⟨gb256, 0, none⟩ (.int .i64 ((rd_T59 l0_1 x7_1).f0))).setCell ⟨gb256, 1, none⟩ (.int .i64 ((rd_T59 l0_1 x7_1).f1))).setCell ⟨gb256, 2, none⟩ (.int .i64 ((rd_T59 l0_1 x7_1).f2))).setCell ⟨gb256, 3, none⟩ (.string ((rd_T59 l0_1 x7_1).f3)))) := ⟨zq158⟩
       (try clear HO_255001)
       (try clear BK251)
       (try clear BK252)
       (try clear BK254)
       (try clear BK256)
       (try clear HB)
       generalize ((((w40.setCell ⟨gb256, 0, none⟩ (.int .i64 ((rd_T59 l0_1 x7_1).f0))).setCell ⟨gb256, 1, none⟩ (.int .i64 ((rd_T59 l0_1 x7_1).f1))).setCell ⟨gb256, 2, none⟩ (.int .i64 ((rd_T59 l0_1 x7_1).f2))).setCell ⟨gb256, 3, none⟩ (.string ((rd_T59 l0_1 x7_1).f3))) = w45 at n0_ n1_ n2_ n3_ n4_ n5_ ⊢
       have HO_255001 := n0_
       have BK251 := n1_
       have BK252 := n2_
       have BK254 := n3_
       have BK256 := n4_
       have HB := n5_
       clear n0_ n1_ n2_ n3_ n4_ n5_
       have n0_ := Aside0.mk (Kd.R_drew HO_255001.out)
       have n1_ := Aside0.mk (blk_drew BK251.out)
       have n2_ := Aside0.mk (blk_drew BK252.out)
       have n3_ := Aside0.mk (blk_drew BK254.out)
       have n4_ := Aside0.mk (blk_drew BK256.out)
       have n5_ := Aside0.mk (below_drew1 HB.out)
       clear HO_255001
       clear BK251
       clear BK252
       clear BK254
       clear BK256
       clear HB
       have HO_255001 := n0_
       have BK251 := n1_
       have BK252 := n2_
       have BK254 := n3_
       have BK256 := n4_
       have HB := n5_
       clear n0_ n1_ n2_ n3_ n4_ n5_
       refine start_ (n := 9) (S := fun w' => w'.cell? ⟨gb256, 0, none⟩ = some (.int .i64 ((rd_T59 l0_1 x7_1).f0)) ∧ w'.cell? ⟨gb256, 1, none⟩ = some (.int .i64 ((rd_T59 l0_1 x7_1).f1)) ∧ w'.cell? ⟨gb256, 2, none⟩ = some (.int .i64 ((rd_T59 l0_1 x7_1).f2)) ∧ w'.cell? ⟨gb256, 3, none⟩ = some (.string ((rd_T59 l0_1 x7_1).f3))) (ds := []) #[ff,ff,ff,ff,ff,ff,ff,ff,ff] (by kernel_rfl) rfl rfl ⟨(blk_cell BK256.out 0).trans rfl, (blk_cell BK256.out 1).trans rfl, (blk_cell BK256.out 2).trans rfl, (blk_cell BK256.out 3).trans rfl⟩ (fun hHeld => ?_); refine with_tabW spec_Cutting.tab8 spec_Cutting.bits8 (fun HT_ HW_ => ?_)
       generalize w45.drew = w46 at HO_255001 BK251 BK252 BK254 BK256 HB hHeld ⊢
       refine pure_ (i := 0) (N := some 28) (v := ?_) (a' := ?_) #[tt,ff,ff,ff,ff,ff,ff,ff,ff] rfl rfl (any_of HT_.out (by kernel_rfl)) (fun _ _ _ h => h) (Or.inl ⟨by rfl, ?_⟩) ?_ ?_
       rotate_left
       exact zq238
       rotate_left
       exact zq239
       refine pure_ (i := 1) (N := some 29) (v := ?_) (a' := ?_) #[tt,tt,ff,ff,ff,ff,ff,ff,ff] rfl rfl (any_of HT_.out (by kernel_rfl)) (fun _ _ _ h => h) (Or.inl ⟨by rfl, ?_⟩) ?_ ?_
       rotate_left
       exact zq238
       rotate_left
       exact zq239
       refine pure_ (i := 4) (N := some 32) (v := ?_) (a' := ?_) #[tt,tt,ff,ff,tt,ff,ff,ff,ff] rfl rfl (any_of HT_.out (by kernel_rfl)) (fun _ _ _ h => h) (Or.inl ⟨by rfl, ?_⟩) ?_ ?_
       rotate_left
       exact zq238
       rotate_left
       exact zq239
       refine pure_ (i := 5) (N := some 33) (v := ?_) (a' := ?_) #[tt,tt,ff,ff,tt,tt,ff,ff,ff] rfl rfl (any_of HT_.out (by kernel_rfl)) (fun _ _ _ h => h) (Or.inl ⟨by rfl, ?_⟩) ?_ ?_
       rotate_left
       exact zq238
       rotate_left
       exact zq239
       refine take_ (i := 2) (N := some 30) (v := ?_) (a' := ?_) #[tt,tt,tt,ff,tt,tt,ff,ff,ff] rfl rfl (take_ofW HT_.out HW_.out (by kernel_rfl)) (fun _ _ _ h => h) (Or.inl ⟨by rfl, ?_⟩) hHeld ?_ ?_
       rotate_left
       exact zq240
       rotate_left
       exact zq239
       refine take_ (i := 6) (N := some 34) (v := ?_) (a' := ?_) #[tt,tt,tt,ff,tt,tt,tt,ff,ff] rfl rfl (take_ofW HT_.out HW_.out (by kernel_rfl)) (fun _ _ _ h => h) (Or.inl ⟨by rfl, ?_⟩) hHeld ?_ ?_
       rotate_left
       exact zq240
       rotate_left
       exact zq239
       refine one_ (i := 3) (N := some 31) #[tt,tt,tt,tt,tt,tt,tt,ff,ff] rfl rfl (one_of HT_.out (by kernel_rfl)) (by decide) (fun K hK => ?_)
       refine goes_ Try.func97 (by kernel_rfl) rfl #[.slice A1 l1.length c1, .int .i64 ((rd_T59 l0_1 x7_1).f1)] (by rfl) rfl rfl zq12 ?_
       with_reducible refine (spec_l1Ints.calls k1 _ _ l1 ((rd_T59 l0_1 x7_1).f1) t257 _ ?side1 ?side2 A17.out).mono ?_
       (case side1 => exact zq31)
       (case side2 => exact zq32)
       rintro e w' ⟨rfl, ⟨nd, rfl⟩⟩
       refine ⟨_, rfl, ?_⟩
       refine hK.out _ _ ⟨(blk_cell BK256.out 0).trans rfl, (blk_cell BK256.out 1).trans rfl, (blk_cell BK256.out 2).trans rfl, (blk_cell BK256.out 3).trans rfl⟩ (fun hHeld => ?_)
       clear hK K
       refine norm_ (a' := ?_) ?_ ?_
       rotate_left
       ·
        show Act.put _ (some 31) _ = _
        simp only [Act.put, List.setIfInBounds_toArray, List.set_cons_zero, List.set_cons_succ, i64_w, i32_w]
        rfl
       refine one_ (i := 7) (N := some 35) #[tt,tt,tt,tt,tt,tt,tt,tt,ff] rfl rfl (one_of HT_.out (by kernel_rfl)) (by decide) (fun K hK => ?_)
       refine goes_ Try.func97 (by kernel_rfl) rfl #[.slice A1 l1.length c1, .int .i64 ((rd_T59 l0_1 x7_1).f2)] (by rfl) rfl rfl zq12 ?_
       with_reducible refine (spec_l1Ints.calls k1 _ _ l1 ((rd_T59 l0_1 x7_1).f2) t258 _ ?side1 ?side2 A18.out).mono ?_
       (case side1 => exact zq236)
       (case side2 => exact zq32)
       rintro e w' ⟨rfl, ⟨nd, rfl⟩⟩
       refine ⟨_, rfl, ?_⟩
       refine hK.out _ _ ⟨(blk_cell BK256.out 0).trans rfl, (blk_cell BK256.out 1).trans rfl, (blk_cell BK256.out 2).trans rfl, (blk_cell BK256.out 3).trans rfl⟩ (fun hHeld => ?_)
       clear hK K
       refine norm_ (a' := ?_) ?_ ?_
       rotate_left
       ·
        show Act.put _ (some 35) _ = _
        simp only [Act.put, List.setIfInBounds_toArray, List.set_cons_zero, List.set_cons_succ, i64_w, i32_w]
        rfl
       refine pure_ (i := 8) (N := some 36) (v := ?_) (a' := ?_) #[tt,tt,tt,tt,tt,tt,tt,tt,tt] rfl rfl (any_of HT_.out (by kernel_rfl)) (fun _ _ _ h => h) (Or.inl ⟨by rfl, ?_⟩) ?_ ?_
       rotate_left
       exact zq238
       rotate_left
       exact zq239
       refine done_ (done_of HT_.out (by kernel_rfl)) ?_
       try go_wp2
       go_roundg k1
       case measure => have := HK1.out; omega
       case rel => exact ⟨(wrap64 (x7_1 + 1)), (x255001_1), (u255001), zq1, H', ⟨zq4⟩, ⟨by (with_reducible repeat (first | apply Kd.R_alloc | apply Kd.R_drewN | apply Kd.R_drew)); exact Kd.R_mono HO_255001.out (fun _ hk => trivial)⟩, ⟨zq146⟩, ⟨zq148⟩, ⟨zq152⟩, ⟨zq158⟩⟩
     ·
      rw [if_neg c16] at H
      exact absurd H (by simp)
    ·
     rw [if_neg c15] at H
     have c15b0 : decide (x7_1 < (l0_1.length : Int)) = false := decide_eq_false c15
     clear c15
     simp only [Option.some.injEq, Prod.mk.injEq] at H
     obtain ⟨rfl, rfl, rfl⟩ := H
     have hnb47 := NB251_252.out
     have hnc47 := NB252_251.out
     have hnb48 := NB251_254.out
     have hnc48 := NB254_251.out
     have hcz49_0 : wr.cell? ⟨gb251, 0, none⟩ = some (.int .i64 a0_0) := (blk_cell BK251.out 0).trans rfl
     have hcz49_1 : wr.cell? ⟨gb251, 1, none⟩ = some (.slice A0_1 l0_1.length c0_1) := (blk_cell BK251.out 1).trans rfl
     have hfz49_0 := blk_frozen BK251.out 0
     have hfz49_1 := blk_frozen BK251.out 1
     try go_wp2
     have n0_ := Aside0.mk (Kd.R_drew HO_255001.out)
     have n1_ := Aside0.mk (blk_drew BK251.out)
     have n2_ := Aside0.mk (blk_drew BK252.out)
     have n3_ := Aside0.mk (blk_drew BK254.out)
     have n4_ := Aside0.mk (below_drew1 HB.out)
     clear HO_255001
     clear BK251
     clear BK252
     clear BK254
     clear HB
     have HO_255001 := n0_
     have BK251 := n1_
     have BK252 := n2_
     have BK254 := n3_
     have HB := n4_
     clear n0_ n1_ n2_ n3_ n4_
     obtain ⟨Ao51, co51, eo51⟩ := Kd.R_slice HO_255001.out
     (first | subst eo51 | (injection eo51 with f1_ f2_ f3_; have f4_ := f1_.symm; have f5_ := f3_.symm; clear f1_ f2_ f3_; subst f4_; subst f5_))
     refine start_ (n := 10) (S := fun w' => w'.cell? ⟨gb254, 0, none⟩ = some (.int .i64 a0_0) ∧ w'.cell? ⟨gb254, 1, none⟩ = some (.slice Ao51 x255001_1.length co51) ∧ w'.cell? ⟨gb251, 0, none⟩ = some (.int .i64 a0_0) ∧ w'.cell? ⟨gb251, 1, none⟩ = some (.slice A0_1 l0_1.length c0_1)) (ds := []) #[ff,ff,ff,ff,ff,ff,ff,ff,ff,ff] (by kernel_rfl) rfl rfl ⟨(blk_cell BK254.out 0).trans rfl, (blk_cell BK254.out 1).trans rfl, (blk_cell BK251.out 0).trans rfl, (blk_cell BK251.out 1).trans rfl⟩ (fun hHeld => ?_); refine with_tabW spec_Cutting.tab10 spec_Cutting.bits10 (fun HT_ HW_ => ?_)
     generalize wr.drew = w50 at HO_255001 BK251 BK252 BK254 HB hHeld ⊢
     refine pure_ (i := 1) (N := some 44) (v := ?_) (a' := ?_) #[ff,tt,ff,ff,ff,ff,ff,ff,ff,ff] rfl rfl (any_of HT_.out (by kernel_rfl)) (fun _ _ _ h => h) (Or.inl ⟨by rfl, ?_⟩) ?_ ?_
     rotate_left
     exact zq238
     rotate_left
     exact zq239
     refine pure_ (i := 4) (N := some 47) (v := ?_) (a' := ?_) #[ff,tt,ff,ff,tt,ff,ff,ff,ff,ff] rfl rfl (any_of HT_.out (by kernel_rfl)) (fun _ _ _ h => h) (Or.inl ⟨by rfl, ?_⟩) ?_ ?_
     rotate_left
     exact zq238
     rotate_left
     exact zq239
     refine take_ (i := 0) (N := some 43) (v := ?_) (a' := ?_) #[tt,tt,ff,ff,tt,ff,ff,ff,ff,ff] rfl rfl (take_ofW HT_.out HW_.out (by kernel_rfl)) (fun _ _ _ h => h) (Or.inl ⟨by rfl, ?_⟩) hHeld ?_ ?_
     rotate_left
     exact zq240
     rotate_left
     exact zq239
     refine take_ (i := 2) (N := some 45) (v := ?_) (a' := ?_) #[tt,tt,tt,ff,tt,ff,ff,ff,ff,ff] rfl rfl (take_ofW HT_.out HW_.out (by kernel_rfl)) (fun _ _ _ h => h) (Or.inl ⟨by rfl, ?_⟩) hHeld ?_ ?_
     rotate_left
     exact zq240
     rotate_left
     exact zq239
     refine pure_ (i := 3) (N := some 46) (v := ?_) (a' := ?_) #[tt,tt,tt,tt,tt,ff,ff,ff,ff,ff] rfl rfl (any_of HT_.out (by kernel_rfl)) (fun _ _ _ h => h) (Or.inl ⟨by rfl, ?_⟩) ?_ ?_
     rotate_left
     exact zq238
     rotate_left
     exact zq239
     refine take_ (i := 5) (N := some 48) (v := ?_) (a' := ?_) #[tt,tt,tt,tt,tt,tt,ff,ff,ff,ff] rfl rfl (take_ofW HT_.out HW_.out (by kernel_rfl)) (fun _ _ _ h => h) (Or.inl ⟨by rfl, ?_⟩) hHeld ?_ ?_
     rotate_left
     exact zq240
     rotate_left
     exact zq239
     refine pure_ (i := 6) (N := some 49) (v := ?_) (a' := ?_) #[tt,tt,tt,tt,tt,tt,tt,ff,ff,ff] rfl rfl (any_of HT_.out (by kernel_rfl)) (fun _ _ _ h => h) (Or.inl ⟨by rfl, ?_⟩) ?_ ?_
     rotate_left
     exact zq238
     rotate_left
     exact zq239
     refine pure_ (i := 7) (N := some 50) (v := ?_) (a' := ?_) #[tt,tt,tt,tt,tt,tt,tt,tt,ff,ff] rfl rfl (any_of HT_.out (by kernel_rfl)) (fun _ _ _ h => h) (Or.inl ⟨by rfl, ?_⟩) ?_ ?_
     rotate_left
     exact zq238
     rotate_left
     exact zq239
     refine one_ (i := 8) (N := none) #[tt,tt,tt,tt,tt,tt,tt,tt,tt,ff] rfl rfl (one_of HT_.out (by kernel_rfl)) (by decide) (fun K hK => ?_)
     have hs52 : w50.cell? ⟨gb252, 0, none⟩ = some (.int .i64 0) := (blk_cell BK252.out 0).trans rfl
     have hfs52 := blk_frozen BK252.out 0
     have hns52_0 := NB251_252.out
     have hns52_2 := NB254_252.out
     have hms52_0 := NB252_251.out
     have hms52_2 := NB252_254.out
     have hs53 : w50.cell? ⟨gb252, 1, none⟩ = some (.slice none 0 0) := (blk_cell BK252.out 1).trans rfl
     have hfs53 := blk_frozen BK252.out 1
     have hns53_0 := NB251_252.out
     have hns53_2 := NB254_252.out
     have hms53_0 := NB252_251.out
     have hms53_2 := NB252_254.out
     refine skip_ (w1 := ?_) (by rfl) rfl ?_ ?_
     rotate_left
     ·
      go_simp
      rfl
     refine hK.out _ _ ⟨((cell_far (p := ⟨gb252, _, none⟩) NB254_252.out _).trans (((cell_far (p := ⟨gb252, _, none⟩) NB254_252.out _).trans (hHeld.1)))), ((cell_far (p := ⟨gb252, _, none⟩) NB254_252.out _).trans (((cell_far (p := ⟨gb252, _, none⟩) NB254_252.out _).trans (hHeld.2.1)))), ((cell_far (p := ⟨gb252, _, none⟩) NB251_252.out _).trans (((cell_far (p := ⟨gb252, _, none⟩) NB251_252.out _).trans (hHeld.2.2.1)))), ((cell_far (p := ⟨gb252, _, none⟩) NB251_252.out _).trans (((cell_far (p := ⟨gb252, _, none⟩) NB251_252.out _).trans (hHeld.2.2.2))))⟩ (fun hHeld => ?_)
     clear hK K
     refine pure_ (i := 9) (N := some 5) (v := ?_) (a' := ?_) #[tt,tt,tt,tt,tt,tt,tt,tt,tt,tt] rfl rfl (any_of HT_.out (by kernel_rfl)) (fun _ _ _ h => h) (Or.inl ⟨by rfl, ?_⟩) ?_ ?_
     rotate_left
     exact zq238
     rotate_left
     exact zq239
     refine done_ (done_of HT_.out (by kernel_rfl)) ?_
     try go_wp2
     refine bodyPost_ret (results_ct rfl _ _ gb252 57 #[.int .i64 a0_0, .slice Ao51 x255001_1.length co51] (0, 0) _ rfl (by (with_reducible repeat (first | refine blk_drewN ?_ _ | refine blk_drew ?_ | refine blk_alloc ?_ _)); refine blk_put (cs := #[.int .i64 a0_0, .slice none 0 0]) ?_ 1 _ rfl; (with_reducible repeat (first | refine blk_drewN ?_ _ | refine blk_drew ?_ | refine blk_alloc ?_ _)); refine blk_put (cs := #[.int .i64 0, .slice none 0 0]) ?_ 0 _ rfl; (with_reducible repeat (first | refine blk_drewN ?_ _ | refine blk_drew ?_ | refine blk_alloc ?_ _)); exact BK252.out) Try.underlying57 rfl (by kernel_rfl)) rfl ?_
     exact ⟨_, zq8, by (with_reducible repeat (first | apply Kd.R_alloc | apply Kd.R_drewN | apply Kd.R_drew)); exact Kd.R_mono (Kd.R_far (p := ⟨gb252, 1, none⟩) (Kd.R_far (p := ⟨gb252, 0, none⟩) (Kd.R_types HO_255001.out BK252.out (by decide)) (fun _ hk => hk.2) (.int .i64 a0_0)) (fun _ hk => hk.2) (.slice Ao51 x255001_1.length co51)) (fun _ hk => trivial), zq150⟩
 ·
  replace c4 := Bool.eq_false_iff.mpr c4
  subst c4
  have H1 : (some (0, ([] : List (S59)), (-1))) = some (r1, r2, r3) := by rw [if_neg (show ¬ (false = true) by decide)] at H; exact H
  clear H
  have H := H1
  clear H1
  simp only [Option.some.injEq, Prod.mk.injEq] at H
  obtain ⟨rfl, rfl, rfl⟩ := H
  go_enter Try.func55, Try.ntmps55
  go_wp2_with (first | ((with_reducible refine gate_dst (N := 2) rfl ?_); refine box_event ?hg (N := 2) ?hd (cs := #[.int .i64 a0_0, .slice A0_1 l0_1.length c0_1]) (t := 57) ?hr ?_; (case hd => rfl); (case hg => rfl); (case hr => exact zq5); intro gb251 hg w54 hbox hb; have n0_ := Aside0.mk (below_step zq6 hb); have n1_ := Aside0.mk (hbox); have n2_ := Aside0.mk ((zq166 : w.heap.size ≤ gb251)); have n3_ := Aside0.mk ((zq166 : w.heap.size ≤ gb251)); clear HB; have HB := n0_; have BK251 := n1_; have GW251 := n2_; have GE251 := n3_; clear n0_ n1_ n2_ n3_; clear hb hbox hg) | ((with_reducible refine gate_dst (N := 4) rfl ?_); refine box_event ?hg (N := 4) ?hd (cs := #[.int .i64 0, .slice none 0 0]) (t := 57) ?hr ?_; (case hd => rfl); (case hg => rfl); (case hr => exact zq5); intro gb252 hg w55 hbox hb; have n0_ := Aside0.mk (blk_below (g := gb251) (o := .cells #[.int .i64 a0_0, .slice A0_1 l0_1.length c0_1] 57 (0, 0)) zq146 hb); have n1_ := Aside0.mk (below_step zq147 hb); have n2_ := Aside0.mk (hbox); have n3_ := Aside0.mk ((zq226 : w.heap.size ≤ gb252)); have n4_ := Aside0.mk ((zq226 : w.heap.size ≤ gb252)); have n5_ := Aside0.mk ((zq227 : gb251 ≠ gb252)); have n6_ := Aside0.mk ((zq228 : gb252 ≠ gb251)); clear BK251; clear HB; have BK251 := n0_; have HB := n1_; have BK252 := n2_; have GW252 := n3_; have GE252 := n4_; have NB251_252 := n5_; have NB252_251 := n6_; clear n0_ n1_ n2_ n3_ n4_ n5_ n6_; clear hb hbox hg; have hnb56 := NB251_252.out; have hnc56 := NB252_251.out; have hcz57_0 : w55.cell? ⟨gb251, 0, none⟩ = some (.int .i64 a0_0) := (blk_cell BK251.out 0).trans rfl; have hcz57_1 : w55.cell? ⟨gb251, 1, none⟩ = some (.slice A0_1 l0_1.length c0_1) := (blk_cell BK251.out 1).trans rfl; have hfz57_0 := blk_frozen BK251.out 0; have hfz57_1 := blk_frozen BK251.out 1) | ((with_reducible refine gate_callee (f := 83) rfl ?_); refine goesL_ (some 10) rfl rfl Try.func83 (by kernel_rfl) rfl #[.agg #[.int .i64 a0_0, .slice A0_1 l0_1.length c0_1]] rfl zq12 ?_; (with_reducible refine (spec_NetOk.calls k a0_0 _ _ l0_1 false _ ?side1 ?side2 A3.out).mono ?_); (case side1 => exact zq17); (case side2 => exact zq18); rintro e w58 ⟨rfl, hb⟩; refine ⟨_, rfl, ?_⟩; have n0_ := Aside0.mk (blk_below (g := gb251) (o := .cells #[.int .i64 a0_0, .slice A0_1 l0_1.length c0_1] 57 (0, 0)) zq146 hb); have n1_ := Aside0.mk (blk_below (g := gb252) (o := .cells #[.int .i64 0, .slice none 0 0] 57 (0, 0)) zq148 hb); have n2_ := Aside0.mk (below_step zq149 hb); clear BK251; clear BK252; clear HB; have BK251 := n0_; have BK252 := n1_; have HB := n2_; clear n0_ n1_ n2_; (try clear hb); (try clear hb2); (try clear hk); (try clear hi); have hcz59_0 : w58.cell? ⟨gb252, 0, none⟩ = some (.int .i64 0) := (blk_cell BK252.out 0).trans rfl; have hcz59_1 : w58.cell? ⟨gb252, 1, none⟩ = some (.slice none 0 0) := (blk_cell BK252.out 1).trans rfl; have hfz59_0 := blk_frozen BK252.out 0; have hfz59_1 := blk_frozen BK252.out 1))
  refine bodyPost_ret (results_ct rfl _ _ gb252 57 #[.int .i64 0, .slice none 0 0] (0, 0) _ rfl (by (with_reducible repeat (first | refine blk_drewN ?_ _ | refine blk_drew ?_ | refine blk_alloc ?_ _)); refine blk_put (cs := #[.int .i64 0, .slice none 0 0]) ?_ 1 _ rfl; (with_reducible repeat (first | refine blk_drewN ?_ _ | refine blk_drew ?_ | refine blk_alloc ?_ _)); refine blk_put (cs := #[.int .i64 0, .slice none 0 0]) ?_ 0 _ rfl; (with_reducible repeat (first | refine blk_drewN ?_ _ | refine blk_drew ?_ | refine blk_alloc ?_ _)); exact BK252.out) Try.underlying57 rfl (by kernel_rfl)) rfl ?_
  exact ⟨_, zq8, zq21, zq149⟩

/-! ### impl_in: function 103 -/
def impl_in.f (a0 : Int) (a1 : Int) (a2 : Int) : Option (Bool) := if a0 ≥ a1 then (some (decide (a0 ≤ a2))) else (some false)
set_option maxHeartbeats 8000000 in
set_option maxRecDepth 100000 in
theorem impl_in.calls (a0 : Int) (a1 : Int) (a2 : Int) (r : Bool) (w : World) (h : impl_in.f a0 a1 a2 = some r) :
  Calls Try.prog 103 #[.int .i64 a0, .int .i64 a1, .int .i64 a2] w fun e w' => e = .returned (.bool r) ∧ Drawn0 w w' := by
 have H : (if a0 ≥ a1 then (some (decide (a0 ≤ a2))) else (some false)) = some r := h
 clear h
 by_cases c4 : a0 ≥ a1
 ·
  rw [if_pos c4] at H
  have c4b0 : decide (a1 ≤ a0) = true := decide_eq_true c4
  clear c4
  obtain rfl := Option.some.inj H
  go_enter Try.func103, Try.ntmps103
  go_wp2
  go_ret
  exact ⟨zq1, zq2⟩
 ·
  rw [if_neg c4] at H
  have c4b0 : decide (a1 ≤ a0) = false := decide_eq_false c4
  clear c4
  obtain rfl := Option.some.inj H
  go_enter Try.func103, Try.ntmps103
  go_wp2
  go_ret
  exact ⟨zq1, zq2⟩

/-! ### impl_isNodeId: function 96 -/
def impl_isNodeId.f (a0 : Int) : Option (Bool) := (impl_in.f a0 1 50).bind fun t262 => (some t262)
set_option maxHeartbeats 8000000 in
set_option maxRecDepth 100000 in
theorem impl_isNodeId.calls (a0 : Int) (r : Bool) (w : World) (h : impl_isNodeId.f a0 = some r) :
  Calls Try.prog 96 #[.int .i64 a0] w fun e w' => e = .returned (.bool r) ∧ Drawn0 w w' := by
 have H : ((impl_in.f a0 1 50).bind fun t262 => (some t262)) = some r := h
 clear h
 replace H := Option.bind_eq_some_iff.mp H
 obtain ⟨t262, A20, H⟩ := H
 replace H : (some t262) = some r := H
 have A2 := Aside0.mk A20
 clear A20
 obtain rfl := Option.some.inj H
 go_enter Try.func96, Try.ntmps96
 go_wp2_with (first | ((with_reducible refine gate_callee (f := 103) rfl ?_); refine goesL_ (some 4) rfl rfl Try.func103 (by kernel_rfl) rfl #[.int .i64 a0, .int .i64 1, .int .i64 50] rfl zq12 ?_; (with_reducible refine (impl_in.calls a0 1 50 t262 _ A2.out).mono ?_); rintro e w' ⟨rfl, ⟨nd, rfl⟩⟩; refine ⟨_, rfl, ?_⟩))
 go_ret
 exact ⟨zq1, zq2⟩

end Go.Proofs.Ytjcejdajbapliaa.QFnCut
