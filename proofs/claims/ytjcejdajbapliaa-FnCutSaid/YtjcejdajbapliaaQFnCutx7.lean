/- Written by wip/myprint.py of this repo (the kit's print, with additions of this session). -/
import Derived.Test.YtjcejdajbapliaaQFnCutx0
import Derived.Test.YtjcejdajbapliaaQFnCutx1
import Derived.Test.YtjcejdajbapliaaQFnCutx6
set_option maxRecDepth 100000
namespace Go.Proofs.Ytjcejdajbapliaa.QFnCut
open Go.RowKit Go.Proofs.YtjcejdajbapliaaW.PrintWords Go.Proofs.YtjcejdajbapliaaW.PrintLast Go.Proofs.YtjcejdajbapliaaW.PrintMore
attribute [local go_sem] max2_int min2_int max_two min_two max_three min_three max_four min_four   -- for this text's walks alone
set_option linter.unusedVariables false
set_option linter.unusedSimpArgs false

/-! ### spec_DrawCutting: function 54 -/
def spec_DrawCutting.l0 : Nat → List Int → Int → List Int → Int → Int → List (S59) → Option (Int × (List (S59)) × List Int)
 | 0, _, _, _, _, _, _ => none
 | k + 1, x6, x7, x234000, x234001, x240000, x240001 => if x7 > 0 then ((spec_l1Rd_below.f x234000 x234001 3).bind fun bt245 => (if x6.length < 17592186044416 then (spec_DrawCutting.l0 k (x6 ++ [wrap64 (1 + bt245.1)]) (wrap64 (x7 - 1)) x234000 bt245.2 x240000 x240001) else (none))) else (some (x240000, x240001, x6))
def spec_DrawCutting.f (k : Nat) (l0 : List Int) : Option (Int × (List (S59)) × List Int) := (spec_l1Open.f l0).bind fun bt231 => ((spec_l1Rd_net.f k bt231.1 bt231.2).bind fun bt234 => ((spec_l1Rd_below.f bt231.1 bt234.2.2 3).bind fun bt243 => (spec_DrawCutting.l0 k (([] : List Int)) bt243.1 bt231.1 bt243.2 bt234.1 bt234.2.1)))
theorem spec_DrawCutting.mono_l : ∀ k, (∀ y0 y1 y2 y3 y4 y5, LeO (spec_DrawCutting.l0 k y0 y1 y2 y3 y4 y5) (spec_DrawCutting.l0 (k + 1) y0 y1 y2 y3 y4 y5))
 | 0 => fun _ _ _ _ _ _ r h => by simp [spec_DrawCutting.l0] at h
 | k + 1 => by
  have ih0 := spec_DrawCutting.mono_l k
  ·
   intro y0 y1 y2 y3 y4 y5
   unfold spec_DrawCutting.l0
   repeat' first
   | (with_reducible exact ih0 _ _ _ _ _ _)
   | (with_reducible exact spec_l1Rd_net.mono _ _ _)
   | (with_reducible exact LeO.refl _)
   | (with_reducible exact LeO.none _)
   | (with_reducible refine LeO.ite ?_ ?_)
   | (with_reducible refine LeO.bind ?_ (fun _ => ?_))
   | exact ih0 _ _ _ _ _ _
   | exact spec_l1Rd_net.mono _ _ _
   | exact LeO.none _
   | refine LeO.ite ?_ ?_
   | refine LeO.bind ?_ (fun _ => ?_)
theorem spec_DrawCutting.mono : ∀ a0 k, LeO (spec_DrawCutting.f k a0) (spec_DrawCutting.f (k + 1) a0) := by
 intro a0 k
 have ih0 := spec_DrawCutting.mono_l k
 unfold spec_DrawCutting.f
 repeat' first
   | (with_reducible exact ih0 _ _ _ _ _ _)
   | (with_reducible exact spec_l1Rd_net.mono _ _ _)
   | (with_reducible exact LeO.refl _)
   | (with_reducible exact LeO.none _)
   | (with_reducible refine LeO.ite ?_ ?_)
   | (with_reducible refine LeO.bind ?_ (fun _ => ?_))
   | exact ih0 _ _ _ _ _ _
   | exact spec_l1Rd_net.mono _ _ _
   | exact LeO.none _
   | refine LeO.ite ?_ ?_
   | refine LeO.bind ?_ (fun _ => ?_)
set_option maxHeartbeats 8000000 in
set_option maxRecDepth 100000 in
theorem spec_DrawCutting.calls (k : Nat) (A0 : Option Addr) (c0 : Nat) (l0 : List Int) (r1 : Int) (r2 : List (S59)) (r3 : List Int) (w : World) (hr0 : Kd.C (Kd.int .u8) w A0 l0.length l0) (hc0 : l0.length ≤ c0) (h : spec_DrawCutting.f k l0 = some (r1, r2, r3)) :
  Calls Try.prog 54 #[.slice A0 l0.length c0] w fun e w' => ∃ v1_ v2_ : Value, e = .returned (.tuple #[.agg #[.int .i64 r1, v1_], v2_]) ∧ Kd.R k59 59 w' w.heap.size (fun _ => True) v1_ r2 ∧ Kd.R (Kd.int .i64) 2 w' w.heap.size (fun _ => True) v2_ r3 ∧ Below w.heap.size w w' := by
 have hu57 := Try.underlying57
 have HR0 := Aside0.mk hr0
 have HC0 := Aside0.mk hc0
 clear hr0 hc0
 have HB := Aside0.mk (Below.refl w.heap.size w)
 have H : ((spec_l1Open.f l0).bind fun bt231 => ((spec_l1Rd_net.f k bt231.1 bt231.2).bind fun bt234 => ((spec_l1Rd_below.f bt231.1 bt234.2.2 3).bind fun bt243 => (spec_DrawCutting.l0 k (([] : List Int)) bt243.1 bt231.1 bt243.2 bt234.1 bt234.2.1)))) = some (r1, r2, r3) := h
 clear h
 replace H := Option.bind_eq_some_iff.mp H
 obtain ⟨⟨t231, t232⟩, A20, H⟩ := H
 replace H : ((spec_l1Rd_net.f k t231 t232).bind fun bt234 => ((spec_l1Rd_below.f t231 bt234.2.2 3).bind fun bt243 => (spec_DrawCutting.l0 k (([] : List Int)) bt243.1 t231 bt243.2 bt234.1 bt234.2.1))) = some (r1, r2, r3) := H
 have A2 := Aside0.mk A20
 clear A20
 replace H := Option.bind_eq_some_iff.mp H
 obtain ⟨⟨t234, t235, t238⟩, A30, H⟩ := H
 replace H : ((spec_l1Rd_below.f t231 t238 3).bind fun bt243 => (spec_DrawCutting.l0 k (([] : List Int)) bt243.1 t231 bt243.2 t234 t235)) = some (r1, r2, r3) := H
 have A3 := Aside0.mk A30
 clear A30
 obtain ⟨y240, hy240⟩ : ∃ y_ : List Int, y_ = (([] : List Int)) := ⟨_, rfl⟩
 replace H : ((spec_l1Rd_below.f t231 t238 3).bind fun bt243 => (spec_DrawCutting.l0 k y240 bt243.1 t231 bt243.2 t234 t235)) = some (r1, r2, r3) := by first | (rw [hy240]; with_reducible exact H) | (have H2_ := (Option.bind_some _ _).symm.trans H; rw [hy240]; with_reducible exact H2_) | (have H2_ := (Option.bind_some _ _).symm.trans H; with_reducible exact H2_) | with_reducible exact H | (rw [hy240]; exact H) | exact H
 have Ny240 := Aside0.mk hy240
 clear hy240
 replace H := Option.bind_eq_some_iff.mp H
 obtain ⟨⟨t243, t244⟩, A40, H⟩ := H
 replace H : (spec_DrawCutting.l0 k y240 t243 t231 t244 t234 t235) = some (r1, r2, r3) := H
 have A4 := Aside0.mk A40
 clear A40
 have H' := Aside0.mk H
 clear H
 go_enter Try.func54, Try.ntmps54
 go_wp2_with (first | ((with_reducible refine gate_dst (N := 2) rfl ?_); refine box_event ?hg (N := 2) ?hd (cs := #[.int .i64 0, .slice none 0 0]) (t := 57) ?hr ?_; (case hd => rfl); (case hg => rfl); (case hr => exact zq5); intro gb230 hg w5 hbox hb; have n0_ := Aside0.mk (below_step zq6 hb); have n1_ := Aside0.mk (hbox); have n2_ := Aside0.mk ((zq166 : w.heap.size ≤ gb230)); have n3_ := Aside0.mk ((zq166 : w.heap.size ≤ gb230)); clear HB; have HB := n0_; have BK230 := n1_; have GW230 := n2_; have GE230 := n3_; clear n0_ n1_ n2_ n3_; clear hb hbox hg) | ((with_reducible refine gate_callee (f := 61) rfl ?_); refine goesL_ (some 9) rfl rfl Try.func61 (by kernel_rfl) rfl #[.slice A0 l0.length c0] rfl zq12 ?_; (with_reducible refine (spec_l1Open.calls _ _ l0 t231 t232 w _ ?side1 ?side2 ?side3 A2.out).mono ?_); (case side1 => repeat (first | (with_reducible first | exact HB.out | apply below_alloc | apply pw_below_drewN | apply below_drew1 | refine below_set ?_ GE230.out) | exact HB.out)); (case side2 => exact HR0.out); (case side3 => exact zq14); rintro e w6 ⟨g233, rfl, hi, hb, hb2⟩; refine ⟨_, rfl, ?_⟩; have n0_ := Aside0.mk (blk_below (g := gb230) (o := .cells #[.int .i64 0, .slice none 0 0] 57 (0, 0)) zq136 hb2); have n1_ := Aside0.mk (hb); have n2_ := Aside0.mk (hi); have n3_ := Aside0.mk (IsS110.ne_blk hi (blk_below (g := gb230) (o := .cells #[.int .i64 0, .slice none 0 0] 57 (0, 0)) zq136 hb2) (by decide)); have n4_ := Aside0.mk (Ne.symm (IsS110.ne_blk hi (blk_below (g := gb230) (o := .cells #[.int .i64 0, .slice none 0 0] 57 (0, 0)) zq136 hb2) (by decide))); clear BK230; clear HB; have BK230 := n0_; have HB := n1_; have HI233 := n2_; have NB233_230 := n3_; have NB230_233 := n4_; clear n0_ n1_ n2_ n3_ n4_; (try clear hb); (try clear hb2); (try clear hk); (try clear hi)) | ((with_reducible refine gate_callee (f := 94) rfl ?_); refine goesL_ (some 11) rfl rfl Try.func94 (by kernel_rfl) rfl #[.pointer (some ⟨g233, 0, none⟩)] rfl zq12 ?_; (with_reducible refine (spec_l1Rd_net.calls k g233 t231 t232 t234 t235 t238 w _ ?side1 ?side2 A3.out).mono ?_); (case side1 => exact zq137); (case side2 => exact zq138); rintro e w7 ⟨v236, rfl, ho0, hi, hb, hk⟩; refine ⟨_, rfl, ?_⟩; have n0_ := Aside0.mk (KeepBut.blk hk (g' := gb230) (o := .cells #[.int .i64 0, .slice none 0 0] 57 (0, 0)) zq136 NB230_233.out (by simp)); have n1_ := Aside0.mk (Kd.R_lower ho0 (below_size zq138)); have n2_ := Aside0.mk (hb); have n3_ := Aside0.mk (hi); clear BK230; clear HB; clear HI233; have BK230 := n0_; have HO237 := n1_; have HB := n2_; have HI233 := n3_; clear n0_ n1_ n2_ n3_; (try clear hb); (try clear hb2); (try clear hk); (try clear hi); (try clear ho0)) | ((with_reducible refine gate_dst (N := 5) rfl ?_); refine box_event ?hg (N := 5) ?hd (cs := #[.int .i64 0, .slice none 0 0]) (t := 57) ?hr ?_; (case hd => rfl); (case hg => rfl); (case hr => exact zq5); intro gb239 hg w8 hbox hb; have n0_ := Aside0.mk (Kd.R_below zq139 hb); have n1_ := Aside0.mk (blk_below (g := gb230) (o := .cells #[.int .i64 0, .slice none 0 0] 57 (0, 0)) zq136 hb); have n2_ := Aside0.mk (IsS110.below zq137 hb); have n3_ := Aside0.mk (below_step zq138 hb); have n4_ := Aside0.mk (hbox); have n5_ := Aside0.mk ((by rw [hg]; exact (below_size zq138) : w.heap.size ≤ gb239)); have n6_ := Aside0.mk ((by rw [hg]; exact (below_size zq138) : w.heap.size ≤ gb239)); have n7_ := Aside0.mk ((by rw [hg]; exact Nat.ne_of_lt (blk_lt (g := gb230) (o := .cells #[.int .i64 0, .slice none 0 0] 57 (0, 0)) zq136) : gb230 ≠ gb239)); have n8_ := Aside0.mk ((by rw [hg]; exact Nat.ne_of_gt (blk_lt (g := gb230) (o := .cells #[.int .i64 0, .slice none 0 0] 57 (0, 0)) zq136) : gb239 ≠ gb230)); have n9_ := Aside0.mk ((by rw [hg]; exact Nat.ne_of_lt (IsS110.lt (show IsS110 w _ g233 t231 t238 from by repeat (first | (with_reducible first | exact HI233.out | apply IsS110.alloc | apply IsS110.drewN | apply IsS110.drew | apply IsS110.set_1 | refine IsS110.far ?_ NB233_230.out _) | exact HI233.out))) : g233 ≠ gb239)); have n10_ := Aside0.mk ((by rw [hg]; exact Nat.ne_of_gt (IsS110.lt (show IsS110 w _ g233 t231 t238 from by repeat (first | (with_reducible first | exact HI233.out | apply IsS110.alloc | apply IsS110.drewN | apply IsS110.drew | apply IsS110.set_1 | refine IsS110.far ?_ NB233_230.out _) | exact HI233.out))) : gb239 ≠ g233)); clear HO237; clear BK230; clear HI233; clear HB; have HO237 := n0_; have BK230 := n1_; have HI233 := n2_; have HB := n3_; have BK239 := n4_; have GW239 := n5_; have GE239 := n6_; have NB230_239 := n7_; have NB239_230 := n8_; have NB233_239 := n9_; have NB239_233 := n10_; clear n0_ n1_ n2_ n3_ n4_ n5_ n6_ n7_ n8_ n9_ n10_; clear hb hbox hg; have hnb9 := NB239_230.out; have hnc9 := NB230_239.out; have hnb10 := NB239_233.out; have hnc10 := NB233_239.out; have hcz11_0 : w8.cell? ⟨gb239, 0, none⟩ = some (.int .i64 0) := (blk_cell BK239.out 0).trans rfl; have hcz11_1 : w8.cell? ⟨gb239, 1, none⟩ = some (.slice none 0 0) := (blk_cell BK239.out 1).trans rfl; have hfz11_0 := blk_frozen BK239.out 0; have hfz11_1 := blk_frozen BK239.out 1; obtain ⟨Ao12, co12, eo12⟩ := Kd.R_slice HO237.out; subst eo12) | ((with_reducible refine gate_dst (N := 12) rfl ?_); refine Kd.R_lit (Kd.int .i64) _ 2 ?hg (N := 12) ?hd (xs := ([] : List Int)) (inner := []) (ok := fun _ => True) (okp := fun _ => True) ?hr ?hp (fun _ hk => hk) trivial (Below.refl _ _) (Nat.le_refl _) (by simp) ?_; (case hd => rfl); (case hg => rfl); (case hr => exact zq5); (case hp => exact (Reps.none _ _)); intro v241 w13 ho14 hb hg_ hnew_; clear hg_ hnew_; (first | rw [← Ny240.out] at ho14 | (simp only [Int.reduceToNat] at ho14; rw [← Ny240.out] at ho14)); have n0_ := Aside0.mk (Kd.R_below (by (with_reducible repeat (first | apply Kd.R_alloc | apply Kd.R_drewN | apply Kd.R_drew)); exact (Kd.R_mono (Kd.R_far (p := ⟨gb239, 1, none⟩) (Kd.R_far (p := ⟨gb239, 0, none⟩) (Kd.R_types HO237.out BK239.out (by decide)) (fun _ hk => hk.2) (.int .i64 t234)) (fun _ hk => hk.2) (.slice Ao12 t235.length co12)) (fun _ h_ => h_.1))) hb); have n1_ := Aside0.mk (Kd.R_lower ho14 (below_size zq140)); have n2_ := Aside0.mk (blk_below (g := gb230) (o := .cells #[.int .i64 0, .slice none 0 0] 57 (0, 0)) (by (with_reducible repeat (first | refine blk_drewN ?_ _ | refine blk_drew ?_ | refine blk_alloc ?_ _)); refine blk_far ?_ NB230_239.out _; (with_reducible repeat (first | refine blk_drewN ?_ _ | refine blk_drew ?_ | refine blk_alloc ?_ _)); refine blk_far ?_ NB230_239.out _; (with_reducible repeat (first | refine blk_drewN ?_ _ | refine blk_drew ?_ | refine blk_alloc ?_ _)); exact BK230.out) hb); have n3_ := Aside0.mk (IsS110.below (show IsS110 w ((w8.setCell ⟨gb239, 0, none⟩ (.int .i64 t234)).setCell ⟨gb239, 1, none⟩ (.slice Ao12 t235.length co12)) g233 t231 t238 from by repeat (first | (with_reducible first | exact HI233.out | apply IsS110.alloc | apply IsS110.drewN | apply IsS110.drew | apply IsS110.set_1 | refine IsS110.far ?_ NB233_230.out _ | refine IsS110.far ?_ NB233_239.out _) | exact HI233.out)) hb); have n4_ := Aside0.mk (blk_below (g := gb239) (o := .cells #[.int .i64 t234, .slice Ao12 t235.length co12] 57 (0, 0)) (by (with_reducible repeat (first | refine blk_drewN ?_ _ | refine blk_drew ?_ | refine blk_alloc ?_ _)); refine blk_put (cs := #[.int .i64 t234, .slice none 0 0]) ?_ 1 _ rfl; (with_reducible repeat (first | refine blk_drewN ?_ _ | refine blk_drew ?_ | refine blk_alloc ?_ _)); refine blk_put (cs := #[.int .i64 0, .slice none 0 0]) ?_ 0 _ rfl; (with_reducible repeat (first | refine blk_drewN ?_ _ | refine blk_drew ?_ | refine blk_alloc ?_ _)); exact BK239.out) hb); have n5_ := Aside0.mk (below_step zq140 hb); clear HO237; clear BK230; clear HI233; clear BK239; clear HB; have HO237 := n0_; have HO242 := n1_; have BK230 := n2_; have HI233 := n3_; have BK239 := n4_; have HB := n5_; clear n0_ n1_ n2_ n3_ n4_ n5_; clear hb ho14) | ((with_reducible refine gate_callee (f := 63) rfl ?_); refine goesL_ (some 14) rfl rfl Try.func63 (by kernel_rfl) rfl #[.pointer (some ⟨g233, 0, none⟩), .int .i64 3] rfl zq12 ?_; (with_reducible refine (spec_l1Rd_below.calls g233 t231 t238 3 t243 t244 w _ ?side1 ?side2 A4.out).mono ?_); (case side1 => exact zq141); (case side2 => exact zq140); rintro e w15 ⟨rfl, hi, hb, hk⟩; refine ⟨_, rfl, ?_⟩; have n0_ := Aside0.mk (KeepBut.blk hk (g' := gb230) (o := .cells #[.int .i64 0, .slice none 0 0] 57 (0, 0)) zq136 NB230_233.out (by simp)); have n1_ := Aside0.mk (Kd.R_mono (Kd.R_keep (IsS110.apart (show IsS110 w _ g233 t231 t238 from by repeat (first | (with_reducible first | exact HI233.out | apply IsS110.alloc | apply IsS110.drewN | apply IsS110.drew | apply IsS110.set_1 | refine IsS110.far ?_ NB233_230.out _ | refine IsS110.far ?_ NB233_239.out _) | exact HI233.out)) zq139 (by decide)) hk (fun _ h => h.2)) (fun _ h => h.1)); have n2_ := Aside0.mk (KeepBut.blk hk (g' := gb239) (o := .cells #[.int .i64 t234, .slice Ao12 t235.length co12] 57 (0, 0)) zq142 NB239_233.out (by simp)); have n3_ := Aside0.mk (Kd.R_mono (Kd.R_keep (IsS110.apart (show IsS110 w _ g233 t231 t238 from by repeat (first | (with_reducible first | exact HI233.out | apply IsS110.alloc | apply IsS110.drewN | apply IsS110.drew | apply IsS110.set_1 | refine IsS110.far ?_ NB233_230.out _ | refine IsS110.far ?_ NB233_239.out _) | exact HI233.out)) zq143 (by decide)) hk (fun _ h => h.2)) (fun _ h => h.1)); have n4_ := Aside0.mk (hb); have n5_ := Aside0.mk (hi); clear BK230; clear HO237; clear BK239; clear HO242; clear HB; clear HI233; have BK230 := n0_; have HO237 := n1_; have BK239 := n2_; have HO242 := n3_; have HB := n4_; have HI233 := n5_; clear n0_ n1_ n2_ n3_ n4_ n5_; (try clear hb); (try clear hb2); (try clear hk); (try clear hi)))
 go_loopg [6, 7] k (fun kq v6 v7 w' => ∃ (x6_1 : List Int) (x7_1 : Int) (x234001_1 : Int), v7 = .int .i64 x7_1 ∧ Aside0 (spec_DrawCutting.l0 kq x6_1 x7_1 t231 x234001_1 t234 t235 = some (r1, r2, r3)) ∧ Aside0 (kq ≤ k) ∧ Aside0 (Kd.R (Kd.int .i64) 2 w' w.heap.size (fun _ => True) v6 x6_1) ∧ Aside0 (Kd.R k59 59 w' w.heap.size (fun _ => True) (.slice Ao12 t235.length co12) t235) ∧ Aside0 (w'.heap[gb230]? = some (.cells #[.int .i64 0, (.slice none 0 0)] 57 (0, 0))) ∧ Aside0 (w'.heap[gb239]? = some (.cells #[.int .i64 t234, (.slice Ao12 t235.length co12)] 57 (0, 0))) ∧ Aside0 (IsS110 w w' g233 t231 x234001_1) ∧ Aside0 (Below w.heap.size w w'))
 case atStart => exact ⟨(y240), (t243), (t244), zq1, H', ⟨Nat.le_refl _⟩, ⟨zq143⟩, ⟨zq139⟩, ⟨zq136⟩, ⟨zq142⟩, ⟨zq141⟩, ⟨zq140⟩⟩
 case round =>
  clear H'
  try clear c1
  try clear p2
  try clear c5
  try clear c6
  try clear c9
  try clear c10
  try clear hcz11_0
  try clear hcz11_1
  try clear hfz11_0
  try clear hfz11_1
  obtain ⟨x6_1, x7_1, x234001_1, rfl, HA, HK1, HO_6, HO_240001, BK230, BK239, HI233, HB⟩ := hrel
  cases gk with
  | zero => exact absurd HA.out (by simp [spec_DrawCutting.l0])
  | succ k1 =>
   have H := HA.out
   clear HA
   simp only [spec_DrawCutting.l0] at H
   by_cases c16 : x7_1 > 0
   ·
    rw [if_pos c16] at H
    have c16b0 : decide (0 < x7_1) = true := decide_eq_true c16
    clear c16
    replace H := Option.bind_eq_some_iff.mp H
    obtain ⟨⟨t245, t246⟩, A170, H⟩ := H
    replace H : (if x6_1.length < 17592186044416 then (spec_DrawCutting.l0 k1 (x6_1 ++ [wrap64 (1 + t245)]) (wrap64 (x7_1 - 1)) t231 t246 t234 t235) else (none)) = some (r1, r2, r3) := H
    have A17 := Aside0.mk A170
    clear A170
    by_cases c18 : x6_1.length < 17592186044416
    ·
     rw [if_pos c18] at H
     have LMc18 := Aside0.mk c18
     clear c18
     obtain ⟨y247, hy247⟩ : ∃ y_ : List Int, y_ = (x6_1 ++ [wrap64 (1 + t245)]) := ⟨_, rfl⟩
     replace H : (spec_DrawCutting.l0 k1 y247 (wrap64 (x7_1 - 1)) t231 t246 t234 t235) = some (r1, r2, r3) := by first | (rw [hy247]; with_reducible exact H) | (have H2_ := (Option.bind_some _ _).symm.trans H; rw [hy247]; with_reducible exact H2_) | (have H2_ := (Option.bind_some _ _).symm.trans H; with_reducible exact H2_) | with_reducible exact H | (rw [hy247]; exact H) | exact H
     have Ny247 := Aside0.mk hy247
     clear hy247
     have H' := Aside0.mk H
     clear H
     go_wp2_with (first | ((with_reducible refine gate_callee (f := 63) rfl ?_); refine goesL_ (some 21) rfl rfl Try.func63 (by kernel_rfl) rfl #[.pointer (some ⟨g233, 0, none⟩), .int .i64 3] rfl zq12 ?_; (with_reducible refine (spec_l1Rd_below.calls g233 t231 x234001_1 3 t245 t246 w _ ?side1 ?side2 A17.out).mono ?_); (case side1 => exact zq141); (case side2 => exact zq140); rintro e w19 ⟨rfl, hi, hb, hk⟩; refine ⟨_, rfl, ?_⟩; have n0_ := Aside0.mk (Kd.R_mono (Kd.R_keep (IsS110.apart (show IsS110 w _ g233 t231 x234001_1 from by repeat (first | (with_reducible first | exact HI233.out | apply IsS110.alloc | apply IsS110.drewN | apply IsS110.drew | apply IsS110.set_1 | refine IsS110.far ?_ NB233_230.out _ | refine IsS110.far ?_ NB233_239.out _) | exact HI233.out)) zq144 (by decide)) hk (fun _ h => h.2)) (fun _ h => h.1)); have n1_ := Aside0.mk (Kd.R_mono (Kd.R_keep (IsS110.apart (show IsS110 w _ g233 t231 x234001_1 from by repeat (first | (with_reducible first | exact HI233.out | apply IsS110.alloc | apply IsS110.drewN | apply IsS110.drew | apply IsS110.set_1 | refine IsS110.far ?_ NB233_230.out _ | refine IsS110.far ?_ NB233_239.out _) | exact HI233.out)) zq145 (by decide)) hk (fun _ h => h.2)) (fun _ h => h.1)); have n2_ := Aside0.mk (KeepBut.blk hk (g' := gb230) (o := .cells #[.int .i64 0, .slice none 0 0] 57 (0, 0)) zq136 NB230_233.out (by simp)); have n3_ := Aside0.mk (KeepBut.blk hk (g' := gb239) (o := .cells #[.int .i64 t234, .slice Ao12 t235.length co12] 57 (0, 0)) zq142 NB239_233.out (by simp)); have n4_ := Aside0.mk (hb); have n5_ := Aside0.mk (hi); clear HO_6; clear HO_240001; clear BK230; clear BK239; clear HB; clear HI233; have HO_6 := n0_; have HO_240001 := n1_; have BK230 := n2_; have BK239 := n3_; have HB := n4_; have HI233 := n5_; clear n0_ n1_ n2_ n3_ n4_ n5_; (try clear hb); (try clear hb2); (try clear hk); (try clear hi)) | ((with_reducible refine gate_builtin (b := .append) (xs := #[.tmp 19, .tmp 23]) rfl ?_); at_builtin; refine Kd.R_append (Kd.int .i64) (w0 := w) w.heap.size rfl (.tmp 19) (.tmp 23) 72 2 (.int .i64 0) 8 rfl Try.underlying72 info2 rfl (by decide) (by omega) u6 x6_1 (wrap64 (1 + t245)) [.int .i64 (wrap64 (1 + t245))] (fun _ => True) (fun _ => False) rfl rfl ?aP (fun _ hk => hk.elim) ?aF ?aO ?aB ?aS ?aL ?_; (case aP => exact rfl); (case aB => exact zq140); (case aF => exact zq86); (case aO => exact zq144); (case aS => exact (below_size zq140)); (case aL => have := LMc18.out; omega); intro v248 w20 ho hb hg hat; rw [← Ny247.out] at ho; have n0_ := Aside0.mk (Kd.R_over' zq145 (Kd.R_typed zq144) (by decide) hg); have n1_ := Aside0.mk (blk_grown (g := gb230) (o := .cells #[.int .i64 0, .slice none 0 0] 57 (0, 0)) zq136 hg (Kd.R_ne HO_6.out BK230.out (by decide))); have n2_ := Aside0.mk (blk_grown (g := gb239) (o := .cells #[.int .i64 t234, .slice Ao12 t235.length co12] 57 (0, 0)) zq142 hg (Kd.R_ne HO_6.out BK239.out (by decide))); have n3_ := Aside0.mk (IsS110.grown zq141 hg (IsS110.own_ne HI233.out HO_6.out (by decide))); have n4_ := Aside0.mk (hb); have n5_ := Aside0.mk (ho); clear HO_240001; clear BK230; clear BK239; clear HI233; clear HB; clear HO_6; have HO_240001 := n0_; have BK230 := n1_; have BK239 := n2_; have HI233 := n3_; have HB := n4_; have HO249 := n5_; clear n0_ n1_ n2_ n3_ n4_ n5_; clear ho hb hg hat))
     go_roundg k1
     case measure => have := HK1.out; omega
     case rel => exact ⟨(y247), (wrap64 (x7_1 - 1)), (t246), zq1, H', ⟨zq4⟩, ⟨by (with_reducible repeat (first | apply Kd.R_alloc | apply Kd.R_drewN | apply Kd.R_drew)); exact HO249.out⟩, ⟨zq145⟩, ⟨zq136⟩, ⟨zq142⟩, ⟨zq141⟩, ⟨zq140⟩⟩
    ·
     rw [if_neg c18] at H
     exact absurd H (by simp)
   ·
    rw [if_neg c16] at H
    have c16b0 : decide (0 < x7_1) = false := decide_eq_false c16
    clear c16
    simp only [Option.some.injEq, Prod.mk.injEq] at H
    obtain ⟨rfl, rfl, rfl⟩ := H
    have hnb21 := NB239_230.out
    have hnc21 := NB230_239.out
    have hnb22 := NB239_233.out
    have hnc22 := NB233_239.out
    have hcz23_0 : wr.cell? ⟨gb239, 0, none⟩ = some (.int .i64 t234) := (blk_cell BK239.out 0).trans rfl
    have hcz23_1 : wr.cell? ⟨gb239, 1, none⟩ = some (.slice Ao12 t235.length co12) := (blk_cell BK239.out 1).trans rfl
    have hfz23_0 := blk_frozen BK239.out 0
    have hfz23_1 := blk_frozen BK239.out 1
    have hnb24 := NB230_233.out
    have hnc24 := NB233_230.out
    have hcz25_0 : wr.cell? ⟨gb230, 0, none⟩ = some (.int .i64 0) := (blk_cell BK230.out 0).trans rfl
    have hcz25_1 : wr.cell? ⟨gb230, 1, none⟩ = some (.slice none 0 0) := (blk_cell BK230.out 1).trans rfl
    have hfz25_0 := blk_frozen BK230.out 0
    have hfz25_1 := blk_frozen BK230.out 1
    go_wp2
    refine bodyPost_ret (results_ct rfl _ _ gb230 57 #[.int .i64 t234, .slice Ao12 t235.length co12] (0, 0) _ rfl (by (with_reducible repeat (first | refine blk_drewN ?_ _ | refine blk_drew ?_ | refine blk_alloc ?_ _)); refine blk_put (cs := #[.int .i64 t234, .slice none 0 0]) ?_ 1 _ rfl; (with_reducible repeat (first | refine blk_drewN ?_ _ | refine blk_drew ?_ | refine blk_alloc ?_ _)); refine blk_put (cs := #[.int .i64 0, .slice none 0 0]) ?_ 0 _ rfl; (with_reducible repeat (first | refine blk_drewN ?_ _ | refine blk_drew ?_ | refine blk_alloc ?_ _)); exact BK230.out) Try.underlying57 rfl (by kernel_rfl)) rfl ?_
    exact ⟨_, _, zq8, by (with_reducible repeat (first | apply Kd.R_alloc | apply Kd.R_drewN | apply Kd.R_drew)); exact Kd.R_mono (Kd.R_far (p := ⟨gb230, 1, none⟩) (Kd.R_far (p := ⟨gb230, 0, none⟩) (Kd.R_types HO_240001.out BK230.out (by decide)) (fun _ hk => hk.2) (.int .i64 t234)) (fun _ hk => hk.2) (.slice Ao12 t235.length co12)) (fun _ hk => trivial), by (with_reducible repeat (first | apply Kd.R_alloc | apply Kd.R_drewN | apply Kd.R_drew)); exact Kd.R_mono (Kd.R_far (p := ⟨gb230, 1, none⟩) (Kd.R_far (p := ⟨gb230, 0, none⟩) (Kd.R_types HO_6.out BK230.out (by decide)) (fun _ hk => hk.2) (.int .i64 t234)) (fun _ hk => hk.2) (.slice Ao12 t235.length co12)) (fun _ hk => trivial), zq140⟩

/-! ### spec_l1Ints: function 97 -/
def spec_l1Ints.l0 : Nat → List Int → Int → Int → Option (Bool)
 | 0, _, _, _ => none
 | k + 1, x0, x1, x5 => if x5 < (x0.length : Int) then (if 0 ≤ x5 then (if (rd x0 x5) = x1 then (some true) else (spec_l1Ints.l0 k x0 x1 (wrap64 (x5 + 1)))) else (none)) else (some false)
def spec_l1Ints.f (k : Nat) (l0 : List Int) (a1 : Int) : Option (Bool) := spec_l1Ints.l0 k l0 a1 0
theorem spec_l1Ints.mono_l : ∀ k, (∀ y0 y1 y2, LeO (spec_l1Ints.l0 k y0 y1 y2) (spec_l1Ints.l0 (k + 1) y0 y1 y2))
 | 0 => fun _ _ _ r h => by simp [spec_l1Ints.l0] at h
 | k + 1 => by
  have ih0 := spec_l1Ints.mono_l k
  ·
   intro y0 y1 y2
   unfold spec_l1Ints.l0
   repeat' first
   | (with_reducible exact ih0 _ _ _)
   | (with_reducible exact LeO.refl _)
   | (with_reducible exact LeO.none _)
   | (with_reducible refine LeO.ite ?_ ?_)
   | (with_reducible refine LeO.bind ?_ (fun _ => ?_))
   | exact ih0 _ _ _
   | exact LeO.none _
   | refine LeO.ite ?_ ?_
   | refine LeO.bind ?_ (fun _ => ?_)
theorem spec_l1Ints.mono : ∀ a0 a1 k, LeO (spec_l1Ints.f k a0 a1) (spec_l1Ints.f (k + 1) a0 a1) := by
 intro a0 a1 k
 have ih0 := spec_l1Ints.mono_l k
 unfold spec_l1Ints.f
 repeat' first
   | (with_reducible exact ih0 _ _ _)
   | (with_reducible exact LeO.refl _)
   | (with_reducible exact LeO.none _)
   | (with_reducible refine LeO.ite ?_ ?_)
   | (with_reducible refine LeO.bind ?_ (fun _ => ?_))
   | exact ih0 _ _ _
   | exact LeO.none _
   | refine LeO.ite ?_ ?_
   | refine LeO.bind ?_ (fun _ => ?_)
set_option maxHeartbeats 8000000 in
set_option maxRecDepth 100000 in
theorem spec_l1Ints.calls (k : Nat) (A0 : Option Addr) (c0 : Nat) (l0 : List Int) (a1 : Int) (r : Bool) (w : World) (hr0 : Kd.C (Kd.int .i64) w A0 l0.length l0) (hc0 : l0.length ≤ c0) (h : spec_l1Ints.f k l0 a1 = some r) :
  Calls Try.prog 97 #[.slice A0 l0.length c0, .int .i64 a1] w fun e w' => e = .returned (.bool r) ∧ Drawn0 w w' := by
 have HR0 := Aside0.mk hr0
 have HC0 := Aside0.mk hc0
 clear hr0 hc0
 have H : (spec_l1Ints.l0 k l0 a1 0) = some r := h
 clear h
 have H' := Aside0.mk H
 clear H
 go_enter Try.func97, Try.ntmps97
 go_wp2
 go_loopg [5] k (fun kq v5 w' => ∃ (x5_1 : Int), v5 = .int .i64 x5_1 ∧ Aside0 (spec_l1Ints.l0 kq l0 a1 x5_1 = some r) ∧ Aside0 (kq ≤ k) ∧ Drawn0 w w')
 case atStart => exact ⟨(0), zq1, H', ⟨Nat.le_refl _⟩, zq2⟩
 case round =>
  clear H'
  try clear p2
  obtain ⟨x5_1, rfl, HA, HK1, ⟨m1, rfl⟩⟩ := hrel
  cases gk with
  | zero => exact absurd HA.out (by simp [spec_l1Ints.l0])
  | succ k1 =>
   have H := HA.out
   clear HA
   simp only [spec_l1Ints.l0] at H
   by_cases c3 : x5_1 < (l0.length : Int)
   ·
    rw [if_pos c3] at H
    have c3b0 : decide (x5_1 < (l0.length : Int)) = true := decide_eq_true c3
    clear c3
    by_cases c4 : 0 ≤ x5_1
    ·
     rw [if_pos c4] at H
     have c4b0 : decide (0 ≤ x5_1) = true := decide_eq_true c4
     clear c4
     by_cases c5 : (rd l0 x5_1) = a1
     ·
      rw [if_pos c5] at H
      have c5b0 : ((rd l0 x5_1) == a1) = true := beq_iff_eq.mpr c5
      have c5b1 : ((rd l0 x5_1) != a1) = false := bne_eq_false_iff_eq.mpr c5
      clear c5
      obtain rfl := Option.some.inj H
      have p250 : 0 ≤ (x5_1 : Int) := of_decide_eq_true zq3
      have q250 : x5_1 < (l0.length : Int) := of_decide_eq_true zq3
      obtain ⟨ad250, e250, hx250_0⟩ := Kd.at_int HR0.out x5_1 p250 q250
      cases e250
      replace p250 := eq_true p250
      replace q250 := eq_true q250
      go_wp2
      go_ret
      exact ⟨zq1, zq2⟩
     ·
      rw [if_neg c5] at H
      have c5b0 : ((rd l0 x5_1) == a1) = false := beq_eq_false_iff_ne.mpr c5
      have c5b1 : ((rd l0 x5_1) != a1) = true := bne_iff_ne.mpr c5
      have H' := Aside0.mk H
      clear H
      have p250 : 0 ≤ (x5_1 : Int) := of_decide_eq_true zq3
      have q250 : x5_1 < (l0.length : Int) := of_decide_eq_true zq3
      obtain ⟨ad250, e250, hx250_0⟩ := Kd.at_int HR0.out x5_1 p250 q250
      cases e250
      replace p250 := eq_true p250
      replace q250 := eq_true q250
      go_wp2
      go_roundg k1
      case measure => have := HK1.out; omega
      case rel => exact ⟨(wrap64 (x5_1 + 1)), zq1, H', ⟨zq4⟩, zq2⟩
    exact zq237
   ·
    rw [if_neg c3] at H
    have c3b0 : decide (x5_1 < (l0.length : Int)) = false := decide_eq_false c3
    clear c3
    obtain rfl := Option.some.inj H
    go_wp2
    go_ret
    exact ⟨zq1, zq2⟩

end Go.Proofs.Ytjcejdajbapliaa.QFnCut
